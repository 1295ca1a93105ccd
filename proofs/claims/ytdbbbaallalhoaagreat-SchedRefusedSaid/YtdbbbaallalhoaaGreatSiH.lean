/-
  PROVED HERE: the reference's Invoke: a client that there is not, one that is busy, a call that may not be: its error, and nothing is turned; else the client's slot is taken, the history has one entry more. Conditions: the table lies as named.
-/
import Derived.Test.YtdbbbaallalhoaaGreatSiG
namespace Go.Proofs.YtdbbbaallalhoaaGreat.si
open Go.RowKit Go.Proofs.YtdbbbaallalhoaaGreat.pm Go.Proofs.YtdbbbaallalhoaaGreat.ar Go.Proofs.YtdbbbaallalhoaaGreat.bt Go.Proofs.YtdbbbaallalhoaaGreat.sl Go.Proofs.YtdbbbaallalhoaaGreat.rn
set_option linter.unusedVariables false
attribute [-go_sem] Builtin.append_ Instr.buildSlice Instr.build

theorem has_shape {W : World} {hv : Value} {ints : List Value} (has : RowAt W 3 1 hv 2 ints) : ∃ gb off cap, hv = .slice (some ⟨gb, off, none⟩) 2 cap ∧ 2 ≤ cap ∧ cap ≤ maxLen ∧ ints.length = 2 := by
  obtain ⟨ao, cap, rfl, h1, h2⟩ := row_shape has
  have hl := has.1
  rcases has.2 with ⟨e, _⟩ | ⟨g, off, cap', cur, e, _⟩
  · cases e
  · cases e; exact ⟨g, off, cap, rfl, h1, h2, by simpa using hl⟩
/-- The reference's table. -/
structure RTab (W : World) (wb : Nat) (lv hv : Value) (n : Nat) (xs ints : List Value) : Prop where
  blk : W.heap[wb]? = some (.cells (rtArr lv hv n) 75 (0, 0))
  hist : RowAt W 72 11 lv n xs
  has : RowAt W 3 1 hv 2 ints
  few : n ≤ 100
theorem RTab.keeps {W W' : World} {wb n : Nat} {lv hv : Value} {xs ints : List Value} (h : RTab W wb lv hv n xs ints) (hk : Keeps [] W W') : RTab W' wb lv hv n xs ints :=
  ⟨(hk.block wb (lt_of h.blk) (by simp)).trans h.blk, h.hist.same fun q hq => hk.block q (h.hist.lt hq) (by simp), h.has.same fun q hq => hk.block q (h.has.lt hq) (by simp), h.few⟩
section
variable {W : World} {wb n : Nat} {lv hv : Value} {xs ints : List Value}
set_option maxRecDepth 100000 in
set_option maxHeartbeats 1000000 in
theorem rinvoke_neg (h : RTab W wb lv hv n xs ints) (c op k hi l : Int) (v : ByteArray) (hc : c < 0) :
    Calls Tryz.prog 7 #[.pointer (some ⟨wb, 0, none⟩), .int .i64 c, .agg (caArr op k hi l v)] W fun e w' => e = .returned (.int .i64 12) ∧ Keeps [] W w' := by
  obtain ⟨W1, hW1⟩ : ∃ W1, W1 = W.alloc (.cells (caArr op k hi l v) 28) := ⟨_, rfl⟩
  have HK := Lib.hid (show Keeps [] W W1 by rw [hW1]; exact Keeps.alloc _ _)
  have hal : W.alloc (.cells (caArr op k hi l v) 28) = W1 := hW1.symm
  unfold caArr at hal ⊢
  clear h hW1
  go_enter Tryz.func7, Tryz.ntmps7
  go_wp2_with fail
  go_ret
  exact ⟨rfl, HK.out⟩
set_option maxRecDepth 100000 in
set_option maxHeartbeats 1000000 in
theorem rinvoke_big (h : RTab W wb lv hv n xs ints) (c op k hi l : Int) (v : ByteArray) (hc0 : 0 ≤ c) (hc : 2 ≤ c) :
    Calls Tryz.prog 7 #[.pointer (some ⟨wb, 0, none⟩), .int .i64 c, .agg (caArr op k hi l v)] W fun e w' => e = .returned (.int .i64 12) ∧ Keeps [] W w' := by
  obtain ⟨W1, hW1⟩ : ∃ W1, W1 = W.alloc (.cells (caArr op k hi l v) 28) := ⟨_, rfl⟩
  have hk1 : Keeps [] W W1 := by rw [hW1]; exact Keeps.alloc _ _
  have h1 := h.keeps hk1
  obtain ⟨gb, off, cap, rfl, hcp, hcm, hl2⟩ := has_shape h.has
  have c1 : W1.cell? ⟨wb, 1, none⟩ = some (.slice (some ⟨gb, off, none⟩) 2 cap) := cell_of h1.blk rfl
  have HK := Lib.hid hk1
  have hal : W.alloc (.cells (caArr op k hi l v) 28) = W1 := hW1.symm
  unfold caArr at hal ⊢
  clear h h1 hW1 hk1 hl2
  go_enter Tryz.func7, Tryz.ntmps7
  go_wp2_with fail
  go_ret
  exact ⟨rfl, HK.out⟩
set_option maxRecDepth 100000 in
set_option maxHeartbeats 1000000 in
theorem rinvoke_busy (h : RTab W wb lv hv n xs ints) (j : Nat) (a op k hi l : Int) (v : ByteArray) (hj : j < 2) (ha : ints[j]? = some (.int .i64 a)) (ha0 : 0 ≤ a) :
    Calls Tryz.prog 7 #[.pointer (some ⟨wb, 0, none⟩), .int .i64 j, .agg (caArr op k hi l v)] W fun e w' => e = .returned (.int .i64 13) ∧ Keeps [] W w' := by
  obtain ⟨W1, hW1⟩ : ∃ W1, W1 = W.alloc (.cells (caArr op k hi l v) 28) := ⟨_, rfl⟩
  have hk1 : Keeps [] W W1 := by rw [hW1]; exact Keeps.alloc _ _
  have h1 := h.keeps hk1
  obtain ⟨gb, off, cap, rfl, hcp, hcm, hl2⟩ := has_shape h.has
  have c1 : W1.cell? ⟨wb, 1, none⟩ = some (.slice (some ⟨gb, off, none⟩) 2 cap) := cell_of h1.blk rfl
  have d0 := h1.has.cell ha
  have HK := Lib.hid hk1
  have hjI : (j : Int) < 2 := by omega
  have hal : W.alloc (.cells (caArr op k hi l v) 28) = W1 := hW1.symm
  unfold caArr at hal ⊢
  clear h h1 hW1 hk1 hl2 ha
  go_enter Tryz.func7, Tryz.ntmps7
  go_wp2_with fail
  go_ret
  exact ⟨rfl, HK.out⟩
set_option maxRecDepth 100000 in
set_option maxHeartbeats 1000000 in
theorem rinvoke_bad (h : RTab W wb lv hv n xs ints) (j : Nat) (a op k hi l : Int) (v : ByteArray) (hj : j < 2) (ha : ints[j]? = some (.int .i64 a)) (ha0 : a < 0) (hm : mayE op k hi l v ≠ 0) :
    Calls Tryz.prog 7 #[.pointer (some ⟨wb, 0, none⟩), .int .i64 j, .agg (caArr op k hi l v)] W fun e w' => e = .returned (.int .i64 (mayE op k hi l v)) ∧ Keeps [] W w' := by
  obtain ⟨W1, hW1⟩ : ∃ W1, W1 = W.alloc (.cells (caArr op k hi l v) 28) := ⟨_, rfl⟩
  have hk1 : Keeps [] W W1 := by rw [hW1]; exact Keeps.alloc _ _
  have hb1 : W1.heap[W.heap.size]? = some (.cells (caArr op k hi l v) 28 (0, 0)) := by rw [hW1]; exact alloc_new
  have h1 := h.keeps hk1
  obtain ⟨gb, off, cap, rfl, hcp, hcm, hl2⟩ := has_shape h.has
  have c1 : W1.cell? ⟨wb, 1, none⟩ = some (.slice (some ⟨gb, off, none⟩) 2 cap) := cell_of h1.blk rfl
  have d0 := h1.has.cell ha
  have k0 : W1.cell? ⟨W.heap.size, 0, none⟩ = some (.int .i64 op) := cell_of hb1 rfl
  have k1 : W1.cell? ⟨W.heap.size, 1, none⟩ = some (.int .u64 k) := cell_of hb1 rfl
  have k2 : W1.cell? ⟨W.heap.size, 2, none⟩ = some (.int .u64 hi) := cell_of hb1 rfl
  have k3 : W1.cell? ⟨W.heap.size, 3, none⟩ = some (.int .i64 l) := cell_of hb1 rfl
  have k4 : W1.cell? ⟨W.heap.size, 4, none⟩ = some (.string v) := cell_of hb1 rfl
  have HK := Lib.hid hk1
  have HM := Lib.hid (rmay_any op k hi l v W1)
  have hjI : (j : Int) < 2 := by omega
  have hal : W.alloc (.cells (caArr op k hi l v) 28) = W1 := hW1.symm
  obtain ⟨x, hx⟩ : ∃ x, x = mayE op k hi l v := ⟨_, rfl⟩
  rw [← hx] at HM hm ⊢
  have b0 : (x == 0) = false := by simpa using hm
  have b1 : (x != 0) = true := by simpa using hm
  unfold caArr at hal HM ⊢
  clear h h1 hW1 hk1 hl2 ha hb1 hx hm
  go_enter Tryz.func7, Tryz.ntmps7
  go_wp2_with fail
  refine HM.out.mono ?_
  rintro e w2 ⟨rfl, hk2⟩
  have HK2 := Lib.hid hk2; clear hk2
  go_wp2_with fail
  go_ret
  exact ⟨rfl, HK.out.trans HK2.out (by simp)⟩
def RInvP (W : World) (wb j n : Nat) (lv hv : Value) (xs ints : List Value) (op k hi l : Int) (v : ByteArray) (e : Ending) (w' : World) : Prop :=
  ∃ lv', e = .returned (.int .i64 0) ∧ w'.heap[wb]? = some (.cells (rtArr lv' hv (n + 1 : Nat)) 75 (0, 0)) ∧ RowAt w' 72 11 lv' (n + 1) (xs ++ dnL j op k hi l v n) ∧ RowAt w' 3 1 hv 2 (ints.set j (.int .i64 n))
    ∧ Keeps (wb :: (hv.ownBlock.toList ++ lv.ownBlock.toList)) W w' ∧ (lv'.ownBlock = lv.ownBlock ∨ ∃ q, lv'.ownBlock = some q ∧ W.heap.size ≤ q)
set_option maxRecDepth 100000 in
set_option maxHeartbeats 4000000 in
theorem rinvoke_ok (h : RTab W wb lv hv n xs ints) (j : Nat) (a op k hi l : Int) (v : ByteArray) (hj : j < 2) (ha : ints[j]? = some (.int .i64 a)) (ha0 : a < 0) (hm : mayE op k hi l v = 0) :
    Calls Tryz.prog 7 #[.pointer (some ⟨wb, 0, none⟩), .int .i64 j, .agg (caArr op k hi l v)] W (RInvP W wb j n lv hv xs ints op k hi l v) := by
  obtain ⟨W1, hW1⟩ : ∃ W1, W1 = W.alloc (.cells (caArr op k hi l v) 28) := ⟨_, rfl⟩
  have hk1 : Keeps [] W W1 := by rw [hW1]; exact Keeps.alloc _ _
  have hb1 : W1.heap[W.heap.size]? = some (.cells (caArr op k hi l v) 28 (0, 0)) := by rw [hW1]; exact alloc_new
  obtain ⟨xb, hxb⟩ : ∃ xb, xb = W.heap.size := ⟨_, rfl⟩
  rw [← hxb] at hb1
  have h1 := h.keeps hk1
  obtain ⟨gb, off, cap, rfl, hcp, hcm, hl2⟩ := has_shape h.has
  obtain ⟨ao, cp, rfl, _, _⟩ := row_shape h.hist
  have few0 := h.few
  have hS : ∀ wx, Keeps [] W1 wx → (wx.cell? ⟨wb, 0, none⟩ = some (.slice ao n cp) ∧ wx.cell? ⟨wb, 1, none⟩ = some (.slice (some ⟨gb, off, none⟩) 2 cap) ∧ wx.cell? ⟨wb, 2, none⟩ = some (.int .i64 n) ∧ wx.cell? ⟨gb, off + j, none⟩ = some (.int .i64 a) ∧ wx.frozen? ⟨gb, off + j, none⟩ = false) := fun wx hk => by
    have g1 := h1.keeps hk
    exact ⟨cell_of g1.blk rfl, cell_of g1.blk rfl, cell_of g1.blk rfl, g1.has.cell ha, g1.has.free _⟩
  obtain ⟨c0, c1, c2, d0, f0⟩ := hS W1 (Keeps.refl _ _)
  have k0 : W1.cell? ⟨xb, 0, none⟩ = some (.int .i64 op) := cell_of hb1 rfl
  have k1 : W1.cell? ⟨xb, 1, none⟩ = some (.int .u64 k) := cell_of hb1 rfl
  have k2 : W1.cell? ⟨xb, 2, none⟩ = some (.int .u64 hi) := cell_of hb1 rfl
  have k3 : W1.cell? ⟨xb, 3, none⟩ = some (.int .i64 l) := cell_of hb1 rfl
  have k4 : W1.cell? ⟨xb, 4, none⟩ = some (.string v) := cell_of hb1 rfl
  have HX := Lib.hid (And.intro h1 (And.intro hk1 (And.intro ha (And.intro hxb hb1))))
  have HS := Lib.hid hS
  have HM := Lib.hid (rmay_any op k hi l v W1)
  rw [hm] at HM
  have hjI : (j : Int) < 2 := by omega
  have hal : W.alloc (.cells (caArr op k hi l v) 28) = W1 := hW1.symm
  have hxb' : W.heap.size = xb := hxb.symm
  unfold caArr at hal HM ⊢
  clear h h1 hW1 hk1 hl2 ha hb1 hxb hS hm
  go_enter Tryz.func7, Tryz.ntmps7
  go_wp2_with fail
  refine HM.out.mono ?_
  rintro e w2 ⟨rfl, hk2⟩
  obtain ⟨e0, e1, e2, q0, g0⟩ := HS.out w2 hk2
  have HK2 := Lib.hid hk2
  clear c0 c1 c2 d0 f0 k0 k1 k2 k3 k4 hxb' hk2
  go_upto_region 8 with fail
  go_cut [] from 32 to 43 (fun wx => ∃ w3, Keeps [] W1 w3 ∧ wx = w3.setCell ⟨gb, off + j, none⟩ (.int .i64 n))
  case first =>
    --<T
    go_region
    all_goals
      go_wp2_with fail
      go_meet
      exact ⟨_, HK2.out.trans (Keeps.drew _) (by simp), rfl⟩
    --T>
  case rest =>
  obtain ⟨w3, hk3, hwc⟩ := hcut
  obtain ⟨h1, hk1, ha, hxb, hb1⟩ := HX.out
  have hkc : Keeps [gb] W1 wc := by rw [hwc]; exact Keeps.trans (hk3.mono (by simp)) (Keeps.setCell _ _ _ _) (by simp)
  have hne1 : wb ≠ gb := fun e => row_apart_blk h1.has h1.blk (by decide) (by rw [e]; rfl)
  have hne2 : xb ≠ gb := fun e => row_apart_blk h1.has hb1 (by decide) (by rw [e]; rfl)
  have hag := row_apart h1.hist h1.has (by decide)
  have hat := row_apart_blk h1.hist h1.blk (by decide)
  have hcw := (hkc.block wb (lt_of h1.blk) (by simp [hne1])).trans h1.blk
  have hcx := (hkc.block xb (lt_of hb1) (by simp [hne2])).trans hb1
  have hcg : RowAt wc 3 1 (.slice (some ⟨gb, off, none⟩) 2 cap) 2 (ints.set j (.int .i64 n)) := by
    rw [hwc]; exact (h1.keeps hk3).has.set j (List.getElem?_eq_some_iff.1 ha).1 _
  have a0 : wc.cell? ⟨wb, 0, none⟩ = some (.slice ao n cp) := cell_of hcw rfl
  have a2 : wc.cell? ⟨wb, 2, none⟩ = some (.int .i64 n) := cell_of hcw rfl
  have v0 : wc.cell? ⟨xb, 0, none⟩ = some (.int .i64 op) := cell_of hcx rfl
  have v1 : wc.cell? ⟨xb, 1, none⟩ = some (.int .u64 k) := cell_of hcx rfl
  have v2 : wc.cell? ⟨xb, 2, none⟩ = some (.int .u64 hi) := cell_of hcx rfl
  have v3 : wc.cell? ⟨xb, 3, none⟩ = some (.int .i64 l) := cell_of hcx rfl
  have v4 : wc.cell? ⟨xb, 4, none⟩ = some (.string v) := cell_of hcx rfl
  obtain ⟨L, hL⟩ : ∃ L, L = dnL (j : Int) op k hi l v n := ⟨_, rfl⟩
  have hL11 : L.length = 11 := by rw [hL]; rfl
  have hbd2 : ∀ wx, (Instr.build 72 #[(0, .int .i64 j), (1, .agg (caArr op k hi l v)), (2, .int .i64 n), (3, .int .i64 (-1))]).run Tryz.prog wx = .ok (.agg L.toArray) wx := fun wx => run_build wx _ _ _ (by rw [hL]; exact built_done j op k hi l n v)
  unfold caArr at hbd2
  have hbs := one_done hL11 wc.drew
  obtain ⟨w5, hw5⟩ : ∃ w5, w5 = wc.drew.alloc (.cells L.toArray 72) := ⟨_, rfl⟩
  have hk5 : Keeps [] wc w5 := by rw [hw5]; exact (Keeps.drew wc).trans (Keeps.alloc _ _) (by simp)
  have hr5 : RowAt w5 72 11 (.slice ao n cp) n xs := h1.hist.same fun q hq => (hkc.trans hk5 (by simp)).block q (h1.hist.lt hq) (by simp; rintro rfl; exact hag hq)
  have hn5 : w5.heap[wc.heap.size]? = some (.cells L.toArray 72 (0, 0)) := by rw [hw5]; exact alloc_new
  obtain ⟨v', w8, hrun, hrow', hgrow, hblk', g5, o5, c5, rfl⟩ := app_done hr5 hL11 (by rw [hL]; intro u hu; simp only [dnL, List.mem_cons, List.not_mem_nil, or_false] at hu; rcases hu with rfl | rfl | rfl | rfl | rfl | rfl | rfl | rfl | rfl | rfl | rfl <;> rfl) h1.few hn5
  have hal5 : wc.drew.alloc (.cells L.toArray 72) = w5 := hw5.symm
  have hk8 := Keeps.grown hgrow
  have hb5 := (hk5.block wb (lt_of hcw) (by simp)).trans hcw
  have hb8 := (hk8.block wb (lt_of hb5) (by simpa only [Option.mem_toList] using hat)).trans hb5
  have s2 : w5.cell? ⟨wb, 0, none⟩ = some (.slice ao n cp) := cell_of hb5 rfl
  have t2 : w8.cell? ⟨wb, 0, none⟩ = some (.slice ao n cp) := cell_of hb8 rfl
  have u2 := free_of (i := 0) hb8
  have t3 : w8.cell? ⟨wb, 2, none⟩ = some (.int .i64 n) := cell_of hb8 rfl
  have u3 := free_of (i := 2) hb8
  have hX2 := Lib.hid (And.intro hkc (And.intro hcg (And.intro hk5 (And.intro hrow' (And.intro hk8 (And.intro hblk' (And.intro hb8 hL)))))))
  clear hwc h1 hk1 ha hxb hb1 hkc hne1 hne2 hag hat hcw hcx hcg hw5 hk5 hr5 hn5 hrow' hgrow hblk' hk8 hb5 hb8 hL hL11 hk3
  go_wp2_with fail
  go_region
  all_goals
    go_wp2_with fail
    go_ret
    obtain ⟨h1, hk1, ha, hxb, hb1⟩ := HX.out
    obtain ⟨hkc, hcg, hk5, hrow', hk8, hblk', hb8, hL⟩ := hX2.out
    have hne1 : wb ≠ gb := fun e => row_apart_blk h1.has h1.blk (by decide) (by rw [e]; rfl)
    have hag := row_apart h1.hist h1.has (by decide)
    have hvt := row_apart_blk hrow' hb8 (by decide)
    refine ⟨.slice (some ⟨g5, o5, none⟩) (n + 1) c5, rfl, ?_, ?_, ?_, ?_, ?_⟩
    · exact set_same (set_same hb8)
    · rw [hL] at hrow'
      exact hrow'.same fun q hq => (set_other (fun e => hvt (by rw [hq, e]))).trans (set_other (fun e => hvt (by rw [hq, e])))
    · refine hcg.same fun q hq => ?_
      cases hq
      exact (set_other hne1).trans ((set_other hne1).trans ((hk8.block gb (Nat.lt_of_lt_of_le (hcg.lt rfl) hk5.size) (by simpa only [Option.mem_toList] using hag)).trans (hk5.block gb (hcg.lt rfl) (by simp))))
    · refine ((((hk1.mono (by simp)).trans (hkc.mono (G := wb :: ((Value.slice (some ⟨gb, off, none⟩) 2 cap).ownBlock.toList ++ (Value.slice ao n cp).ownBlock.toList)) ?_) ?_).trans (hk5.mono (G := []) (by simp)) (by simp)).trans hk8 ?_).trans ((Keeps.setCell w8 wb 0 _).trans (Keeps.setCell _ wb 2 _) (by simp)) (by simp)
      · intro i hi; exact .inl (List.mem_cons_of_mem _ (List.mem_append_left _ hi))
      · intro i hi; exact .inl hi
      · intro i hi; exact .inl (List.mem_cons_of_mem _ (List.mem_append_right _ hi))
    · rcases hblk' with h1 | ⟨q, h1, h2⟩
      · exact .inl h1
      · exact .inr ⟨q, h1, by have := hk1.size; have := hkc.size; have := hk5.size; omega⟩
end
end Go.Proofs.YtdbbbaallalhoaaGreat.si
