/-
  PROVED HERE: sched's Invoke of a call that may be: the client has a machine, the history one entry more, the count is one more. Conditions: the table lies as named; the client has no call.
-/
import Derived.Test.YtdbbbaallalhoaaGreatSiF
namespace Go.Proofs.YtdbbbaallalhoaaGreat.si
open Go.RowKit Go.Proofs.YtdbbbaallalhoaaGreat.pm Go.Proofs.YtdbbbaallalhoaaGreat.ar Go.Proofs.YtdbbbaallalhoaaGreat.bt Go.Proofs.YtdbbbaallalhoaaGreat.sl Go.Proofs.YtdbbbaallalhoaaGreat.rn
set_option linter.unusedVariables false
attribute [-go_sem] Builtin.append_ Instr.buildSlice Instr.build

set_option maxRecDepth 1000000 in
theorem doneZero0 : (Tryz.prog.info? 72).map (fun i => (i.zero.map (fun v => v.cells.size), i.size, decide (i.bytes ≤ 1000))) = some (some 11, 11, true) := by kernel_rfl
theorem doneZero : ∃ i z, Tryz.prog.info? 72 = some i ∧ i.zero = some z ∧ z.cells.size = 11 ∧ i.size = 11 ∧ i.bytes ≤ 1000 := by
  have h := doneZero0
  cases hi : Tryz.prog.info? 72 with
  | none => rw [hi] at h; cases h
  | some i =>
    rw [hi] at h
    simp only [Option.map_some, Option.some.injEq, Prod.mk.injEq, decide_eq_true_eq] at h
    obtain ⟨h1, h2, h3⟩ := h
    cases hz : i.zero with
    | none => rw [hz] at h1; cases h1
    | some z => rw [hz] at h1; exact ⟨i, z, rfl, hz, by simpa using h1, h2, h3⟩
theorem one_done {L : List Value} (hL : L.length = 11) (w : World) : (Instr.buildSlice 41 1 #[(0, .agg L.toArray)]).run Tryz.prog w = .ok (.slice (some ⟨w.heap.size, 0, none⟩) 1 1) (w.alloc (.cells L.toArray 72)) := by
  obtain ⟨i0, z, hi0, hz0, hzs, hz1, hz2⟩ := doneZero
  refine run_buildSlice w 41 72 1 _ L.toArray i0 _ Tryz.underlying41 hi0 hz0 (by rw [hz1]; decide) (by omega) ?_
  have := Go.Great.fill_whole (s := i0.size) (by rw [hz1]; decide) [Value.agg L.toArray] ((Array.range (1 * i0.size)).map (z.cells[· % z.cells.size]!)) (fun v hv => by simp at hv; subst hv; rw [hz1]; simpa [Value.cells] using hL) (by simp)
  simp only [List.zipIdx_cons, List.zipIdx_nil, List.map_cons, List.map_nil, List.flatMap_cons, List.flatMap_nil, List.append_nil] at this
  exact this.trans (congrArg some (by simp [Value.cells]))
/-- One entry more in a row of entries. -/
theorem app_done {w : World} {v : Value} {n : Nat} {xs L : List Value} (h : RowAt w 72 11 v n xs) (hL : L.length = 11) (h1 : ∀ u ∈ L, u.oneCell' = true) (few : n ≤ 100) {b : Nat} (hb : w.heap[b]? = some (.cells L.toArray 72 (0, 0))) :
    ∃ v' w', (Builtin.append_ #[41, 41] 41 #[v, .slice (some ⟨b, 0, none⟩) 1 1]).run Tryz.prog w = .ok v' w' ∧ RowAt w' 72 11 v' (n + 1) (xs ++ L) ∧ w.grownBy w' v.ownBlock
      ∧ (v'.ownBlock = v.ownBlock ∨ ∃ g, v'.ownBlock = some g ∧ w.heap.size ≤ g) ∧ ∃ g off cap, v' = .slice (some ⟨g, off, none⟩) (n + 1) cap := by
  obtain ⟨i0, z, hi0, hz0, hzs, hz1, hz2⟩ := doneZero
  obtain ⟨v', w', h1, h2, h3, h4, h5⟩ := run_append_row (P := Tryz.prog) (w := w) 41 41 72 i0 _ 11 i0.bytes Tryz.underlying41 hi0 hz0 hz1 rfl hzs h (xv := .slice (some ⟨b, 0, none⟩) 1 1) (m := 1) (news := L)
    (.inr ⟨⟨b, 0, none⟩, 1, rfl, rfl, fun i u hi => by simpa using cell_of hb (by simpa using hi)⟩) (by simpa using hL) h1 (by unfold maxLen; omega) (by have : (n + 1) * i0.bytes ≤ 101 * 1000 := Nat.mul_le_mul (by omega) hz2; omega)
  exact ⟨v', w', h1, h2, h3, h4, h5 (by omega)⟩
theorem lk1 {w3 : World} {mb tbx cbx : Nat} (hmp : mi.MapIs w3 mb (mkL tbx cbx)) : (Instr.lookup 86 (.map (some mb)) (.int .i64 1) false).run Tryz.prog w3 = .ok (.func (.func 60) #[] #[.pointer (some ⟨tbx, 0, none⟩), .pointer (some ⟨cbx, 0, none⟩)]) w3 := by
  have h := mi.run_lookup_i64 (P := Tryz.prog) (T := 86) (K := 25) (E := 85) hmp Tryz.underlying86 Tryz.underlying25 (zero_mk w3) 1
  rw [h]
  rfl
set_option maxRecDepth 100000 in
set_option maxHeartbeats 4000000 in
theorem invoke_ok1 {W : World} {tb stb cb j n : Nat} {cs : Array Value} {hv : Value} {xs : List Value} {i : Int} (hblk : W.heap[tb]? = some (.cells (tbArr stb (.slice (some ⟨cb, 0, none⟩) 2 2) hv n) 83 (0, 0))) (hcl : W.heap[cb]? = some (.cells cs 80 (0, 0))) (hj : j < 2) (hc0 : cs[j * 2]? = some .nilIface) (hc1 : cs[j * 2 + 1]? = some (.int .i64 i)) (hist : RowAt W 72 11 hv n xs) (few : n ≤ 100)
    (k hi l : Int) (v : ByteArray) (hm : mayE 1 k hi l v = 0) :
    Calls Tryz.prog 6 #[.pointer (some ⟨tb, 0, none⟩), .int .i64 j, .agg (caArr 1 k hi l v)] W (InvP W tb stb cb j cs n hv xs j 1 k hi l v) := by
  obtain ⟨ao, cp, rfl, _, _⟩ := row_shape hist
  obtain ⟨W1, hW1⟩ : ∃ W1, W1 = W.alloc (.cells (caArr 1 k hi l v) 28) := ⟨_, rfl⟩
  have hk1 : Keeps [] W W1 := by rw [hW1]; exact Keeps.alloc _ _
  have hb1 : W1.heap[W.heap.size]? = some (.cells (caArr 1 k hi l v) 28 (0, 0)) := by rw [hW1]; exact alloc_new
  obtain ⟨xb, hxb⟩ : ∃ xb, xb = W.heap.size := ⟨_, rfl⟩
  rw [← hxb] at hb1
  have ht1 := (hk1.block tb (lt_of hblk) (by simp)).trans hblk
  have hc1' := (hk1.block cb (lt_of hcl) (by simp)).trans hcl
  have hne1 : tb ≠ cb := fun h => by subst h; rw [hblk] at hcl; cases hcl
  have hne2 : xb ≠ cb := by have := lt_of hcl; omega
  have hS : ∀ wx, Keeps [cb] W1 wx → (wx.cell? ⟨tb, 0, none⟩ = some (.pointer (some ⟨stb, 0, none⟩)) ∧ wx.cell? ⟨tb, 1, none⟩ = some (.slice (some ⟨cb, 0, none⟩) 2 2) ∧ wx.cell? ⟨tb, 2, none⟩ = some (.slice ao n cp) ∧ wx.cell? ⟨tb, 3, none⟩ = some (.int .i64 n) ∧ wx.cell? ⟨xb, 0, none⟩ = some (.int .i64 1) ∧ wx.cell? ⟨xb, 1, none⟩ = some (.int .u64 k) ∧ wx.cell? ⟨xb, 2, none⟩ = some (.int .u64 hi) ∧ wx.cell? ⟨xb, 3, none⟩ = some (.int .i64 l) ∧ wx.cell? ⟨xb, 4, none⟩ = some (.string v) ∧ Keeps [cb] W1 wx) := fun wx hk => by
    have g1 := (hk.block tb (lt_of ht1) (by simp [hne1])).trans ht1
    have g2 := (hk.block xb (lt_of hb1) (by simp [hne2])).trans hb1
    exact ⟨cell_of g1 rfl, cell_of g1 rfl, cell_of g1 rfl, cell_of g1 rfl, cell_of g2 rfl, cell_of g2 rfl, cell_of g2 rfl, cell_of g2 rfl, cell_of g2 rfl, hk⟩
  have hC : ∀ wx, Keeps [] W1 wx → (wx.cell? ⟨cb, j * 2, none⟩ = some .nilIface ∧ wx.cell? ⟨cb, j * 2 + 1, none⟩ = some (.int .i64 i) ∧ wx.frozen? ⟨cb, j * 2, none⟩ = false ∧ wx.frozen? ⟨cb, j * 2 + 1, none⟩ = false) := fun wx hk => by
    have g1 := (hk.block cb (lt_of hc1') (by simp)).trans hc1'
    exact ⟨cell_of g1 hc0, cell_of g1 hc1, free_of g1, free_of g1⟩
  obtain ⟨c0, c1, c2, c3, x0, x1, x2, x3, x4, _⟩ := hS W1 (Keeps.refl _ _)
  have hjI : (j : Int) < 2 := by omega
  have HH := Lib.hid (has_yes c0 c1 j hj)
  obtain ⟨d0, _⟩ := hC W1 (Keeps.refl _ _)
  have HM := Lib.hid (may_any 1 k hi l v W1)
  rw [hm] at HM
  have HX := Lib.hid (And.intro hk1 (And.intro ht1 (And.intro hc1' (And.intro hist (And.intro few (And.intro hxb hb1))))))
  have HS := Lib.hid hS
  have HC := Lib.hid hC
  have hal : W.alloc (.cells (caArr 1 k hi l v) 28) = W1 := hW1.symm
  have hxb' : W.heap.size = xb := hxb.symm
  have hbd : ∀ b wx, (Instr.build 80 #[(0, .iface 145 (.pointer (some ⟨b, 0, none⟩))), (1, .int .i64 n)]).run Tryz.prog wx = .ok (.agg #[.iface 145 (.pointer (some ⟨b, 0, none⟩)), .int .i64 n]) wx := fun b wx => run_build wx _ _ _ (built_client 145 b n)
  unfold caArr at hal HM ⊢
  clear hblk hcl hc0 hc1 hm hk1 hb1 hxb ht1 hc1' hS hC hist hW1
  go_enter Tryz.func6, Tryz.ntmps6
  go_wp2_with fail
  refine HH.out.mono ?_
  rintro e w1 ⟨rfl, rfl⟩
  go_wp2_with fail
  refine HM.out.mono ?_
  rintro e w2 ⟨rfl, hk2⟩
  obtain ⟨e0, e1, e2, e3, y0, y1, y2, y3, y4, _⟩ := HS.out w2 (hk2.mono (by simp))
  have HK2 := Lib.hid hk2
  clear hne1 hne2 c0 c1 c2 c3 x0 x1 x2 x3 x4 d0 hxb'
  go_upto_region 9 with fail
  go_cut [] from 29 to 48 (fun wx => ∃ b w3, Keeps [] W1 w3 ∧ wx = (w3.setCell ⟨cb, j * 2, none⟩ (.iface 145 (.pointer (some ⟨b, 0, none⟩)))).setCell ⟨cb, j * 2 + 1, none⟩ (.int .i64 n))
  case first =>
    --<T
    refine wp_normal ?_
    have hk0 : Keeps [] W1 w2.drew := hk2.trans (Keeps.drew w2) (by simp)
    go_region_held3 (fun wx => wx.cell? ⟨tb, 0, none⟩ = some (.pointer (some ⟨stb, 0, none⟩)) ∧ wx.cell? ⟨tb, 1, none⟩ = some (.slice (some ⟨cb, 0, none⟩) 2 2) ∧ wx.cell? ⟨tb, 2, none⟩ = some (.slice ao n cp) ∧ wx.cell? ⟨tb, 3, none⟩ = some (.int .i64 n) ∧ wx.cell? ⟨xb, 0, none⟩ = some (.int .i64 1) ∧ wx.cell? ⟨xb, 1, none⟩ = some (.int .u64 k) ∧ wx.cell? ⟨xb, 2, none⟩ = some (.int .u64 hi) ∧ wx.cell? ⟨xb, 3, none⟩ = some (.int .i64 l) ∧ wx.cell? ⟨xb, 4, none⟩ = some (.string v) ∧ Keeps [cb] W1 wx)
      (first | exact HS.out _ (Keeps.mono (by assumption) (by simp)) | exact HS.out _ (Keeps.trans (Keeps.trans (Keeps.mono (F := []) (by assumption) (by simp)) (Keeps.setCell _ _ _ _) (by simp)) (Keeps.setCell _ _ _ _) (by simp)) | exact HS.out _ (Keeps.trans (Keeps.mono (F := []) (by assumption) (by simp)) (Keeps.setCell _ _ _ _) (by simp)))
      (first
        | (go_at_call 25; refine (makes_any tb (j : Int) _).mono ?_; rintro e w3 ⟨mb, tbx, cbx, rfl, hmp, hbx1, hbx2, hk3⟩; have K3 : Keeps [] W1 w3 := Keeps.trans hk0 hk3 (by simp); have hlk := lk1 hmp; have HMk := Lib.hid (mk1_any (w := w3) (tbx := tbx) (cbx := cbx) (tb := tb) (s := some ⟨stb, 0, none⟩) (c := (j : Int)) 1 k hi l v hbx1.cell (HS.out _ (K3.mono (by simp))).1 hbx2.cell); clear hmp hbx1 hbx2 hk3)
        | (go_at_call 60; refine HMk.out.mono ?_; rintro e w4 ⟨b, rfl, hk4⟩; have K4 : Keeps [] W1 w4 := Keeps.trans K3 hk4 (by simp); obtain ⟨z0, z1, z2, z3⟩ := HC.out w4 K4))
    all_goals
      simp only [onlyNormal]
      go_wp2_with fail
      go_meet
      exact ⟨b, w4, K4, rfl⟩
    --T>
  case rest =>
  obtain ⟨b, w3, hk3, hwc⟩ := hcut
  obtain ⟨hk1, ht1, hc1', hist, few', hxb, hb1⟩ := HX.out
  have hkc : Keeps [cb] W1 wc := by rw [hwc]; exact Keeps.trans (Keeps.trans (hk3.mono (by simp)) (Keeps.setCell _ _ _ _) (by simp)) (Keeps.setCell _ _ _ _) (by simp)
  have hcc : wc.heap[cb]? = some (.cells ((cs.setIfInBounds (j * 2) (.iface 145 (.pointer (some ⟨b, 0, none⟩)))).setIfInBounds (j * 2 + 1) (.int .i64 n)) 80 (0, 0)) := by rw [hwc]; exact set_same (set_same ((hk3.block cb (lt_of hc1') (by simp)).trans hc1'))
  have hne1 : tb ≠ cb := fun h => by subst h; rw [ht1] at hc1'; cases hc1'
  have hac := row_apart_blk (hist.same fun q hq => hk1.block q (hist.lt hq) (by simp)) hc1' (by decide)
  have hat := row_apart_blk (hist.same fun q hq => hk1.block q (hist.lt hq) (by simp)) ht1 (by decide)
  obtain ⟨a0, a1, a2, a3, v0, v1, v2, v3, v4, _⟩ := HS.out wc hkc
  obtain ⟨L, hL⟩ : ∃ L, L = dnL (j : Int) 1 k hi l v n := ⟨_, rfl⟩
  have hL11 : L.length = 11 := by rw [hL]; rfl
  have hbd2 : ∀ wx, (Instr.build 72 #[(0, .int .i64 j), (1, .agg (caArr 1 k hi l v)), (2, .int .i64 n), (3, .int .i64 (-1))]).run Tryz.prog wx = .ok (.agg L.toArray) wx := fun wx => run_build wx _ _ _ (by rw [hL]; exact built_done j 1 k hi l n v)
  unfold caArr at hbd2
  have hbs := one_done hL11 wc.drew
  obtain ⟨w5, hw5⟩ : ∃ w5, w5 = wc.drew.alloc (.cells L.toArray 72) := ⟨_, rfl⟩
  have hk5 : Keeps [] wc w5 := by rw [hw5]; exact (Keeps.drew wc).trans (Keeps.alloc _ _) (by simp)
  have hr5 : RowAt w5 72 11 (.slice ao n cp) n xs := hist.same fun q hq => ((((hk1.mono (G := [cb]) (by simp)).trans hkc (by simp)).trans hk5 (by simp)).block q (hist.lt hq) (by simp; rintro rfl; exact hac hq))
  have hn5 : w5.heap[wc.heap.size]? = some (.cells L.toArray 72 (0, 0)) := by rw [hw5]; exact alloc_new
  obtain ⟨v', w8, hrun, hrow', hgrow, hblk', g5, o5, c5, rfl⟩ := app_done hr5 hL11 (by rw [hL]; intro u hu; simp only [dnL, List.mem_cons, List.not_mem_nil, or_false] at hu; rcases hu with rfl | rfl | rfl | rfl | rfl | rfl | rfl | rfl | rfl | rfl | rfl <;> rfl) few' hn5
  have hal5 : wc.drew.alloc (.cells L.toArray 72) = w5 := hw5.symm
  have hk8 := Keeps.grown hgrow
  have hb5 := ((hkc.trans hk5 (by simp)).block tb (lt_of ht1) (by simp [hne1])).trans ht1
  have hb8 := (hk8.block tb (lt_of hb5) (by simpa only [Option.mem_toList] using hat)).trans hb5
  have s2 : w5.cell? ⟨tb, 2, none⟩ = some (.slice ao n cp) := cell_of hb5 rfl
  have t2 : w8.cell? ⟨tb, 2, none⟩ = some (.slice ao n cp) := cell_of hb8 rfl
  have u2 := free_of (i := 2) hb8
  have t3 : w8.cell? ⟨tb, 3, none⟩ = some (.int .i64 n) := cell_of hb8 rfl
  have u3 := free_of (i := 3) hb8
  have hX2 := Lib.hid (And.intro hkc (And.intro hcc (And.intro hk5 (And.intro hrow' (And.intro hk8 (And.intro hblk' (And.intro hb8 hL)))))))
  clear hwc hk1 ht1 hc1' hist hxb hb1 hkc hcc hne1 hac hat hw5 hk5 hr5 hn5 hrow' hgrow hblk' hk8 hb5 hb8 hL hL11 hk3
  go_wp2_with fail
  go_region
  all_goals
    go_wp2_with fail
    go_ret
    obtain ⟨hk1, ht1, hc1', hist, few', hxb, hb1⟩ := HX.out
    obtain ⟨hkc, hcc, hk5, hrow', hk8, hblk', hb8, hL⟩ := hX2.out
    have hne1 : tb ≠ cb := fun h => by subst h; rw [ht1] at hc1'; cases hc1'
    have hac := row_apart_blk (hist.same fun q hq => hk1.block q (hist.lt hq) (by simp)) hc1' (by decide)
    have hvt := row_apart_blk hrow' hb8 (by decide)
    have hc5 := (hk5.block cb (lt_of hcc) (by simp)).trans hcc
    have hc8 := (hk8.block cb (lt_of hc5) (by simpa only [Option.mem_toList] using hac)).trans hc5
    refine ⟨145, b, .slice (some ⟨g5, o5, none⟩) (n + 1) c5, rfl, ?_, ?_, ?_, ?_, ?_⟩
    · exact set_same (set_same hb8)
    · exact (set_other hne1).trans ((set_other hne1).trans hc8)
    · rw [hL] at hrow'
      exact hrow'.same fun q hq => (set_other (fun e => hvt (by rw [hq, e]))).trans (set_other (fun e => hvt (by rw [hq, e])))
    · refine ((((hk1.mono (by simp)).trans (hkc.mono (G := tb :: cb :: (Value.slice ao n cp).ownBlock.toList) (by simp)) ?_).trans (hk5.mono (G := []) (by simp)) (by simp)).trans hk8 ?_).trans ((Keeps.setCell w8 tb 2 _).trans (Keeps.setCell _ tb 3 _) (by simp)) (by simp)
      · intro i hi; exact .inl hi
      · intro i hi; exact .inl (List.mem_cons_of_mem _ (List.mem_cons_of_mem _ hi))
    · rcases hblk' with h1 | ⟨q, h1, h2⟩
      · exact .inl h1
      · exact .inr ⟨q, h1, by have := hk1.size; have := hkc.size; have := hk5.size; omega⟩
theorem lk2 {w3 : World} {mb tbx cbx : Nat} (hmp : mi.MapIs w3 mb (mkL tbx cbx)) : (Instr.lookup 86 (.map (some mb)) (.int .i64 2) false).run Tryz.prog w3 = .ok (.func (.func 62) #[] #[.pointer (some ⟨tbx, 0, none⟩), .pointer (some ⟨cbx, 0, none⟩)]) w3 := by
  have h := mi.run_lookup_i64 (P := Tryz.prog) (T := 86) (K := 25) (E := 85) hmp Tryz.underlying86 Tryz.underlying25 (zero_mk w3) 2
  rw [h]
  rfl
set_option maxRecDepth 100000 in
set_option maxHeartbeats 4000000 in
theorem invoke_ok2 {W : World} {tb stb cb j n : Nat} {cs : Array Value} {hv : Value} {xs : List Value} {i : Int} (hblk : W.heap[tb]? = some (.cells (tbArr stb (.slice (some ⟨cb, 0, none⟩) 2 2) hv n) 83 (0, 0))) (hcl : W.heap[cb]? = some (.cells cs 80 (0, 0))) (hj : j < 2) (hc0 : cs[j * 2]? = some .nilIface) (hc1 : cs[j * 2 + 1]? = some (.int .i64 i)) (hist : RowAt W 72 11 hv n xs) (few : n ≤ 100)
    (k hi l : Int) (v : ByteArray) (hm : mayE 2 k hi l v = 0) :
    Calls Tryz.prog 6 #[.pointer (some ⟨tb, 0, none⟩), .int .i64 j, .agg (caArr 2 k hi l v)] W (InvP W tb stb cb j cs n hv xs j 2 k hi l v) := by
  obtain ⟨ao, cp, rfl, _, _⟩ := row_shape hist
  obtain ⟨W1, hW1⟩ : ∃ W1, W1 = W.alloc (.cells (caArr 2 k hi l v) 28) := ⟨_, rfl⟩
  have hk1 : Keeps [] W W1 := by rw [hW1]; exact Keeps.alloc _ _
  have hb1 : W1.heap[W.heap.size]? = some (.cells (caArr 2 k hi l v) 28 (0, 0)) := by rw [hW1]; exact alloc_new
  obtain ⟨xb, hxb⟩ : ∃ xb, xb = W.heap.size := ⟨_, rfl⟩
  rw [← hxb] at hb1
  have ht1 := (hk1.block tb (lt_of hblk) (by simp)).trans hblk
  have hc1' := (hk1.block cb (lt_of hcl) (by simp)).trans hcl
  have hne1 : tb ≠ cb := fun h => by subst h; rw [hblk] at hcl; cases hcl
  have hne2 : xb ≠ cb := by have := lt_of hcl; omega
  have hS : ∀ wx, Keeps [cb] W1 wx → (wx.cell? ⟨tb, 0, none⟩ = some (.pointer (some ⟨stb, 0, none⟩)) ∧ wx.cell? ⟨tb, 1, none⟩ = some (.slice (some ⟨cb, 0, none⟩) 2 2) ∧ wx.cell? ⟨tb, 2, none⟩ = some (.slice ao n cp) ∧ wx.cell? ⟨tb, 3, none⟩ = some (.int .i64 n) ∧ wx.cell? ⟨xb, 0, none⟩ = some (.int .i64 2) ∧ wx.cell? ⟨xb, 1, none⟩ = some (.int .u64 k) ∧ wx.cell? ⟨xb, 2, none⟩ = some (.int .u64 hi) ∧ wx.cell? ⟨xb, 3, none⟩ = some (.int .i64 l) ∧ wx.cell? ⟨xb, 4, none⟩ = some (.string v) ∧ Keeps [cb] W1 wx) := fun wx hk => by
    have g1 := (hk.block tb (lt_of ht1) (by simp [hne1])).trans ht1
    have g2 := (hk.block xb (lt_of hb1) (by simp [hne2])).trans hb1
    exact ⟨cell_of g1 rfl, cell_of g1 rfl, cell_of g1 rfl, cell_of g1 rfl, cell_of g2 rfl, cell_of g2 rfl, cell_of g2 rfl, cell_of g2 rfl, cell_of g2 rfl, hk⟩
  have hC : ∀ wx, Keeps [] W1 wx → (wx.cell? ⟨cb, j * 2, none⟩ = some .nilIface ∧ wx.cell? ⟨cb, j * 2 + 1, none⟩ = some (.int .i64 i) ∧ wx.frozen? ⟨cb, j * 2, none⟩ = false ∧ wx.frozen? ⟨cb, j * 2 + 1, none⟩ = false) := fun wx hk => by
    have g1 := (hk.block cb (lt_of hc1') (by simp)).trans hc1'
    exact ⟨cell_of g1 hc0, cell_of g1 hc1, free_of g1, free_of g1⟩
  obtain ⟨c0, c1, c2, c3, x0, x1, x2, x3, x4, _⟩ := hS W1 (Keeps.refl _ _)
  have hjI : (j : Int) < 2 := by omega
  have HH := Lib.hid (has_yes c0 c1 j hj)
  obtain ⟨d0, _⟩ := hC W1 (Keeps.refl _ _)
  have HM := Lib.hid (may_any 2 k hi l v W1)
  rw [hm] at HM
  have HX := Lib.hid (And.intro hk1 (And.intro ht1 (And.intro hc1' (And.intro hist (And.intro few (And.intro hxb hb1))))))
  have HS := Lib.hid hS
  have HC := Lib.hid hC
  have hal : W.alloc (.cells (caArr 2 k hi l v) 28) = W1 := hW1.symm
  have hxb' : W.heap.size = xb := hxb.symm
  have hbd : ∀ b wx, (Instr.build 80 #[(0, .iface 147 (.pointer (some ⟨b, 0, none⟩))), (1, .int .i64 n)]).run Tryz.prog wx = .ok (.agg #[.iface 147 (.pointer (some ⟨b, 0, none⟩)), .int .i64 n]) wx := fun b wx => run_build wx _ _ _ (built_client 147 b n)
  unfold caArr at hal HM ⊢
  clear hblk hcl hc0 hc1 hm hk1 hb1 hxb ht1 hc1' hS hC hist hW1
  go_enter Tryz.func6, Tryz.ntmps6
  go_wp2_with fail
  refine HH.out.mono ?_
  rintro e w1 ⟨rfl, rfl⟩
  go_wp2_with fail
  refine HM.out.mono ?_
  rintro e w2 ⟨rfl, hk2⟩
  obtain ⟨e0, e1, e2, e3, y0, y1, y2, y3, y4, _⟩ := HS.out w2 (hk2.mono (by simp))
  have HK2 := Lib.hid hk2
  clear hne1 hne2 c0 c1 c2 c3 x0 x1 x2 x3 x4 d0 hxb'
  go_upto_region 9 with fail
  go_cut [] from 29 to 48 (fun wx => ∃ b w3, Keeps [] W1 w3 ∧ wx = (w3.setCell ⟨cb, j * 2, none⟩ (.iface 147 (.pointer (some ⟨b, 0, none⟩)))).setCell ⟨cb, j * 2 + 1, none⟩ (.int .i64 n))
  case first =>
    --<T
    refine wp_normal ?_
    have hk0 : Keeps [] W1 w2.drew := hk2.trans (Keeps.drew w2) (by simp)
    go_region_held3 (fun wx => wx.cell? ⟨tb, 0, none⟩ = some (.pointer (some ⟨stb, 0, none⟩)) ∧ wx.cell? ⟨tb, 1, none⟩ = some (.slice (some ⟨cb, 0, none⟩) 2 2) ∧ wx.cell? ⟨tb, 2, none⟩ = some (.slice ao n cp) ∧ wx.cell? ⟨tb, 3, none⟩ = some (.int .i64 n) ∧ wx.cell? ⟨xb, 0, none⟩ = some (.int .i64 2) ∧ wx.cell? ⟨xb, 1, none⟩ = some (.int .u64 k) ∧ wx.cell? ⟨xb, 2, none⟩ = some (.int .u64 hi) ∧ wx.cell? ⟨xb, 3, none⟩ = some (.int .i64 l) ∧ wx.cell? ⟨xb, 4, none⟩ = some (.string v) ∧ Keeps [cb] W1 wx)
      (first | exact HS.out _ (Keeps.mono (by assumption) (by simp)) | exact HS.out _ (Keeps.trans (Keeps.trans (Keeps.mono (F := []) (by assumption) (by simp)) (Keeps.setCell _ _ _ _) (by simp)) (Keeps.setCell _ _ _ _) (by simp)) | exact HS.out _ (Keeps.trans (Keeps.mono (F := []) (by assumption) (by simp)) (Keeps.setCell _ _ _ _) (by simp)))
      (first
        | (go_at_call 25; refine (makes_any tb (j : Int) _).mono ?_; rintro e w3 ⟨mb, tbx, cbx, rfl, hmp, hbx1, hbx2, hk3⟩; have K3 : Keeps [] W1 w3 := Keeps.trans hk0 hk3 (by simp); have hlk := lk2 hmp; have HMk := Lib.hid (mk2_any (w := w3) (tbx := tbx) (cbx := cbx) (tb := tb) (s := some ⟨stb, 0, none⟩) (c := (j : Int)) 2 k hi l v hbx1.cell (HS.out _ (K3.mono (by simp))).1 hbx2.cell); clear hmp hbx1 hbx2 hk3)
        | (go_at_call 62; refine HMk.out.mono ?_; rintro e w4 ⟨b, rfl, hk4⟩; have K4 : Keeps [] W1 w4 := Keeps.trans K3 hk4 (by simp); obtain ⟨z0, z1, z2, z3⟩ := HC.out w4 K4))
    all_goals
      simp only [onlyNormal]
      go_wp2_with fail
      go_meet
      exact ⟨b, w4, K4, rfl⟩
    --T>
  case rest =>
  obtain ⟨b, w3, hk3, hwc⟩ := hcut
  obtain ⟨hk1, ht1, hc1', hist, few', hxb, hb1⟩ := HX.out
  have hkc : Keeps [cb] W1 wc := by rw [hwc]; exact Keeps.trans (Keeps.trans (hk3.mono (by simp)) (Keeps.setCell _ _ _ _) (by simp)) (Keeps.setCell _ _ _ _) (by simp)
  have hcc : wc.heap[cb]? = some (.cells ((cs.setIfInBounds (j * 2) (.iface 147 (.pointer (some ⟨b, 0, none⟩)))).setIfInBounds (j * 2 + 1) (.int .i64 n)) 80 (0, 0)) := by rw [hwc]; exact set_same (set_same ((hk3.block cb (lt_of hc1') (by simp)).trans hc1'))
  have hne1 : tb ≠ cb := fun h => by subst h; rw [ht1] at hc1'; cases hc1'
  have hac := row_apart_blk (hist.same fun q hq => hk1.block q (hist.lt hq) (by simp)) hc1' (by decide)
  have hat := row_apart_blk (hist.same fun q hq => hk1.block q (hist.lt hq) (by simp)) ht1 (by decide)
  obtain ⟨a0, a1, a2, a3, v0, v1, v2, v3, v4, _⟩ := HS.out wc hkc
  obtain ⟨L, hL⟩ : ∃ L, L = dnL (j : Int) 2 k hi l v n := ⟨_, rfl⟩
  have hL11 : L.length = 11 := by rw [hL]; rfl
  have hbd2 : ∀ wx, (Instr.build 72 #[(0, .int .i64 j), (1, .agg (caArr 2 k hi l v)), (2, .int .i64 n), (3, .int .i64 (-1))]).run Tryz.prog wx = .ok (.agg L.toArray) wx := fun wx => run_build wx _ _ _ (by rw [hL]; exact built_done j 2 k hi l n v)
  unfold caArr at hbd2
  have hbs := one_done hL11 wc.drew
  obtain ⟨w5, hw5⟩ : ∃ w5, w5 = wc.drew.alloc (.cells L.toArray 72) := ⟨_, rfl⟩
  have hk5 : Keeps [] wc w5 := by rw [hw5]; exact (Keeps.drew wc).trans (Keeps.alloc _ _) (by simp)
  have hr5 : RowAt w5 72 11 (.slice ao n cp) n xs := hist.same fun q hq => ((((hk1.mono (G := [cb]) (by simp)).trans hkc (by simp)).trans hk5 (by simp)).block q (hist.lt hq) (by simp; rintro rfl; exact hac hq))
  have hn5 : w5.heap[wc.heap.size]? = some (.cells L.toArray 72 (0, 0)) := by rw [hw5]; exact alloc_new
  obtain ⟨v', w8, hrun, hrow', hgrow, hblk', g5, o5, c5, rfl⟩ := app_done hr5 hL11 (by rw [hL]; intro u hu; simp only [dnL, List.mem_cons, List.not_mem_nil, or_false] at hu; rcases hu with rfl | rfl | rfl | rfl | rfl | rfl | rfl | rfl | rfl | rfl | rfl <;> rfl) few' hn5
  have hal5 : wc.drew.alloc (.cells L.toArray 72) = w5 := hw5.symm
  have hk8 := Keeps.grown hgrow
  have hb5 := ((hkc.trans hk5 (by simp)).block tb (lt_of ht1) (by simp [hne1])).trans ht1
  have hb8 := (hk8.block tb (lt_of hb5) (by simpa only [Option.mem_toList] using hat)).trans hb5
  have s2 : w5.cell? ⟨tb, 2, none⟩ = some (.slice ao n cp) := cell_of hb5 rfl
  have t2 : w8.cell? ⟨tb, 2, none⟩ = some (.slice ao n cp) := cell_of hb8 rfl
  have u2 := free_of (i := 2) hb8
  have t3 : w8.cell? ⟨tb, 3, none⟩ = some (.int .i64 n) := cell_of hb8 rfl
  have u3 := free_of (i := 3) hb8
  have hX2 := Lib.hid (And.intro hkc (And.intro hcc (And.intro hk5 (And.intro hrow' (And.intro hk8 (And.intro hblk' (And.intro hb8 hL)))))))
  clear hwc hk1 ht1 hc1' hist hxb hb1 hkc hcc hne1 hac hat hw5 hk5 hr5 hn5 hrow' hgrow hblk' hk8 hb5 hb8 hL hL11 hk3
  go_wp2_with fail
  go_region
  all_goals
    go_wp2_with fail
    go_ret
    obtain ⟨hk1, ht1, hc1', hist, few', hxb, hb1⟩ := HX.out
    obtain ⟨hkc, hcc, hk5, hrow', hk8, hblk', hb8, hL⟩ := hX2.out
    have hne1 : tb ≠ cb := fun h => by subst h; rw [ht1] at hc1'; cases hc1'
    have hac := row_apart_blk (hist.same fun q hq => hk1.block q (hist.lt hq) (by simp)) hc1' (by decide)
    have hvt := row_apart_blk hrow' hb8 (by decide)
    have hc5 := (hk5.block cb (lt_of hcc) (by simp)).trans hcc
    have hc8 := (hk8.block cb (lt_of hc5) (by simpa only [Option.mem_toList] using hac)).trans hc5
    refine ⟨147, b, .slice (some ⟨g5, o5, none⟩) (n + 1) c5, rfl, ?_, ?_, ?_, ?_, ?_⟩
    · exact set_same (set_same hb8)
    · exact (set_other hne1).trans ((set_other hne1).trans hc8)
    · rw [hL] at hrow'
      exact hrow'.same fun q hq => (set_other (fun e => hvt (by rw [hq, e]))).trans (set_other (fun e => hvt (by rw [hq, e])))
    · refine ((((hk1.mono (by simp)).trans (hkc.mono (G := tb :: cb :: (Value.slice ao n cp).ownBlock.toList) (by simp)) ?_).trans (hk5.mono (G := []) (by simp)) (by simp)).trans hk8 ?_).trans ((Keeps.setCell w8 tb 2 _).trans (Keeps.setCell _ tb 3 _) (by simp)) (by simp)
      · intro i hi; exact .inl hi
      · intro i hi; exact .inl (List.mem_cons_of_mem _ (List.mem_cons_of_mem _ hi))
    · rcases hblk' with h1 | ⟨q, h1, h2⟩
      · exact .inl h1
      · exact .inr ⟨q, h1, by have := hk1.size; have := hkc.size; have := hk5.size; omega⟩
theorem lk3 {w3 : World} {mb tbx cbx : Nat} (hmp : mi.MapIs w3 mb (mkL tbx cbx)) : (Instr.lookup 86 (.map (some mb)) (.int .i64 3) false).run Tryz.prog w3 = .ok (.func (.func 64) #[] #[.pointer (some ⟨tbx, 0, none⟩), .pointer (some ⟨cbx, 0, none⟩)]) w3 := by
  have h := mi.run_lookup_i64 (P := Tryz.prog) (T := 86) (K := 25) (E := 85) hmp Tryz.underlying86 Tryz.underlying25 (zero_mk w3) 3
  rw [h]
  rfl
set_option maxRecDepth 100000 in
set_option maxHeartbeats 4000000 in
theorem invoke_ok3 {W : World} {tb stb cb j n : Nat} {cs : Array Value} {hv : Value} {xs : List Value} {i : Int} (hblk : W.heap[tb]? = some (.cells (tbArr stb (.slice (some ⟨cb, 0, none⟩) 2 2) hv n) 83 (0, 0))) (hcl : W.heap[cb]? = some (.cells cs 80 (0, 0))) (hj : j < 2) (hc0 : cs[j * 2]? = some .nilIface) (hc1 : cs[j * 2 + 1]? = some (.int .i64 i)) (hist : RowAt W 72 11 hv n xs) (few : n ≤ 100)
    (k hi l : Int) (v : ByteArray) (hm : mayE 3 k hi l v = 0) :
    Calls Tryz.prog 6 #[.pointer (some ⟨tb, 0, none⟩), .int .i64 j, .agg (caArr 3 k hi l v)] W (InvP W tb stb cb j cs n hv xs j 3 k hi l v) := by
  obtain ⟨ao, cp, rfl, _, _⟩ := row_shape hist
  obtain ⟨W1, hW1⟩ : ∃ W1, W1 = W.alloc (.cells (caArr 3 k hi l v) 28) := ⟨_, rfl⟩
  have hk1 : Keeps [] W W1 := by rw [hW1]; exact Keeps.alloc _ _
  have hb1 : W1.heap[W.heap.size]? = some (.cells (caArr 3 k hi l v) 28 (0, 0)) := by rw [hW1]; exact alloc_new
  obtain ⟨xb, hxb⟩ : ∃ xb, xb = W.heap.size := ⟨_, rfl⟩
  rw [← hxb] at hb1
  have ht1 := (hk1.block tb (lt_of hblk) (by simp)).trans hblk
  have hc1' := (hk1.block cb (lt_of hcl) (by simp)).trans hcl
  have hne1 : tb ≠ cb := fun h => by subst h; rw [hblk] at hcl; cases hcl
  have hne2 : xb ≠ cb := by have := lt_of hcl; omega
  have hS : ∀ wx, Keeps [cb] W1 wx → (wx.cell? ⟨tb, 0, none⟩ = some (.pointer (some ⟨stb, 0, none⟩)) ∧ wx.cell? ⟨tb, 1, none⟩ = some (.slice (some ⟨cb, 0, none⟩) 2 2) ∧ wx.cell? ⟨tb, 2, none⟩ = some (.slice ao n cp) ∧ wx.cell? ⟨tb, 3, none⟩ = some (.int .i64 n) ∧ wx.cell? ⟨xb, 0, none⟩ = some (.int .i64 3) ∧ wx.cell? ⟨xb, 1, none⟩ = some (.int .u64 k) ∧ wx.cell? ⟨xb, 2, none⟩ = some (.int .u64 hi) ∧ wx.cell? ⟨xb, 3, none⟩ = some (.int .i64 l) ∧ wx.cell? ⟨xb, 4, none⟩ = some (.string v) ∧ Keeps [cb] W1 wx) := fun wx hk => by
    have g1 := (hk.block tb (lt_of ht1) (by simp [hne1])).trans ht1
    have g2 := (hk.block xb (lt_of hb1) (by simp [hne2])).trans hb1
    exact ⟨cell_of g1 rfl, cell_of g1 rfl, cell_of g1 rfl, cell_of g1 rfl, cell_of g2 rfl, cell_of g2 rfl, cell_of g2 rfl, cell_of g2 rfl, cell_of g2 rfl, hk⟩
  have hC : ∀ wx, Keeps [] W1 wx → (wx.cell? ⟨cb, j * 2, none⟩ = some .nilIface ∧ wx.cell? ⟨cb, j * 2 + 1, none⟩ = some (.int .i64 i) ∧ wx.frozen? ⟨cb, j * 2, none⟩ = false ∧ wx.frozen? ⟨cb, j * 2 + 1, none⟩ = false) := fun wx hk => by
    have g1 := (hk.block cb (lt_of hc1') (by simp)).trans hc1'
    exact ⟨cell_of g1 hc0, cell_of g1 hc1, free_of g1, free_of g1⟩
  obtain ⟨c0, c1, c2, c3, x0, x1, x2, x3, x4, _⟩ := hS W1 (Keeps.refl _ _)
  have hjI : (j : Int) < 2 := by omega
  have HH := Lib.hid (has_yes c0 c1 j hj)
  obtain ⟨d0, _⟩ := hC W1 (Keeps.refl _ _)
  have HM := Lib.hid (may_any 3 k hi l v W1)
  rw [hm] at HM
  have HX := Lib.hid (And.intro hk1 (And.intro ht1 (And.intro hc1' (And.intro hist (And.intro few (And.intro hxb hb1))))))
  have HS := Lib.hid hS
  have HC := Lib.hid hC
  have hal : W.alloc (.cells (caArr 3 k hi l v) 28) = W1 := hW1.symm
  have hxb' : W.heap.size = xb := hxb.symm
  have hbd : ∀ b wx, (Instr.build 80 #[(0, .iface 149 (.pointer (some ⟨b, 0, none⟩))), (1, .int .i64 n)]).run Tryz.prog wx = .ok (.agg #[.iface 149 (.pointer (some ⟨b, 0, none⟩)), .int .i64 n]) wx := fun b wx => run_build wx _ _ _ (built_client 149 b n)
  unfold caArr at hal HM ⊢
  clear hblk hcl hc0 hc1 hm hk1 hb1 hxb ht1 hc1' hS hC hist hW1
  go_enter Tryz.func6, Tryz.ntmps6
  go_wp2_with fail
  refine HH.out.mono ?_
  rintro e w1 ⟨rfl, rfl⟩
  go_wp2_with fail
  refine HM.out.mono ?_
  rintro e w2 ⟨rfl, hk2⟩
  obtain ⟨e0, e1, e2, e3, y0, y1, y2, y3, y4, _⟩ := HS.out w2 (hk2.mono (by simp))
  have HK2 := Lib.hid hk2
  clear hne1 hne2 c0 c1 c2 c3 x0 x1 x2 x3 x4 d0 hxb'
  go_upto_region 9 with fail
  go_cut [] from 29 to 48 (fun wx => ∃ b w3, Keeps [] W1 w3 ∧ wx = (w3.setCell ⟨cb, j * 2, none⟩ (.iface 149 (.pointer (some ⟨b, 0, none⟩)))).setCell ⟨cb, j * 2 + 1, none⟩ (.int .i64 n))
  case first =>
    --<T
    refine wp_normal ?_
    have hk0 : Keeps [] W1 w2.drew := hk2.trans (Keeps.drew w2) (by simp)
    go_region_held3 (fun wx => wx.cell? ⟨tb, 0, none⟩ = some (.pointer (some ⟨stb, 0, none⟩)) ∧ wx.cell? ⟨tb, 1, none⟩ = some (.slice (some ⟨cb, 0, none⟩) 2 2) ∧ wx.cell? ⟨tb, 2, none⟩ = some (.slice ao n cp) ∧ wx.cell? ⟨tb, 3, none⟩ = some (.int .i64 n) ∧ wx.cell? ⟨xb, 0, none⟩ = some (.int .i64 3) ∧ wx.cell? ⟨xb, 1, none⟩ = some (.int .u64 k) ∧ wx.cell? ⟨xb, 2, none⟩ = some (.int .u64 hi) ∧ wx.cell? ⟨xb, 3, none⟩ = some (.int .i64 l) ∧ wx.cell? ⟨xb, 4, none⟩ = some (.string v) ∧ Keeps [cb] W1 wx)
      (first | exact HS.out _ (Keeps.mono (by assumption) (by simp)) | exact HS.out _ (Keeps.trans (Keeps.trans (Keeps.mono (F := []) (by assumption) (by simp)) (Keeps.setCell _ _ _ _) (by simp)) (Keeps.setCell _ _ _ _) (by simp)) | exact HS.out _ (Keeps.trans (Keeps.mono (F := []) (by assumption) (by simp)) (Keeps.setCell _ _ _ _) (by simp)))
      (first
        | (go_at_call 25; refine (makes_any tb (j : Int) _).mono ?_; rintro e w3 ⟨mb, tbx, cbx, rfl, hmp, hbx1, hbx2, hk3⟩; have K3 : Keeps [] W1 w3 := Keeps.trans hk0 hk3 (by simp); have hlk := lk3 hmp; have HMk := Lib.hid (mk3_any (w := w3) (tbx := tbx) (cbx := cbx) (tb := tb) (s := some ⟨stb, 0, none⟩) (c := (j : Int)) 3 k hi l v hbx1.cell (HS.out _ (K3.mono (by simp))).1 hbx2.cell); clear hmp hbx1 hbx2 hk3)
        | (go_at_call 64; refine HMk.out.mono ?_; rintro e w4 ⟨b, rfl, hk4⟩; have K4 : Keeps [] W1 w4 := Keeps.trans K3 hk4 (by simp); obtain ⟨z0, z1, z2, z3⟩ := HC.out w4 K4))
    all_goals
      simp only [onlyNormal]
      go_wp2_with fail
      go_meet
      exact ⟨b, w4, K4, rfl⟩
    --T>
  case rest =>
  obtain ⟨b, w3, hk3, hwc⟩ := hcut
  obtain ⟨hk1, ht1, hc1', hist, few', hxb, hb1⟩ := HX.out
  have hkc : Keeps [cb] W1 wc := by rw [hwc]; exact Keeps.trans (Keeps.trans (hk3.mono (by simp)) (Keeps.setCell _ _ _ _) (by simp)) (Keeps.setCell _ _ _ _) (by simp)
  have hcc : wc.heap[cb]? = some (.cells ((cs.setIfInBounds (j * 2) (.iface 149 (.pointer (some ⟨b, 0, none⟩)))).setIfInBounds (j * 2 + 1) (.int .i64 n)) 80 (0, 0)) := by rw [hwc]; exact set_same (set_same ((hk3.block cb (lt_of hc1') (by simp)).trans hc1'))
  have hne1 : tb ≠ cb := fun h => by subst h; rw [ht1] at hc1'; cases hc1'
  have hac := row_apart_blk (hist.same fun q hq => hk1.block q (hist.lt hq) (by simp)) hc1' (by decide)
  have hat := row_apart_blk (hist.same fun q hq => hk1.block q (hist.lt hq) (by simp)) ht1 (by decide)
  obtain ⟨a0, a1, a2, a3, v0, v1, v2, v3, v4, _⟩ := HS.out wc hkc
  obtain ⟨L, hL⟩ : ∃ L, L = dnL (j : Int) 3 k hi l v n := ⟨_, rfl⟩
  have hL11 : L.length = 11 := by rw [hL]; rfl
  have hbd2 : ∀ wx, (Instr.build 72 #[(0, .int .i64 j), (1, .agg (caArr 3 k hi l v)), (2, .int .i64 n), (3, .int .i64 (-1))]).run Tryz.prog wx = .ok (.agg L.toArray) wx := fun wx => run_build wx _ _ _ (by rw [hL]; exact built_done j 3 k hi l n v)
  unfold caArr at hbd2
  have hbs := one_done hL11 wc.drew
  obtain ⟨w5, hw5⟩ : ∃ w5, w5 = wc.drew.alloc (.cells L.toArray 72) := ⟨_, rfl⟩
  have hk5 : Keeps [] wc w5 := by rw [hw5]; exact (Keeps.drew wc).trans (Keeps.alloc _ _) (by simp)
  have hr5 : RowAt w5 72 11 (.slice ao n cp) n xs := hist.same fun q hq => ((((hk1.mono (G := [cb]) (by simp)).trans hkc (by simp)).trans hk5 (by simp)).block q (hist.lt hq) (by simp; rintro rfl; exact hac hq))
  have hn5 : w5.heap[wc.heap.size]? = some (.cells L.toArray 72 (0, 0)) := by rw [hw5]; exact alloc_new
  obtain ⟨v', w8, hrun, hrow', hgrow, hblk', g5, o5, c5, rfl⟩ := app_done hr5 hL11 (by rw [hL]; intro u hu; simp only [dnL, List.mem_cons, List.not_mem_nil, or_false] at hu; rcases hu with rfl | rfl | rfl | rfl | rfl | rfl | rfl | rfl | rfl | rfl | rfl <;> rfl) few' hn5
  have hal5 : wc.drew.alloc (.cells L.toArray 72) = w5 := hw5.symm
  have hk8 := Keeps.grown hgrow
  have hb5 := ((hkc.trans hk5 (by simp)).block tb (lt_of ht1) (by simp [hne1])).trans ht1
  have hb8 := (hk8.block tb (lt_of hb5) (by simpa only [Option.mem_toList] using hat)).trans hb5
  have s2 : w5.cell? ⟨tb, 2, none⟩ = some (.slice ao n cp) := cell_of hb5 rfl
  have t2 : w8.cell? ⟨tb, 2, none⟩ = some (.slice ao n cp) := cell_of hb8 rfl
  have u2 := free_of (i := 2) hb8
  have t3 : w8.cell? ⟨tb, 3, none⟩ = some (.int .i64 n) := cell_of hb8 rfl
  have u3 := free_of (i := 3) hb8
  have hX2 := Lib.hid (And.intro hkc (And.intro hcc (And.intro hk5 (And.intro hrow' (And.intro hk8 (And.intro hblk' (And.intro hb8 hL)))))))
  clear hwc hk1 ht1 hc1' hist hxb hb1 hkc hcc hne1 hac hat hw5 hk5 hr5 hn5 hrow' hgrow hblk' hk8 hb5 hb8 hL hL11 hk3
  go_wp2_with fail
  go_region
  all_goals
    go_wp2_with fail
    go_ret
    obtain ⟨hk1, ht1, hc1', hist, few', hxb, hb1⟩ := HX.out
    obtain ⟨hkc, hcc, hk5, hrow', hk8, hblk', hb8, hL⟩ := hX2.out
    have hne1 : tb ≠ cb := fun h => by subst h; rw [ht1] at hc1'; cases hc1'
    have hac := row_apart_blk (hist.same fun q hq => hk1.block q (hist.lt hq) (by simp)) hc1' (by decide)
    have hvt := row_apart_blk hrow' hb8 (by decide)
    have hc5 := (hk5.block cb (lt_of hcc) (by simp)).trans hcc
    have hc8 := (hk8.block cb (lt_of hc5) (by simpa only [Option.mem_toList] using hac)).trans hc5
    refine ⟨149, b, .slice (some ⟨g5, o5, none⟩) (n + 1) c5, rfl, ?_, ?_, ?_, ?_, ?_⟩
    · exact set_same (set_same hb8)
    · exact (set_other hne1).trans ((set_other hne1).trans hc8)
    · rw [hL] at hrow'
      exact hrow'.same fun q hq => (set_other (fun e => hvt (by rw [hq, e]))).trans (set_other (fun e => hvt (by rw [hq, e])))
    · refine ((((hk1.mono (by simp)).trans (hkc.mono (G := tb :: cb :: (Value.slice ao n cp).ownBlock.toList) (by simp)) ?_).trans (hk5.mono (G := []) (by simp)) (by simp)).trans hk8 ?_).trans ((Keeps.setCell w8 tb 2 _).trans (Keeps.setCell _ tb 3 _) (by simp)) (by simp)
      · intro i hi; exact .inl hi
      · intro i hi; exact .inl (List.mem_cons_of_mem _ (List.mem_cons_of_mem _ hi))
    · rcases hblk' with h1 | ⟨q, h1, h2⟩
      · exact .inl h1
      · exact .inr ⟨q, h1, by have := hk1.size; have := hkc.size; have := hk5.size; omega⟩
theorem lk4 {w3 : World} {mb tbx cbx : Nat} (hmp : mi.MapIs w3 mb (mkL tbx cbx)) : (Instr.lookup 86 (.map (some mb)) (.int .i64 4) false).run Tryz.prog w3 = .ok (.func (.func 66) #[] #[.pointer (some ⟨tbx, 0, none⟩), .pointer (some ⟨cbx, 0, none⟩)]) w3 := by
  have h := mi.run_lookup_i64 (P := Tryz.prog) (T := 86) (K := 25) (E := 85) hmp Tryz.underlying86 Tryz.underlying25 (zero_mk w3) 4
  rw [h]
  rfl
set_option maxRecDepth 100000 in
set_option maxHeartbeats 4000000 in
theorem invoke_ok4 {W : World} {tb stb cb j n : Nat} {cs : Array Value} {hv : Value} {xs : List Value} {i : Int} (hblk : W.heap[tb]? = some (.cells (tbArr stb (.slice (some ⟨cb, 0, none⟩) 2 2) hv n) 83 (0, 0))) (hcl : W.heap[cb]? = some (.cells cs 80 (0, 0))) (hj : j < 2) (hc0 : cs[j * 2]? = some .nilIface) (hc1 : cs[j * 2 + 1]? = some (.int .i64 i)) (hist : RowAt W 72 11 hv n xs) (few : n ≤ 100)
    (k hi l : Int) (v : ByteArray) (hm : mayE 4 k hi l v = 0) :
    Calls Tryz.prog 6 #[.pointer (some ⟨tb, 0, none⟩), .int .i64 j, .agg (caArr 4 k hi l v)] W (InvP W tb stb cb j cs n hv xs j 4 k hi l v) := by
  obtain ⟨ao, cp, rfl, _, _⟩ := row_shape hist
  obtain ⟨W1, hW1⟩ : ∃ W1, W1 = W.alloc (.cells (caArr 4 k hi l v) 28) := ⟨_, rfl⟩
  have hk1 : Keeps [] W W1 := by rw [hW1]; exact Keeps.alloc _ _
  have hb1 : W1.heap[W.heap.size]? = some (.cells (caArr 4 k hi l v) 28 (0, 0)) := by rw [hW1]; exact alloc_new
  obtain ⟨xb, hxb⟩ : ∃ xb, xb = W.heap.size := ⟨_, rfl⟩
  rw [← hxb] at hb1
  have ht1 := (hk1.block tb (lt_of hblk) (by simp)).trans hblk
  have hc1' := (hk1.block cb (lt_of hcl) (by simp)).trans hcl
  have hne1 : tb ≠ cb := fun h => by subst h; rw [hblk] at hcl; cases hcl
  have hne2 : xb ≠ cb := by have := lt_of hcl; omega
  have hS : ∀ wx, Keeps [cb] W1 wx → (wx.cell? ⟨tb, 0, none⟩ = some (.pointer (some ⟨stb, 0, none⟩)) ∧ wx.cell? ⟨tb, 1, none⟩ = some (.slice (some ⟨cb, 0, none⟩) 2 2) ∧ wx.cell? ⟨tb, 2, none⟩ = some (.slice ao n cp) ∧ wx.cell? ⟨tb, 3, none⟩ = some (.int .i64 n) ∧ wx.cell? ⟨xb, 0, none⟩ = some (.int .i64 4) ∧ wx.cell? ⟨xb, 1, none⟩ = some (.int .u64 k) ∧ wx.cell? ⟨xb, 2, none⟩ = some (.int .u64 hi) ∧ wx.cell? ⟨xb, 3, none⟩ = some (.int .i64 l) ∧ wx.cell? ⟨xb, 4, none⟩ = some (.string v) ∧ Keeps [cb] W1 wx) := fun wx hk => by
    have g1 := (hk.block tb (lt_of ht1) (by simp [hne1])).trans ht1
    have g2 := (hk.block xb (lt_of hb1) (by simp [hne2])).trans hb1
    exact ⟨cell_of g1 rfl, cell_of g1 rfl, cell_of g1 rfl, cell_of g1 rfl, cell_of g2 rfl, cell_of g2 rfl, cell_of g2 rfl, cell_of g2 rfl, cell_of g2 rfl, hk⟩
  have hC : ∀ wx, Keeps [] W1 wx → (wx.cell? ⟨cb, j * 2, none⟩ = some .nilIface ∧ wx.cell? ⟨cb, j * 2 + 1, none⟩ = some (.int .i64 i) ∧ wx.frozen? ⟨cb, j * 2, none⟩ = false ∧ wx.frozen? ⟨cb, j * 2 + 1, none⟩ = false) := fun wx hk => by
    have g1 := (hk.block cb (lt_of hc1') (by simp)).trans hc1'
    exact ⟨cell_of g1 hc0, cell_of g1 hc1, free_of g1, free_of g1⟩
  obtain ⟨c0, c1, c2, c3, x0, x1, x2, x3, x4, _⟩ := hS W1 (Keeps.refl _ _)
  have hjI : (j : Int) < 2 := by omega
  have HH := Lib.hid (has_yes c0 c1 j hj)
  obtain ⟨d0, _⟩ := hC W1 (Keeps.refl _ _)
  have HM := Lib.hid (may_any 4 k hi l v W1)
  rw [hm] at HM
  have HX := Lib.hid (And.intro hk1 (And.intro ht1 (And.intro hc1' (And.intro hist (And.intro few (And.intro hxb hb1))))))
  have HS := Lib.hid hS
  have HC := Lib.hid hC
  have hal : W.alloc (.cells (caArr 4 k hi l v) 28) = W1 := hW1.symm
  have hxb' : W.heap.size = xb := hxb.symm
  have hbd : ∀ b wx, (Instr.build 80 #[(0, .iface 151 (.pointer (some ⟨b, 0, none⟩))), (1, .int .i64 n)]).run Tryz.prog wx = .ok (.agg #[.iface 151 (.pointer (some ⟨b, 0, none⟩)), .int .i64 n]) wx := fun b wx => run_build wx _ _ _ (built_client 151 b n)
  unfold caArr at hal HM ⊢
  clear hblk hcl hc0 hc1 hm hk1 hb1 hxb ht1 hc1' hS hC hist hW1
  go_enter Tryz.func6, Tryz.ntmps6
  go_wp2_with fail
  refine HH.out.mono ?_
  rintro e w1 ⟨rfl, rfl⟩
  go_wp2_with fail
  refine HM.out.mono ?_
  rintro e w2 ⟨rfl, hk2⟩
  obtain ⟨e0, e1, e2, e3, y0, y1, y2, y3, y4, _⟩ := HS.out w2 (hk2.mono (by simp))
  have HK2 := Lib.hid hk2
  clear hne1 hne2 c0 c1 c2 c3 x0 x1 x2 x3 x4 d0 hxb'
  go_upto_region 9 with fail
  go_cut [] from 29 to 48 (fun wx => ∃ b w3, Keeps [] W1 w3 ∧ wx = (w3.setCell ⟨cb, j * 2, none⟩ (.iface 151 (.pointer (some ⟨b, 0, none⟩)))).setCell ⟨cb, j * 2 + 1, none⟩ (.int .i64 n))
  case first =>
    --<T
    refine wp_normal ?_
    have hk0 : Keeps [] W1 w2.drew := hk2.trans (Keeps.drew w2) (by simp)
    go_region_held3 (fun wx => wx.cell? ⟨tb, 0, none⟩ = some (.pointer (some ⟨stb, 0, none⟩)) ∧ wx.cell? ⟨tb, 1, none⟩ = some (.slice (some ⟨cb, 0, none⟩) 2 2) ∧ wx.cell? ⟨tb, 2, none⟩ = some (.slice ao n cp) ∧ wx.cell? ⟨tb, 3, none⟩ = some (.int .i64 n) ∧ wx.cell? ⟨xb, 0, none⟩ = some (.int .i64 4) ∧ wx.cell? ⟨xb, 1, none⟩ = some (.int .u64 k) ∧ wx.cell? ⟨xb, 2, none⟩ = some (.int .u64 hi) ∧ wx.cell? ⟨xb, 3, none⟩ = some (.int .i64 l) ∧ wx.cell? ⟨xb, 4, none⟩ = some (.string v) ∧ Keeps [cb] W1 wx)
      (first | exact HS.out _ (Keeps.mono (by assumption) (by simp)) | exact HS.out _ (Keeps.trans (Keeps.trans (Keeps.mono (F := []) (by assumption) (by simp)) (Keeps.setCell _ _ _ _) (by simp)) (Keeps.setCell _ _ _ _) (by simp)) | exact HS.out _ (Keeps.trans (Keeps.mono (F := []) (by assumption) (by simp)) (Keeps.setCell _ _ _ _) (by simp)))
      (first
        | (go_at_call 25; refine (makes_any tb (j : Int) _).mono ?_; rintro e w3 ⟨mb, tbx, cbx, rfl, hmp, hbx1, hbx2, hk3⟩; have K3 : Keeps [] W1 w3 := Keeps.trans hk0 hk3 (by simp); have hlk := lk4 hmp; have HMk := Lib.hid (mk4_any (w := w3) (tbx := tbx) (cbx := cbx) (tb := tb) (s := some ⟨stb, 0, none⟩) (c := (j : Int)) 4 k hi l v hbx1.cell (HS.out _ (K3.mono (by simp))).1 hbx2.cell); clear hmp hbx1 hbx2 hk3)
        | (go_at_call 66; refine HMk.out.mono ?_; rintro e w4 ⟨b, rfl, hk4⟩; have K4 : Keeps [] W1 w4 := Keeps.trans K3 hk4 (by simp); obtain ⟨z0, z1, z2, z3⟩ := HC.out w4 K4))
    all_goals
      simp only [onlyNormal]
      go_wp2_with fail
      go_meet
      exact ⟨b, w4, K4, rfl⟩
    --T>
  case rest =>
  obtain ⟨b, w3, hk3, hwc⟩ := hcut
  obtain ⟨hk1, ht1, hc1', hist, few', hxb, hb1⟩ := HX.out
  have hkc : Keeps [cb] W1 wc := by rw [hwc]; exact Keeps.trans (Keeps.trans (hk3.mono (by simp)) (Keeps.setCell _ _ _ _) (by simp)) (Keeps.setCell _ _ _ _) (by simp)
  have hcc : wc.heap[cb]? = some (.cells ((cs.setIfInBounds (j * 2) (.iface 151 (.pointer (some ⟨b, 0, none⟩)))).setIfInBounds (j * 2 + 1) (.int .i64 n)) 80 (0, 0)) := by rw [hwc]; exact set_same (set_same ((hk3.block cb (lt_of hc1') (by simp)).trans hc1'))
  have hne1 : tb ≠ cb := fun h => by subst h; rw [ht1] at hc1'; cases hc1'
  have hac := row_apart_blk (hist.same fun q hq => hk1.block q (hist.lt hq) (by simp)) hc1' (by decide)
  have hat := row_apart_blk (hist.same fun q hq => hk1.block q (hist.lt hq) (by simp)) ht1 (by decide)
  obtain ⟨a0, a1, a2, a3, v0, v1, v2, v3, v4, _⟩ := HS.out wc hkc
  obtain ⟨L, hL⟩ : ∃ L, L = dnL (j : Int) 4 k hi l v n := ⟨_, rfl⟩
  have hL11 : L.length = 11 := by rw [hL]; rfl
  have hbd2 : ∀ wx, (Instr.build 72 #[(0, .int .i64 j), (1, .agg (caArr 4 k hi l v)), (2, .int .i64 n), (3, .int .i64 (-1))]).run Tryz.prog wx = .ok (.agg L.toArray) wx := fun wx => run_build wx _ _ _ (by rw [hL]; exact built_done j 4 k hi l n v)
  unfold caArr at hbd2
  have hbs := one_done hL11 wc.drew
  obtain ⟨w5, hw5⟩ : ∃ w5, w5 = wc.drew.alloc (.cells L.toArray 72) := ⟨_, rfl⟩
  have hk5 : Keeps [] wc w5 := by rw [hw5]; exact (Keeps.drew wc).trans (Keeps.alloc _ _) (by simp)
  have hr5 : RowAt w5 72 11 (.slice ao n cp) n xs := hist.same fun q hq => ((((hk1.mono (G := [cb]) (by simp)).trans hkc (by simp)).trans hk5 (by simp)).block q (hist.lt hq) (by simp; rintro rfl; exact hac hq))
  have hn5 : w5.heap[wc.heap.size]? = some (.cells L.toArray 72 (0, 0)) := by rw [hw5]; exact alloc_new
  obtain ⟨v', w8, hrun, hrow', hgrow, hblk', g5, o5, c5, rfl⟩ := app_done hr5 hL11 (by rw [hL]; intro u hu; simp only [dnL, List.mem_cons, List.not_mem_nil, or_false] at hu; rcases hu with rfl | rfl | rfl | rfl | rfl | rfl | rfl | rfl | rfl | rfl | rfl <;> rfl) few' hn5
  have hal5 : wc.drew.alloc (.cells L.toArray 72) = w5 := hw5.symm
  have hk8 := Keeps.grown hgrow
  have hb5 := ((hkc.trans hk5 (by simp)).block tb (lt_of ht1) (by simp [hne1])).trans ht1
  have hb8 := (hk8.block tb (lt_of hb5) (by simpa only [Option.mem_toList] using hat)).trans hb5
  have s2 : w5.cell? ⟨tb, 2, none⟩ = some (.slice ao n cp) := cell_of hb5 rfl
  have t2 : w8.cell? ⟨tb, 2, none⟩ = some (.slice ao n cp) := cell_of hb8 rfl
  have u2 := free_of (i := 2) hb8
  have t3 : w8.cell? ⟨tb, 3, none⟩ = some (.int .i64 n) := cell_of hb8 rfl
  have u3 := free_of (i := 3) hb8
  have hX2 := Lib.hid (And.intro hkc (And.intro hcc (And.intro hk5 (And.intro hrow' (And.intro hk8 (And.intro hblk' (And.intro hb8 hL)))))))
  clear hwc hk1 ht1 hc1' hist hxb hb1 hkc hcc hne1 hac hat hw5 hk5 hr5 hn5 hrow' hgrow hblk' hk8 hb5 hb8 hL hL11 hk3
  go_wp2_with fail
  go_region
  all_goals
    go_wp2_with fail
    go_ret
    obtain ⟨hk1, ht1, hc1', hist, few', hxb, hb1⟩ := HX.out
    obtain ⟨hkc, hcc, hk5, hrow', hk8, hblk', hb8, hL⟩ := hX2.out
    have hne1 : tb ≠ cb := fun h => by subst h; rw [ht1] at hc1'; cases hc1'
    have hac := row_apart_blk (hist.same fun q hq => hk1.block q (hist.lt hq) (by simp)) hc1' (by decide)
    have hvt := row_apart_blk hrow' hb8 (by decide)
    have hc5 := (hk5.block cb (lt_of hcc) (by simp)).trans hcc
    have hc8 := (hk8.block cb (lt_of hc5) (by simpa only [Option.mem_toList] using hac)).trans hc5
    refine ⟨151, b, .slice (some ⟨g5, o5, none⟩) (n + 1) c5, rfl, ?_, ?_, ?_, ?_, ?_⟩
    · exact set_same (set_same hb8)
    · exact (set_other hne1).trans ((set_other hne1).trans hc8)
    · rw [hL] at hrow'
      exact hrow'.same fun q hq => (set_other (fun e => hvt (by rw [hq, e]))).trans (set_other (fun e => hvt (by rw [hq, e])))
    · refine ((((hk1.mono (by simp)).trans (hkc.mono (G := tb :: cb :: (Value.slice ao n cp).ownBlock.toList) (by simp)) ?_).trans (hk5.mono (G := []) (by simp)) (by simp)).trans hk8 ?_).trans ((Keeps.setCell w8 tb 2 _).trans (Keeps.setCell _ tb 3 _) (by simp)) (by simp)
      · intro i hi; exact .inl hi
      · intro i hi; exact .inl (List.mem_cons_of_mem _ (List.mem_cons_of_mem _ hi))
    · rcases hblk' with h1 | ⟨q, h1, h2⟩
      · exact .inl h1
      · exact .inr ⟨q, h1, by have := hk1.size; have := hkc.size; have := hk5.size; omega⟩
end Go.Proofs.YtdbbbaallalhoaaGreat.si
