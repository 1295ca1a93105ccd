/-
  PROVED HERE: sched's History: as many entries as the table has. Conditions: the table lies as named, and what it holds are entries without an answer.
-/
import Derived.Test.YtdbbbaallalhoaaGreatSiJ
namespace Go.Proofs.YtdbbbaallalhoaaGreat.si
open Go.RowKit Go.Proofs.YtdbbbaallalhoaaGreat.pm Go.Proofs.YtdbbbaallalhoaaGreat.ar Go.Proofs.YtdbbbaallalhoaaGreat.bt Go.Proofs.YtdbbbaallalhoaaGreat.sl Go.Proofs.YtdbbbaallalhoaaGreat.rn
set_option linter.unusedVariables false
attribute [-go_sem] Builtin.append_ Instr.buildSlice Instr.build

/-- The i-th entry of a history has no answer yet. -/
def Ent (xs : List Value) (i : Nat) : Prop := ∃ (c op k hi l b : Int) (v : ByteArray), ∀ (f : Nat) (u : Value), (dnL c op k hi l v b)[f]? = some u → xs[i * 11 + f]? = some u
set_option maxRecDepth 100000 in
set_option maxHeartbeats 4000000 in
theorem history_any {W : World} {tb stb n : Nat} {cl hv : Value} {xs : List Value} (hb : W.heap[tb]? = some (.cells (tbArr stb cl hv n) 83 (0, 0))) (hist : RowAt W 72 11 hv n xs) (few : n ≤ 100) (he : ∀ i < n, Ent xs i) :
    Calls Tryz.prog 8 #[.pointer (some ⟨tb, 0, none⟩)] W fun e w' => ∃ ao cp, e = .returned (.slice ao n cp) ∧ Keeps [] W w' := by
  obtain ⟨ao, cp, rfl, hcp, hcm⟩ := row_shape hist
  have c0 : W.cell? ⟨tb, 0, none⟩ = some (.pointer (some ⟨stb, 0, none⟩)) := cell_of hb rfl
  have c2 : W.cell? ⟨tb, 2, none⟩ = some (.slice ao n cp) := cell_of hb rfl
  have HT := Lib.hid (tthere_any c0)
  have HX := Lib.hid (And.intro hist he)
  clear hb hist he
  go_enter Tryz.func8, Tryz.ntmps8
  go_wp2_with fail
  refine HT.out.mono ?_
  rintro e w1 ⟨rfl, rfl⟩
  go_wp2_with fail
  go_loopw [2, 4, 13] (fun s2 _ s13 wr => ∃ (i : Nat) (a2 : Option Addr) (q2 : Nat) (ys : List Value), i ≤ n ∧ s13 = .int .i64 i ∧ s2 = .slice a2 i q2 ∧ RowAt wr 72 11 (.slice a2 i q2) i ys ∧ Keeps [] W wr ∧ ∀ q, (Value.slice a2 i q2).ownBlock = some q → W.heap.size ≤ q) (fun _ _ s13 _ => n - (intOf s13).toNat)
  case atStart =>
    exact ⟨0, none, 0, [], Nat.zero_le _, rfl, rfl, RowAt.nil _ _ _, Keeps.refl _ _, fun q hq => by cases hq⟩
  case round =>
    obtain ⟨i, a2, q2, ys, hi0, rfl, rfl, hrow, hk, hown⟩ := hrel
    by_cases hlt : i < n
    · obtain ⟨g, off, rfl⟩ : ∃ g off, ao = some ⟨g, off, none⟩ := by
        have hl := HX.out.1.1
        rcases HX.out.1.2 with ⟨e, hn⟩ | ⟨g, off, cap', cur, e, _⟩
        · subst hn; simp at hl; omega
        · cases e; exact ⟨g, off, rfl⟩
      obtain ⟨c, op, k, hi, l, b, v, hE⟩ := HX.out.2 i hlt
      have hcl : ∀ (f : Nat) (u : Value), (dnL c op k hi l v b)[f]? = some u → wr.cell? ⟨g, off + (i * 11 + f), none⟩ = some u := fun f u hf =>
        (HX.out.1.same fun q hq => hk.block q (HX.out.1.lt hq) (by simp)).cell (hE f u hf)
      have e0 : wr.cell? ⟨g, off + i * 11, none⟩ = some (.int .i64 c) := by have h := hcl 0 _ rfl; rw [← Nat.add_assoc] at h; exact h
      have e1 : wr.cell? ⟨g, off + i * 11 + 1, none⟩ = some (.int .i64 op) := by have h := hcl 1 _ rfl; rw [← Nat.add_assoc] at h; exact h
      have e2 : wr.cell? ⟨g, off + i * 11 + 2, none⟩ = some (.int .u64 k) := by have h := hcl 2 _ rfl; rw [← Nat.add_assoc] at h; exact h
      have e3 : wr.cell? ⟨g, off + i * 11 + 3, none⟩ = some (.int .u64 hi) := by have h := hcl 3 _ rfl; rw [← Nat.add_assoc] at h; exact h
      have e4 : wr.cell? ⟨g, off + i * 11 + 4, none⟩ = some (.int .i64 l) := by have h := hcl 4 _ rfl; rw [← Nat.add_assoc] at h; exact h
      have e5 : wr.cell? ⟨g, off + i * 11 + 5, none⟩ = some (.string v) := by have h := hcl 5 _ rfl; rw [← Nat.add_assoc] at h; exact h
      have e6 : wr.cell? ⟨g, off + i * 11 + 6, none⟩ = some (.int .i64 b) := by have h := hcl 6 _ rfl; rw [← Nat.add_assoc] at h; exact h
      have e7 : wr.cell? ⟨g, off + i * 11 + 7, none⟩ = some (.int .i64 (-1)) := by have h := hcl 7 _ rfl; rw [← Nat.add_assoc] at h; exact h
      have e8 : wr.cell? ⟨g, off + i * 11 + 8, none⟩ = some (.int .i64 0) := by have h := hcl 8 _ rfl; rw [← Nat.add_assoc] at h; exact h
      have e9 : wr.cell? ⟨g, off + i * 11 + 9, none⟩ = some (.string ByteArray.empty) := by have h := hcl 9 _ rfl; rw [← Nat.add_assoc] at h; exact h
      have e10 : wr.cell? ⟨g, off + i * 11 + 10, none⟩ = some (.slice none 0 0) := by have h := hcl 10 _ rfl; rw [← Nat.add_assoc] at h; exact h
      obtain ⟨xb, hxb⟩ : ∃ xb, xb = wr.heap.size := ⟨_, rfl⟩
      have hxb' : wr.heap.size = xb := hxb.symm
      obtain ⟨wa, hwa⟩ : ∃ wa, wa = wr.alloc (.cells #[.int .i64 c, .int .i64 op, .int .u64 k, .int .u64 hi, .int .i64 l, .string v, .int .i64 b, .int .i64 (-1), .int .i64 0, .string ByteArray.empty, .slice none 0 0] 72) := ⟨_, rfl⟩
      have hal := hwa.symm
      have hba : wa.heap[xb]? = some (.cells #[.int .i64 c, .int .i64 op, .int .u64 k, .int .u64 hi, .int .i64 l, .string v, .int .i64 b, .int .i64 (-1), .int .i64 0, .string ByteArray.empty, .slice none 0 0] 72 (0, 0)) := by rw [hwa, hxb]; exact alloc_new
      have hka : Keeps [] wr wa := by rw [hwa]; exact Keeps.alloc _ _
      have a8 : wa.cell? ⟨xb, 8, none⟩ = some (.int .i64 0) := cell_of hba rfl
      have a9 : wa.cell? ⟨xb, 9, none⟩ = some (.string ByteArray.empty) := cell_of hba rfl
      have a10 : wa.cell? ⟨xb, 10, none⟩ = some (.slice none 0 0) := cell_of hba rfl
      have HO := Lib.hid (own_any (W := wa) 0 ByteArray.empty)
      have HY := Lib.hid (And.intro hrow (And.intro hk (And.intro hown (And.intro hxb (And.intro hka hba)))))
      have HE := Lib.hid hE
      have HH := Lib.hid (And.intro hal hxb')
      clear hcl hE hrow hk hown hxb hka hba hwa hal hxb' a8 a9 a10
      go_upto_region 6 with fail
      obtain ⟨hal, hxb'⟩ := HH.out
      rw [hal, hxb']
      have hba := HY.out.2.2.2.2.2
      have a8 : wa.cell? ⟨xb, 8, none⟩ = some (.int .i64 0) := cell_of hba rfl
      have a9 : wa.cell? ⟨xb, 9, none⟩ = some (.string ByteArray.empty) := cell_of hba rfl
      have a10 : wa.cell? ⟨xb, 10, none⟩ = some (.slice none 0 0) := cell_of hba rfl
      clear hba hal hxb'
      go_wp2_with fail
      refine HO.out.mono ?_
      rintro e w2 ⟨rfl, hk2⟩
      obtain ⟨hrow, hk, hown, hxb, hka, hba⟩ := HY.out
      clear a8 a9 a10
      have hb2 := (hk2.block xb (lt_of hba) (by simp)).trans hba
      have b8 : w2.cell? ⟨xb, 8, none⟩ = some (.int .i64 0) := cell_of hb2 rfl
      have b9 : w2.cell? ⟨xb, 9, none⟩ = some (.string ByteArray.empty) := cell_of hb2 rfl
      have b10 : w2.cell? ⟨xb, 10, none⟩ = some (.slice none 0 0) := cell_of hb2 rfl
      have f8 : w2.frozen? ⟨xb, 8, none⟩ = false := free_of hb2
      have f9 : w2.frozen? ⟨xb, 9, none⟩ = false := free_of hb2
      have f10 : w2.frozen? ⟨xb, 10, none⟩ = false := free_of hb2
      obtain ⟨w3, hw3⟩ : ∃ w3, w3 = ((w2.setCell ⟨xb, 8, none⟩ (.int .i64 0)).setCell ⟨xb, 9, none⟩ (.string ByteArray.empty)).setCell ⟨xb, 10, none⟩ (.slice none 0 0) := ⟨_, rfl⟩
      have hs3 := hw3.symm
      have hb3 : w3.heap[xb]? = some (.cells #[.int .i64 c, .int .i64 op, .int .u64 k, .int .u64 hi, .int .i64 l, .string v, .int .i64 b, .int .i64 (-1), .int .i64 0, .string ByteArray.empty, .slice none 0 0] 72 (0, 0)) := by rw [hw3]; exact set_same (set_same (set_same hb2))
      have hk3 : Keeps [] wr w3 := by
        rw [hw3]
        exact (((hka.trans hk2 (by simp)).trans (Keeps.setCell _ xb 8 _) (by simp [hxb])).trans (Keeps.setCell _ xb 9 _) (by simp [hxb])).trans (Keeps.setCell _ xb 10 _) (by simp [hxb])
      have g0 : w3.cell? ⟨xb, 0, none⟩ = some (.int .i64 c) := cell_of hb3 rfl
      have g1 : w3.cell? ⟨xb, 1, none⟩ = some (.int .i64 op) := cell_of hb3 rfl
      have g2 : w3.cell? ⟨xb, 2, none⟩ = some (.int .u64 k) := cell_of hb3 rfl
      have g3 : w3.cell? ⟨xb, 3, none⟩ = some (.int .u64 hi) := cell_of hb3 rfl
      have g4 : w3.cell? ⟨xb, 4, none⟩ = some (.int .i64 l) := cell_of hb3 rfl
      have g5 : w3.cell? ⟨xb, 5, none⟩ = some (.string v) := cell_of hb3 rfl
      have g6 : w3.cell? ⟨xb, 6, none⟩ = some (.int .i64 b) := cell_of hb3 rfl
      have g7 : w3.cell? ⟨xb, 7, none⟩ = some (.int .i64 (-1)) := cell_of hb3 rfl
      have g8 : w3.cell? ⟨xb, 8, none⟩ = some (.int .i64 0) := cell_of hb3 rfl
      have g9 : w3.cell? ⟨xb, 9, none⟩ = some (.string ByteArray.empty) := cell_of hb3 rfl
      have g10 : w3.cell? ⟨xb, 10, none⟩ = some (.slice none 0 0) := cell_of hb3 rfl
      have hbs := one_done (L := dnL c op k hi l v b) rfl w3
      obtain ⟨w4, hw4⟩ : ∃ w4, w4 = w3.alloc (.cells #[.int .i64 c, .int .i64 op, .int .u64 k, .int .u64 hi, .int .i64 l, .string v, .int .i64 b, .int .i64 (-1), .int .i64 0, .string ByteArray.empty, .slice none 0 0] 72) := ⟨_, rfl⟩
      have hk4 : Keeps [] wr w4 := by rw [hw4]; exact hk3.trans (Keeps.alloc _ _) (by simp)
      have hb4 : w4.heap[w3.heap.size]? = some (.cells (dnL c op k hi l v b).toArray 72 (0, 0)) := by rw [hw4]; exact alloc_new
      obtain ⟨v', w5, hrun, hrow5, hgrow, hblk', g5, o5, c5, rfl⟩ := app_done (hrow.same fun q hq => hk4.block q (hrow.lt hq) (by simp)) (L := dnL c op k hi l v b) rfl (by intro u hu; simp only [dnL, List.mem_cons, List.not_mem_nil, or_false] at hu; rcases hu with rfl | rfl | rfl | rfl | rfl | rfl | rfl | rfl | rfl | rfl | rfl <;> rfl) (by omega) hb4
      have hal4 := hw4.symm
      have HZ := Lib.hid (And.intro hk4 (And.intro hrow5 (And.intro hgrow hblk')))
      unfold dnL at hbs
      clear hrow hk hown hxb hka hba hb2 hw3 hb3 hk3 hw4 hk4 hb4 hrow5 hgrow hblk' hk2 e0 e1 e2 e3 e4 e5 e6 e7 e8 e9 e10
      go_wp2_with fail
      obtain ⟨hrow, hk, hown, hxb, hka, hba⟩ := HY.out
      obtain ⟨hk4, hrow5, hgrow, hblk'⟩ := HZ.out
      refine ⟨⟨i + 1, _, _, _, by omega, rfl, rfl, hrow5, (hk.trans hk4 (by simp)).trans (Keeps.grown hgrow) (fun j hj => .inr (hown j (by simpa only [Option.mem_toList] using hj))), ?_⟩, by simp [intOf]; omega⟩
      intro q hq
      rcases hblk' with h1 | ⟨q', h1, h2⟩
      · exact hown q (by rw [← h1]; exact hq)
      · rw [h1] at hq; cases hq; have := hk.size; have := hk4.size; omega
    · obtain rfl : i = n := by omega
      go_wp2_with fail
      go_ret
      exact ⟨_, _, rfl, hk⟩
end Go.Proofs.YtdbbbaallalhoaaGreat.si
