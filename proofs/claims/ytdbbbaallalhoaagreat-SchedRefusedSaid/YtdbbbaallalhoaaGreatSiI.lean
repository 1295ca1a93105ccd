/-
  PROVED HERE: what the law asks of a table and a memory at the end: Count, View, Stats, did. Conditions: they lie as named.
-/
import Derived.Test.YtdbbbaallalhoaaGreatSiH
namespace Go.Proofs.YtdbbbaallalhoaaGreat.si
open Go.RowKit Go.Proofs.YtdbbbaallalhoaaGreat.pm Go.Proofs.YtdbbbaallalhoaaGreat.ar Go.Proofs.YtdbbbaallalhoaaGreat.bt Go.Proofs.YtdbbbaallalhoaaGreat.sl Go.Proofs.YtdbbbaallalhoaaGreat.rn
set_option linter.unusedVariables false
attribute [-go_sem] Builtin.append_ Instr.buildSlice Instr.build

section
variable {W : World} {tb stb cb n : Nat} {cl hv : Value}
theorem count_any (hb : W.heap[tb]? = some (.cells (tbArr stb cl hv n) 83 (0, 0))) :
    Calls Tryz.prog 9 #[.pointer (some ⟨tb, 0, none⟩)] W fun e w' => e = .returned (.int .i64 n) ∧ W = w' := by
  have c0 : W.cell? ⟨tb, 0, none⟩ = some (.pointer (some ⟨stb, 0, none⟩)) := cell_of hb rfl
  have c3 : W.cell? ⟨tb, 3, none⟩ = some (.int .i64 n) := cell_of hb rfl
  have HT := Lib.hid (tthere_any c0)
  go_enter Tryz.func9, Tryz.ntmps9
  go_wp2_with fail
  refine HT.out.mono ?_
  rintro e w1 ⟨rfl, rfl⟩
  go_wp2_with fail
  go_ret
  exact ⟨rfl, rfl⟩
end

theorem view_any {W : World} {b : Nat} {p : Pl} {M : Mod} (h : IsMem W b p M) (h0 : 0 < M.view.length) (hu : ∀ x ∈ M.view, U64 x) (hn : M.view.length ≤ 131072) :
    Calls Tryz.prog 12 #[.pointer (some ⟨b, 0, none⟩)] W fun e w' => ∃ v', e = .returned v' ∧ RowAt w' 5 1 v' (8 * M.view.length) ((bytesOf M.view).map (Value.int .u8)) ∧ Keeps [] W w' ∧ ∀ g, v'.ownBlock = some g → W.heap.size ≤ g := by
  obtain ⟨ao, cp, hv, _, _⟩ := row_shape h.view
  have c0 : W.cell? ⟨b, 0, none⟩ = some (p.view M.view.length) := cell_of h.blkAt rfl
  rw [hv] at c0
  have HT := Lib.hid (mthere_any c0 h0)
  have HB := Lib.hid (bytes_any (h.view.reads) hu hn)
  rw [hv] at HB
  clear hv
  go_enter Tryz.func12, Tryz.ntmps12
  go_wp2_with fail
  refine HT.out.mono ?_
  rintro e w1 ⟨rfl, rfl⟩
  go_wp2_with fail
  refine HB.out.mono ?_
  rintro e w1 ⟨v', rfl, h1, h2, h3⟩
  go_wp2_with fail
  go_ret
  exact ⟨v', rfl, h1, h2, h3⟩

set_option maxRecDepth 1000000 in
theorem statsInfo : (Tryz.prog.info? 98).map (·.size) = some 4 := by kernel_rfl
theorem stats_any {W : World} {b : Nat} {p : Pl} {M : Mod} (h : IsMem W b p M) (h0 : 0 < M.view.length) :
    Calls Tryz.prog 32 #[.pointer (some ⟨b, 0, none⟩)] W fun e w' => e = .returned (.agg #[.int .u64 M.s0, .int .u64 M.s1, .int .u64 M.s2, .int .u64 M.s3]) ∧ Keeps [] W w' := by
  obtain ⟨ao, cp, hv, _, _⟩ := row_shape h.view
  have hb := h.blkAt
  rw [hv] at hb
  obtain ⟨W1, hW1⟩ : ∃ W1, W1 = W.alloc (.cells #[.int .u64 0, .int .u64 0, .int .u64 0, .int .u64 0] 98) := ⟨_, rfl⟩
  have hk1 : Keeps [] W W1 := by rw [hW1]; exact Keeps.alloc _ _
  have hb1 := (hk1.block b (lt_of hb) (by simp)).trans hb
  obtain ⟨sb, hsb⟩ : ∃ sb, sb = W.heap.size := ⟨_, rfl⟩
  have hn1 : W1.heap[sb]? = some (.cells #[.int .u64 0, .int .u64 0, .int .u64 0, .int .u64 0] 98 (0, 0)) := by rw [hW1, hsb]; exact alloc_new
  have c0 : W1.cell? ⟨b, 0, none⟩ = some (.slice ao M.view.length cp) := cell_of hb1 rfl
  have c3 : W1.cell? ⟨b, 3, none⟩ = some (.int .u64 M.s0) := cell_of hb1 rfl
  have c4 : W1.cell? ⟨b, 4, none⟩ = some (.int .u64 M.s1) := cell_of hb1 rfl
  have c5 : W1.cell? ⟨b, 5, none⟩ = some (.int .u64 M.s2) := cell_of hb1 rfl
  have c6 : W1.cell? ⟨b, 6, none⟩ = some (.int .u64 M.s3) := cell_of hb1 rfl
  have s0 : W1.cell? ⟨sb, 0, none⟩ = some (.int .u64 0) := cell_of hn1 rfl
  have s1 : W1.cell? ⟨sb, 1, none⟩ = some (.int .u64 0) := cell_of hn1 rfl
  have s2 : W1.cell? ⟨sb, 2, none⟩ = some (.int .u64 0) := cell_of hn1 rfl
  have s3 : W1.cell? ⟨sb, 3, none⟩ = some (.int .u64 0) := cell_of hn1 rfl
  have f0 : W1.frozen? ⟨sb, 0, none⟩ = false := free_of hn1
  have f1 : W1.frozen? ⟨sb, 1, none⟩ = false := free_of hn1
  have f2 : W1.frozen? ⟨sb, 2, none⟩ = false := free_of hn1
  have f3 : W1.frozen? ⟨sb, 3, none⟩ = false := free_of hn1
  have HT := Lib.hid (mthere_any c0 h0)
  have HX := Lib.hid (And.intro hk1 (And.intro hsb hn1))
  have hal : W.alloc (.cells #[.int .u64 0, .int .u64 0, .int .u64 0, .int .u64 0] 98) = W1 := hW1.symm
  have hsb' : W.heap.size = sb := hsb.symm
  clear hv hb hW1 hk1 hb1 hsb hn1 h
  go_enter Tryz.func32, Tryz.ntmps32
  go_wp2_with fail
  refine HT.out.mono ?_
  rintro e w1 ⟨rfl, rfl⟩
  go_wp2_with fail
  obtain ⟨hk1, hsb, hn1⟩ := HX.out
  have hf := set_same (i := 3) (v := .int .u64 M.s3) (set_same (i := 2) (v := .int .u64 M.s2) (set_same (i := 1) (v := .int .u64 M.s1) (set_same (i := 0) (v := .int .u64 M.s0) hn1)))
  refine ⟨rfl, .agg #[.int .u64 M.s0, .int .u64 M.s1, .int .u64 M.s2, .int .u64 M.s3], ?_, rfl, ?_⟩
  · exact results_one_cell (a := ⟨sb, 0, none⟩) rfl rfl (run_loadVar_row (P := Tryz.prog) _ _ 98 98 _ (0, 0) _ hf Tryz.underlying98 rfl (by rw [statsInfo]; rfl))
  · exact (((hk1.trans (Keeps.setCell _ sb 0 _) (by simp [hsb])).trans (Keeps.setCell _ sb 1 _) (by simp [hsb])).trans (Keeps.setCell _ sb 2 _) (by simp [hsb])).trans (Keeps.setCell _ sb 3 _) (by simp [hsb])

set_option maxRecDepth 100000 in
theorem did_any {W : World} {gb stb mb : Nat} {q : Pl} {M : Mod} (hgm : W.cell? ⟨gb, 1, none⟩ = some (.pointer (some ⟨stb, 0, none⟩))) (hst : W.cell? ⟨stb, 0, none⟩ = some (.pointer (some ⟨mb, 0, none⟩))) (h : IsMem W mb q M) (h0 : 0 < M.view.length)
    (z0 : M.s0 = 0) (z1 : M.s1 = 0) (z2 : M.s2 = 0) (z3 : M.s3 = 0) :
    Calls Tryz.prog 13 #[.pointer (some ⟨gb, 0, none⟩)] W fun e w' => e = .returned (.int .u64 0) ∧ Keeps [] W w' := by
  have HM := Lib.hid (smem_any hst)
  have HS := Lib.hid (stats_any h h0)
  rw [z0, z1, z2, z3] at HS
  clear h hst
  go_enter Tryz.func13, Tryz.ntmps13
  go_wp2_with fail
  refine HM.out.mono ?_
  rintro e w1 ⟨rfl, rfl⟩
  go_wp2_with fail
  refine HS.out.mono ?_
  rintro e w2 ⟨rfl, hk2⟩
  have k3 := Keeps.alloc w2 (.cells #[.int .u64 0, .int .u64 0, .int .u64 0, .int .u64 0] 98)
  have HK := Lib.hid (hk2.trans k3 (by simp)); clear hk2 k3
  go_wp2_with fail
  go_ret
  exact ⟨rfl, HK.out⟩
end Go.Proofs.YtdbbbaallalhoaaGreat.si
