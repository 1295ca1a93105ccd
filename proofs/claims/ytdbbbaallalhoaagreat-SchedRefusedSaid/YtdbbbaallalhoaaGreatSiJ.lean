/-
  PROVED HERE: sched's own (an answer of its own), Pending. Conditions: an answer without pairs; a table of two clients.
-/
import Derived.Test.YtdbbbaallalhoaaGreatSiH
namespace Go.Proofs.YtdbbbaallalhoaaGreat.si
open Go.RowKit Go.Proofs.YtdbbbaallalhoaaGreat.pm Go.Proofs.YtdbbbaallalhoaaGreat.ar Go.Proofs.YtdbbbaallalhoaaGreat.bt Go.Proofs.YtdbbbaallalhoaaGreat.sl Go.Proofs.YtdbbbaallalhoaaGreat.rn
set_option linter.unusedVariables false
attribute [-go_sem] Builtin.append_ Instr.buildSlice Instr.build

set_option maxRecDepth 1000000 in
theorem app_none (w : World) : (Builtin.append_ #[68, 68] 68 #[.slice none 0 0, .slice none 0 0]).run Tryz.prog w = .ok (.slice none 0 0) w := by kernel_rfl
set_option maxRecDepth 1000000 in
theorem respInfo : (Tryz.prog.info? 70).map (·.size) = some 3 := by kernel_rfl

theorem own_any {W : World} (a : Int) (s : ByteArray) : Calls Tryz.prog 28 #[.agg #[.int .i64 a, .string s, .slice none 0 0]] W fun e w' => e = .returned (.agg #[.int .i64 a, .string s, .slice none 0 0]) ∧ Keeps [] W w' := by
  have happ := app_none
  have k1 := Keeps.alloc W (.cells #[.int .i64 a, .string s, .slice none 0 0] 70)
  have HK := Lib.hid k1; clear k1
  go_enter Tryz.func28, Tryz.ntmps28
  go_wp2_with fail
  refine ⟨rfl, .agg #[.int .i64 a, .string s, .slice none 0 0], ?_, rfl, ?_⟩
  · exact results_one_cell (a := ⟨W.heap.size + 1, 0, none⟩) rfl rfl (run_loadVar_row (P := Tryz.prog) _ _ 70 70 _ (0, 0) _ (by
      have h := alloc_new (w := W.alloc (.cells #[.int .i64 a, .string s, .slice none 0 0] 70)) (o := .cells #[.int .i64 a, .string s, .slice none 0 0] 70)
      simpa using h) Tryz.underlying70 rfl (by rw [respInfo]; rfl))
  · exact HK.out.trans (Keeps.alloc _ _) (by simp)

theorem results_cell_tmp {P : Program} {fn : Func} {p q : Tmp} {ty : TypeId} {tmps : Array Value} {w : World} {a : Addr} {v u : Value} (h : fn.results = #[.cell p ty, .tmp q]) (ha : tmps.getD p undef = .pointer (some a)) (hl : (loadVar ty a).run P w = .ok v w) (hu : tmps.getD q undef = u) :
    (results fn tmps).run P w = .ok (.tuple #[v, u]) w := by
  simp only [results, h]
  have ha' : tmps[p]?.getD undef = .pointer (some a) := by simpa using ha
  have hu' : tmps[q]?.getD undef = u := by simpa using hu
  simp [ha', hu', asAddr, hl]
set_option maxRecDepth 1000000 in
theorem built_call0 : Tryz.prog.built 28 [] = some (caArr 0 0 0 0 ByteArray.empty) := by kernel_rfl
set_option maxRecDepth 1000000 in
theorem callInfo : (Tryz.prog.info? 28).map (·.size) = some 5 := by kernel_rfl
section
variable {W : World} {tb stb cb n : Nat} {m0 m1 : Value} {i0 i1 : Int} {hv : Value} {xs : List Value}
set_option maxRecDepth 100000 in
set_option maxHeartbeats 1000000 in
theorem pend_no (h : Tab W tb stb cb m0 .nilIface i0 i1 hv n xs) :
    Calls Tryz.prog 29 #[.pointer (some ⟨tb, 0, none⟩), .int .i64 (1 : Nat)] W fun e w' => e = .returned (.tuple #[.agg (caArr 0 0 0 0 ByteArray.empty), .bool false]) ∧ Keeps [] W w' := by
  obtain ⟨W1, hW1⟩ : ∃ W1, W1 = W.alloc (.cells (caArr 0 0 0 0 ByteArray.empty) 28) := ⟨_, rfl⟩
  have hk1 : Keeps [] W W1 := by rw [hW1]; exact Keeps.alloc _ _
  have hb1 : W1.heap[W.heap.size]? = some (.cells (caArr 0 0 0 0 ByteArray.empty) 28 (0, 0)) := by rw [hW1]; exact alloc_new
  have h1 := h.keeps hk1
  obtain ⟨c0, c1, c2, c3⟩ := h1.cells
  have HH := Lib.hid (has_yes c0 c1 1 (by omega))
  have d0 : W1.cell? ⟨cb, 2, none⟩ = some .nilIface := cell_of h1.cl rfl
  have hal : W.alloc (.cells #[.int .i64 0, .int .u64 0, .int .u64 0, .int .i64 0, .string { data := #[] }] 28) = W1 := hW1.symm
  have hbd : ∀ wx, (Instr.build 28 #[]).run Tryz.prog wx = .ok (.agg (caArr 0 0 0 0 ByteArray.empty)) wx := fun wx => run_build wx _ _ _ built_call0
  have HX := Lib.hid (And.intro hk1 hb1)
  unfold caArr at hbd
  obtain ⟨xb, hxb⟩ : ∃ xb, xb = W.heap.size := ⟨_, rfl⟩
  rw [← hxb] at hb1
  have hxb' : W.heap.size = xb := hxb.symm
  have s0 : W1.cell? ⟨xb, 0, none⟩ = some (.int .i64 0) := cell_of hb1 rfl
  have s1 : W1.cell? ⟨xb, 1, none⟩ = some (.int .u64 0) := cell_of hb1 rfl
  have s2 : W1.cell? ⟨xb, 2, none⟩ = some (.int .u64 0) := cell_of hb1 rfl
  have s3 : W1.cell? ⟨xb, 3, none⟩ = some (.int .i64 0) := cell_of hb1 rfl
  have s4 : W1.cell? ⟨xb, 4, none⟩ = some (.string ByteArray.empty) := cell_of hb1 rfl
  have f0 : W1.frozen? ⟨xb, 0, none⟩ = false := free_of hb1
  have f1 : W1.frozen? ⟨xb, 1, none⟩ = false := free_of hb1
  have f2 : W1.frozen? ⟨xb, 2, none⟩ = false := free_of hb1
  have f3 : W1.frozen? ⟨xb, 3, none⟩ = false := free_of hb1
  have f4 : W1.frozen? ⟨xb, 4, none⟩ = false := free_of hb1
  have HX2 := Lib.hid hxb
  clear h h1 hk1 hb1 hW1 hxb
  go_enter Tryz.func29, Tryz.ntmps29
  go_wp2_with fail
  refine HH.out.mono ?_
  rintro e w1 ⟨rfl, rfl⟩
  go_wp2_with fail
  obtain ⟨hk1, hb1⟩ := HX.out
  have hxb := HX2.out
  rw [← hxb] at hb1
  have hf := set_same (i := 4) (v := .string ByteArray.empty) (set_same (i := 3) (v := .int .i64 0) (set_same (i := 2) (v := .int .u64 0) (set_same (i := 1) (v := .int .u64 0) (set_same (i := 0) (v := .int .i64 0) hb1))))
  refine ⟨rfl, .tuple #[.agg (caArr 0 0 0 0 ByteArray.empty), .bool false], ?_, rfl, ?_⟩
  · exact results_cell_tmp (a := ⟨xb, 0, none⟩) rfl rfl (run_loadVar_row (P := Tryz.prog) _ _ 28 28 _ (0, 0) _ hf Tryz.underlying28 rfl (by rw [callInfo]; rfl)) rfl
  · exact ((((hk1.trans (Keeps.setCell _ xb 0 _) (by simp [hxb])).trans (Keeps.setCell _ xb 1 _) (by simp [hxb])).trans (Keeps.setCell _ xb 2 _) (by simp [hxb])).trans (Keeps.setCell _ xb 3 _) (by simp [hxb])).trans (Keeps.setCell _ xb 4 _) (by simp [hxb])
set_option maxRecDepth 100000 in
set_option maxHeartbeats 1000000 in
theorem pend_yes {T : TypeId} {p : Value} {c op k hi l b : Int} {v : ByteArray} (h : Tab W tb stb cb (.iface T p) m1 (0 : Nat) i1 hv 1 (dnL c op k hi l v b)) :
    Calls Tryz.prog 29 #[.pointer (some ⟨tb, 0, none⟩), .int .i64 (0 : Nat)] W fun e w' => e = .returned (.tuple #[.agg (caArr op k hi l v), .bool true]) ∧ Keeps [] W w' := by
  obtain ⟨W1, hW1⟩ : ∃ W1, W1 = W.alloc (.cells (caArr 0 0 0 0 ByteArray.empty) 28) := ⟨_, rfl⟩
  have hk1 : Keeps [] W W1 := by rw [hW1]; exact Keeps.alloc _ _
  have hb1 : W1.heap[W.heap.size]? = some (.cells (caArr 0 0 0 0 ByteArray.empty) 28 (0, 0)) := by rw [hW1]; exact alloc_new
  have h1 := h.keeps hk1
  obtain ⟨ao, cp, rfl, _, _⟩ := row_shape h.hist
  obtain ⟨g, off, rfl⟩ : ∃ g off, ao = some ⟨g, off, none⟩ := by
    rcases h.hist.2 with ⟨e, hn⟩ | ⟨g, off, cap', cur, e, _⟩
    · simp at hn
    · cases e; exact ⟨g, off, rfl⟩
  obtain ⟨c0, c1, c2, c3⟩ := h1.cells
  have HH := Lib.hid (has_yes c0 c1 0 (by omega))
  have d0 : W1.cell? ⟨cb, 0, none⟩ = some (.iface T p) := cell_of h1.cl rfl
  have d1 : W1.cell? ⟨cb, 1, none⟩ = some (.int .i64 0) := cell_of h1.cl rfl
  have e1 : W1.cell? ⟨g, off + 1, none⟩ = some (.int .i64 op) := h1.hist.cell rfl
  have e2 : W1.cell? ⟨g, off + 2, none⟩ = some (.int .u64 k) := h1.hist.cell rfl
  have e3 : W1.cell? ⟨g, off + 3, none⟩ = some (.int .u64 hi) := h1.hist.cell rfl
  have e4 : W1.cell? ⟨g, off + 4, none⟩ = some (.int .i64 l) := h1.hist.cell rfl
  have e5 : W1.cell? ⟨g, off + 5, none⟩ = some (.string v) := h1.hist.cell rfl
  have hal : W.alloc (.cells #[.int .i64 0, .int .u64 0, .int .u64 0, .int .i64 0, .string { data := #[] }] 28) = W1 := hW1.symm
  have HX := Lib.hid (And.intro hk1 hb1)
  obtain ⟨xb, hxb⟩ : ∃ xb, xb = W.heap.size := ⟨_, rfl⟩
  rw [← hxb] at hb1
  have hxb' : W.heap.size = xb := hxb.symm
  have s0 : W1.cell? ⟨xb, 0, none⟩ = some (.int .i64 0) := cell_of hb1 rfl
  have s1 : W1.cell? ⟨xb, 1, none⟩ = some (.int .u64 0) := cell_of hb1 rfl
  have s2 : W1.cell? ⟨xb, 2, none⟩ = some (.int .u64 0) := cell_of hb1 rfl
  have s3 : W1.cell? ⟨xb, 3, none⟩ = some (.int .i64 0) := cell_of hb1 rfl
  have s4 : W1.cell? ⟨xb, 4, none⟩ = some (.string ByteArray.empty) := cell_of hb1 rfl
  have f0 : W1.frozen? ⟨xb, 0, none⟩ = false := free_of hb1
  have f1 : W1.frozen? ⟨xb, 1, none⟩ = false := free_of hb1
  have f2 : W1.frozen? ⟨xb, 2, none⟩ = false := free_of hb1
  have f3 : W1.frozen? ⟨xb, 3, none⟩ = false := free_of hb1
  have f4 : W1.frozen? ⟨xb, 4, none⟩ = false := free_of hb1
  have HX2 := Lib.hid hxb
  clear h h1 hk1 hb1 hW1 hxb
  go_enter Tryz.func29, Tryz.ntmps29
  go_wp2_with fail
  refine HH.out.mono ?_
  rintro e w1 ⟨rfl, rfl⟩
  go_wp2_with fail
  go_region
  all_goals
    go_wp2_with fail
    obtain ⟨hk1, hb1⟩ := HX.out
    have hxb := HX2.out
    rw [← hxb] at hb1
    have hf := set_same (i := 4) (v := .string v) (set_same (i := 3) (v := .int .i64 l) (set_same (i := 2) (v := .int .u64 hi) (set_same (i := 1) (v := .int .u64 k) (set_same (i := 0) (v := .int .i64 op) hb1))))
    refine ⟨rfl, .tuple #[.agg (caArr op k hi l v), .bool true], ?_, rfl, ?_⟩
    · exact results_cell_tmp (a := ⟨xb, 0, none⟩) rfl rfl (run_loadVar_row (P := Tryz.prog) _ _ 28 28 _ (0, 0) _ hf Tryz.underlying28 rfl (by rw [callInfo]; rfl)) rfl
    · exact (((((hk1.trans (Keeps.setCell _ xb 0 _) (by simp [hxb])).trans (Keeps.setCell _ xb 1 _) (by simp [hxb])).trans (Keeps.setCell _ xb 2 _) (by simp [hxb])).trans (Keeps.setCell _ xb 3 _) (by simp [hxb])).trans (Keeps.setCell _ xb 4 _) (by simp [hxb])).trans (Keeps.drew _) (by simp)
set_option maxRecDepth 100000 in
set_option maxHeartbeats 1000000 in
theorem busy_any {T : TypeId} {p : Value} {c op k hi l b : Int} {v : ByteArray} (h : Tab W tb stb cb (.iface T p) .nilIface (0 : Nat) i1 hv 1 (dnL c op k hi l v b)) :
    Calls Tryz.prog 10 #[.pointer (some ⟨tb, 0, none⟩)] W fun e w' => ∃ ao cp, e = .returned (.slice ao 1 cp) ∧ Keeps [] W w' := by
  obtain ⟨c0, c1, c2, c3⟩ := h.cells
  have HT := Lib.hid (tthere_any c0)
  have HP := Lib.hid (pend_yes h)
  have HN := Lib.hid (fun (w : World) (hk : Keeps [] W w) => pend_no (h.keeps hk))
  clear h
  go_enter Tryz.func10, Tryz.ntmps10
  go_wp2_with fail
  refine HT.out.mono ?_
  rintro e w1 ⟨rfl, rfl⟩
  go_wp2_with fail
  refine wp_loop_rounds 3 ?_
  rw [rounds_succ]
  go_wp2_with fail
  refine HP.out.mono ?_
  rintro e w2 ⟨rfl, hk2⟩
  unfold caArr
  obtain ⟨w3, hw3⟩ : ∃ w3, w3 = w2.alloc (.cells #[.int .i64 op, .int .u64 k, .int .u64 hi, .int .i64 l, .string v] 28) := ⟨_, rfl⟩
  have hk3 : Keeps [] W w3 := by rw [hw3]; exact hk2.trans (Keeps.alloc _ _) (by simp)
  have hal3 := hw3.symm
  obtain ⟨w4, hw4⟩ : ∃ w4, w4 = w3.alloc (.cells #[.int .i64 0] 3) := ⟨_, rfl⟩
  have hk4 : Keeps [] W w4 := by rw [hw4]; exact hk3.trans (Keeps.alloc _ _) (by simp)
  have hal4 := hw4.symm
  have hbs := one_int 0 w3
  obtain ⟨i0, hi0, hz0, hz1, hz2⟩ := info_parts intInfo
  obtain ⟨v', w5, hrun, hrow, hgrow, hblk', hsl⟩ := run_append_row (P := Tryz.prog) (w := w4) 44 44 3 i0 _ 1 8 Tryz.underlying44 hi0 hz0 hz1 hz2 rfl (RowAt.nil w4 3 1) (xv := .slice (some ⟨w3.heap.size, 0, none⟩) 1 1) (m := 1) (news := [.int .i64 0])
    (.inr ⟨⟨w3.heap.size, 0, none⟩, 1, rfl, rfl, fun i u hi => by
      have hc := alloc_new (w := w3) (o := .cells #[.int .i64 0] 3)
      rw [← hw4] at hc
      match i, hi with
      | 0, hi => cases hi; exact cell_of hc rfl⟩) rfl (by intro u hu; simp only [List.mem_cons, List.not_mem_nil, or_false] at hu; subst hu; rfl) (by unfold maxLen; omega) (by omega)
  obtain ⟨g5, o5, cp5, rfl⟩ := hsl (by omega)
  have hk5 : Keeps [] W w5 := hk4.trans (Keeps.grown hgrow) (by simp [Value.ownBlock])
  have HN5 := HN.out w5 hk5
  have HK5 := Lib.hid hk5
  rw [Nat.zero_add] at hrun
  clear hw3 hk3 hw4 hk4 hrow hgrow hblk' hsl hk5 hk2
  go_wp2_with fail
  rw [rounds_succ]
  go_wp2_with fail
  refine HN5.mono ?_
  rintro e w6 ⟨rfl, hk6⟩
  have HK6 := Lib.hid hk6
  have HK7 := Lib.hid (Keeps.alloc w6 (.cells (caArr 0 0 0 0 ByteArray.empty) 28))
  unfold caArr at HK7 ⊢
  clear hk6 HN5
  go_wp2_with fail
  rw [rounds_succ]
  go_wp2_with fail
  go_ret
  exact ⟨_, _, rfl, (HK5.out.trans HK6.out (by simp)).trans HK7.out (by simp)⟩
end
end Go.Proofs.YtdbbbaallalhoaaGreat.si
