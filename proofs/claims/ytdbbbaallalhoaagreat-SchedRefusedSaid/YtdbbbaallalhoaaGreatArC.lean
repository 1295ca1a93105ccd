/-
  PROVED HERE: the words of a node, and how it is laid into an arena (Words, Lay). Conditions: the node's numbers are within their types; the place has room for it.
-/
import Derived.Test.YtdbbbaallalhoaaGreatArB
import Derived.Laws.Shifts
namespace Go.Proofs.YtdbbbaallalhoaaGreat.ar
open Go.RowKit Go.Proofs.YtdbbbaallalhoaaGreat.pm
set_option linter.unusedVariables false

theorem wpList_run {P : Program} {ops : Array Oper} {Q : Exit → Act → World → Prop} {rest : List Oper} {o : Oper} {a : Act} {w w' : World} {v : Value}
    (hw : Region.wanted o (yielded ops a.tmps) = true) (hrun : (execOp a.eval o).run P w = .ok (.value v) w') (h : wpList P ops Q rest (a.put o.dst v) w') : wpList P ops Q (o :: rest) a w := by
  unfold wpList
  rw [if_pos hw]
  left
  unfold Oper.wp
  rw [hrun]
  exact h
theorem exec_load {P : Program} {o : Oper} {a : Act} {w : World} {ty : TypeId} {x : Operand} {ad : Addr} {v : Value} (ho : o.op = .load ty x) (hx : a.eval x = .pointer (some ad)) (h : (loadVar ty ad).run P w = .ok v w) :
    (execOp a.eval o).run P w = .ok (.value v) w := by
  unfold execOp
  simp only [ho, hx, Instr.loadAt, Instr.sureAddr, Sem.run_bind, Sem.run_pure, Result.andThen_ok, h]

theorem results_one_cell {P : Program} {fn : Func} {p : Tmp} {ty : TypeId} {tmps : Array Value} {w : World} {a : Addr} {v : Value} (h : fn.results = #[.cell p ty]) (ha : tmps.getD p undef = .pointer (some a)) (hl : (loadVar ty a).run P w = .ok v w) :
    (results fn tmps).run P w = .ok v w := by
  simp only [results, h]
  have ha' : tmps[p]?.getD undef = .pointer (some a) := by simpa using ha
  simp [ha', asAddr, hl]

/-- A node: its level, Low, Next, Count, First, keys and pointers. -/
structure Nd where
  lv : Int
  low : Int
  nx : Int
  ct : Int
  fi : Int
  ks : List Int
  ps : List Int
def Nd.list (N : Nd) : List Value := [.int .i64 N.lv, .int .u64 N.low, .int .u64 N.nx, .int .u64 N.ct, .int .u64 N.fi] ++ (N.ks.map (Value.int .u64) ++ N.ps.map (Value.int .u64))
def Nd.arr (N : Nd) : Array Value := N.list.toArray
structure Nd.Ok (N : Nd) : Prop where
  lv : 0 ≤ N.lv ∧ N.lv ≤ 15
  low : U64 N.low
  nx : U64 N.nx
  ct : U64 N.ct
  fi : U64 N.fi
  ks : N.ks.length = 8 ∧ ∀ x ∈ N.ks, U64 x
  ps : N.ps.length = 8 ∧ ∀ x ∈ N.ps, U64 x
theorem Nd.Ok.size {N : Nd} (h : N.Ok) : N.arr.size = 21 := by simp [Nd.arr, Nd.list, h.ks.1, h.ps.1]
theorem Nd.key {N : Nd} (h : N.Ok) {k : Nat} {x : Int} (hx : N.ks[k]? = some x) : N.arr[5 + k]? = some (.int .u64 x) := by
  have hk : k < 8 := by have := (List.getElem?_eq_some_iff.1 hx).1; rw [h.ks.1] at this; exact this
  simp only [Nd.arr, Nd.list, List.getElem?_toArray]
  rw [List.getElem?_append_right (by simp), List.getElem?_append_left (by simp [h.ks.1]; omega)]
  simp [hx]
theorem Nd.ptr {N : Nd} (h : N.Ok) {k : Nat} {x : Int} (hx : N.ps[k]? = some x) : N.arr[13 + k]? = some (.int .u64 x) := by
  simp only [Nd.arr, Nd.list, List.getElem?_toArray]
  rw [List.getElem?_append_right (by simp; omega), List.getElem?_append_right (by simp [h.ks.1]; omega)]
  simp [h.ks.1, show 13 + k - 5 - 8 = k by omega, hx]

set_option maxRecDepth 1000000 in
theorem a24uInfo : (Tryz.prog.info? 206).map (·.size) = some 24 := by kernel_rfl
def z24 : Array Value := (List.replicate 24 (Value.int .u64 0)).toArray
set_option maxRecDepth 100000 in
set_option maxHeartbeats 2000000 in
theorem words_any (w : World) {N : Nd} (h : N.Ok) :
    Calls Tryz.prog 94 #[.agg N.arr] w fun e w' => ∃ xs : List Int, e = .returned (.agg (xs.map (Value.int .u64)).toArray) ∧ xs.length = 24 ∧ (∀ x ∈ xs, U64 x) ∧ Keeps [] w w' := by
  obtain ⟨A, hA⟩ : ∃ A, A = N.arr := ⟨_, rfl⟩
  rw [← hA]
  have a0 : A[0]? = some (.int .i64 N.lv) := by rw [hA]; rfl
  have a1 : A[1]? = some (.int .u64 N.low) := by rw [hA]; rfl
  have a2 : A[2]? = some (.int .u64 N.nx) := by rw [hA]; rfl
  have a3 : A[3]? = some (.int .u64 N.ct) := by rw [hA]; rfl
  have a4 : A[4]? = some (.int .u64 N.fi) := by rw [hA]; rfl
  have hlv := h.lv
  have l0 : ¬ N.lv < 0 := by omega
  have l1 : ¬ 15 < N.lv := by omega
  have l2 : IntKind.u64.wrap N.lv = N.lv := IntWalk.u64_in _ (by omega)
  have l3 : IntKind.u64.wrap (5495893775785918464 + N.lv) = 5495893775785918464 + N.lv := IntWalk.u64_in _ (by omega)
  have HN := Lib.hid (And.intro h hA); clear h hA hlv
  go_enter Tryz.func94, Tryz.ntmps94
  go_wp2_with fail
  go_loopw [4] (fun s4 wr => ∃ (k : Nat) (xs : List Int), k ≤ 8 ∧ s4 = .int .i64 k ∧ xs.length = 24 ∧ (∀ x ∈ xs, U64 x) ∧ wr.heap[w.heap.size + 1 + 1]? = some (.cells (xs.map (Value.int .u64)).toArray 206 (0, 0)) ∧ wr.heap[w.heap.size]? = some (.cells A 113 (0, 0)) ∧ wr.heap[w.heap.size + 1]? = some (.cells z24 206 (0, 0)) ∧ Keeps [] w wr) (fun s4 _ => 8 - (intOf s4).toNat)
  case atStart =>
    obtain ⟨h, hA⟩ := HN.out
    refine ⟨0, [5495893775785918464 + N.lv, N.low, N.nx, N.ct, N.fi] ++ List.replicate 19 0, by omega, rfl, rfl, fun x hx => ?_, ?_, ?_, ?_, ?_⟩
    · have hlv := h.lv
      simp only [List.cons_append, List.nil_append, List.mem_cons] at hx
      rcases hx with rfl | rfl | rfl | rfl | rfl | hx
      · unfold U64; omega
      · exact h.low
      · exact h.nx
      · exact h.ct
      · exact h.fi
      · rw [List.eq_of_mem_replicate hx]; unfold U64; omega
    · have := alloc_new (w := (w.alloc (.cells A 113)).alloc (.cells z24 206)) (o := .cells (([5495893775785918464 + N.lv, N.low, N.nx, N.ct, N.fi] ++ List.replicate 19 0).map (Value.int .u64)).toArray 206)
      rw [World.size_alloc, World.size_alloc] at this
      exact this
    · exact alloc_old (alloc_old (alloc_new (w := w)))
    · have h1 := alloc_new (w := w.alloc (.cells A 113)) (o := .cells z24 206)
      rw [World.size_alloc] at h1
      exact alloc_old h1
    · exact ((Keeps.alloc w _).trans (Keeps.alloc _ _) (by simp)).trans (Keeps.alloc _ _) (by simp)
  case round =>
    obtain ⟨k, xs, hk, rfl, hxl, hxu, hbw, hbn, hbr, hkw⟩ := hrel
    by_cases hlt : k < 8
    · obtain ⟨h, hA⟩ := HN.out
      obtain ⟨y, hy⟩ : ∃ y, N.ks[k]? = some y := ⟨_, List.getElem?_eq_getElem (by rw [h.ks.1]; exact hlt)⟩
      obtain ⟨z, hz⟩ : ∃ z, N.ps[k]? = some z := ⟨_, List.getElem?_eq_getElem (by rw [h.ps.1]; exact hlt)⟩
      have hyu := h.ks.2 y (List.mem_of_getElem? hy)
      have hzu := h.ps.2 z (List.mem_of_getElem? hz)
      obtain ⟨k2, hk2⟩ : ∃ k2, k2 = 2 * k := ⟨_, rfl⟩
      obtain ⟨j, hj⟩ : ∃ j, j = 8 + k2 := ⟨_, rfl⟩
      obtain ⟨j1, hj1⟩ : ∃ j1, j1 = 9 + k2 := ⟨_, rfl⟩
      have e1 : IntKind.i64.wrap (2 * (k : Int)) = (k2 : Int) := by rw [IntWalk.i64_in _ (by omega)]; omega
      have e2 : IntKind.i64.wrap (8 + (k2 : Int)) = (j : Int) := by rw [IntWalk.i64_in _ (by omega)]; omega
      have e3 : IntKind.i64.wrap (9 + (k2 : Int)) = (j1 : Int) := by rw [IntWalk.i64_in _ (by omega)]; omega
      have e4 : (k : Int) < 8 := by omega
      have e5 : (j : Int) < 24 := by omega
      have e6 : (j1 : Int) < 24 := by omega
      have ck : wr.cell? ⟨w.heap.size, 5 + k, none⟩ = some (.int .u64 y) := cell_of hbn (by rw [hA]; exact Nd.key h hy)
      obtain ⟨o, ho⟩ : ∃ o, xs[j]? = some o := ⟨_, List.getElem?_eq_getElem (by omega)⟩
      have cw : wr.cell? ⟨w.heap.size + 1 + 1, j, none⟩ = some (.int .u64 o) := cell_of hbw (by simp [ho])
      have fw : wr.frozen? ⟨w.heap.size + 1 + 1, j, none⟩ = false := free_of hbw
      obtain ⟨W2, hW2⟩ : ∃ W2, W2 = wr.setCell ⟨w.heap.size + 1 + 1, j, none⟩ (.int .u64 y) := ⟨_, rfl⟩
      have hbw2 : W2.heap[w.heap.size + 1 + 1]? = some (.cells ((xs.set j y).map (Value.int .u64)).toArray 206 (0, 0)) := by
        rw [hW2, set_same hbw, List.map_set]; simp
      have hbn2 : W2.heap[w.heap.size]? = some (.cells A 113 (0, 0)) := by rw [hW2]; exact (set_other (by omega)).trans hbn
      have cp : W2.cell? ⟨w.heap.size, 13 + k, none⟩ = some (.int .u64 z) := cell_of hbn2 (by rw [hA]; exact Nd.ptr h hz)
      obtain ⟨o1, ho1⟩ : ∃ o1, (xs.set j y)[j1]? = some o1 := ⟨_, List.getElem?_eq_getElem (by rw [List.length_set]; omega)⟩
      have cw2 : W2.cell? ⟨w.heap.size + 1 + 1, j1, none⟩ = some (.int .u64 o1) := cell_of hbw2 (by rw [List.getElem?_toArray, List.getElem?_map, ho1]; rfl)
      have fw2 : W2.frozen? ⟨w.heap.size + 1 + 1, j1, none⟩ = false := free_of hbw2
      have HX := Lib.hid (And.intro hxl (And.intro hxu (And.intro hbr (And.intro hkw (And.intro hbw2 (And.intro hbn2 (And.intro hyu (And.intro hzu (And.intro hW2 (And.intro hk2 (And.intro hj hj1)))))))))))
      have hW2' := hW2.symm
      clear ho ho1
      clear h hA hy hz hyu hzu hk2 hj hj1 hxl hxu hbr hkw hbw2 hbn2 hbw hbn hW2
      go_wp2_with fail
      obtain ⟨W3, hW3⟩ : ∃ W3, W3 = W2.setCell ⟨w.heap.size + 1 + 1, j1, none⟩ (.int .u64 z) := ⟨_, rfl⟩
      rw [← hW3]
      go_roundw
      case rel =>
        obtain ⟨hxl, hxu, hbr, hkw, hbw2, hbn2, hyu, hzu, hW2, hk2, hj, hj1⟩ := HX.out
        refine ⟨k + 1, (xs.set j y).set j1 z, by omega, by go_num, by simp [hxl], fun x hx => ?_, ?_, ?_, ?_, ?_⟩
        · rcases List.mem_or_eq_of_mem_set hx with hx | rfl
          · rcases List.mem_or_eq_of_mem_set hx with hx | rfl
            · exact hxu x hx
            · exact hyu
          · exact hzu
        · rw [hW3, set_same hbw2, List.map_set (i := j1)]; simp
        · rw [hW3]; exact (set_other (by omega)).trans hbn2
        · rw [hW3, hW2]; exact (set_other (by omega)).trans ((set_other (by omega)).trans hbr)
        · rw [hW3, hW2]
          exact (hkw.trans (Keeps.setCell _ _ j _) (fun i hi => .inr (by simp at hi; omega))).trans (Keeps.setCell _ _ j1 _) (fun i hi => .inr (by simp at hi; omega))
      case measure => simp [intOf]; omega
    · obtain rfl : k = 8 := by omega
      have hld : (loadVar 206 ⟨w.heap.size + 1 + 1, 0, none⟩).run Tryz.prog wr = .ok (.agg (xs.map (Value.int .u64)).toArray) wr :=
        run_loadVar_row (P := Tryz.prog) wr _ 206 206 _ (0, 0) _ hbw Tryz.underlying206 rfl (by rw [a24uInfo]; simp [hxl])
      have hst := run_storeCells_from (P := Tryz.prog) (w.heap.size + 1) 206 (xs.map (Value.int .u64)) 0 z24 wr hbr (by simp [hxl, z24]) (fun v hv => by obtain ⟨x, _, rfl⟩ := List.mem_map.1 hv; rfl)
      obtain ⟨W2, hW2⟩ : ∃ W2, W2 = wr.setRow (w.heap.size + 1) (z24.toList.take 0 ++ xs.map (Value.int .u64)).toArray := ⟨_, rfl⟩
      rw [← hW2] at hst
      obtain ⟨X, hX⟩ : ∃ X, X = (xs.map (Value.int .u64)).toArray := ⟨_, rfl⟩
      have hst2 : (storeCells ⟨w.heap.size + 1, 0, none⟩ X.toList).run Tryz.prog wr = .ok () W2 := by rw [hX]; exact hst
      rw [← hX] at hld
      have hX24 : X.size = 24 := by rw [hX]; simp [hxl]
      have HX := Lib.hid (And.intro hxl (And.intro hxu (And.intro hbr (And.intro hkw (And.intro hW2 hX))))); clear hxl hxu hbr hkw hW2 hX hbw hbn hst
      go_wp2_with (first | (refine wpList_run (o := ⟨some 51, _, _, _, _, _⟩) rfl (v := .agg X) (w' := wr) (exec_load rfl rfl hld) ?_))
      obtain ⟨hxl, hxu, hbr, hkw, hW2, hX⟩ := HX.out
      have hW2' : W2.heap[w.heap.size + 1]? = some (.cells X 206 (0, 0)) := by
        rw [hW2, hX]
        have : (z24.toList.take 0 ++ xs.map (Value.int .u64)).toArray = (xs.map (Value.int .u64)).toArray := by simp
        rw [this]
        simp [World.setRow, Array.getElem?_modify, hbr]
      have hld2 : (loadVar 206 ⟨w.heap.size + 1, 0, none⟩).run Tryz.prog W2 = .ok (.agg X) W2 := run_loadVar_row (P := Tryz.prog) W2 _ 206 206 _ (0, 0) _ hW2' Tryz.underlying206 rfl (by rw [a24uInfo, hX24])
      refine ⟨rfl, .agg X, ?_, ?_⟩
      · exact results_one_cell (a := ⟨w.heap.size + 1, 0, none⟩) rfl rfl hld2
      · refine ⟨xs, by rw [hX], hxl, hxu, ?_⟩
        refine hkw.trans (w := W2) (G := [w.heap.size + 1]) ?_ (fun i hi => .inr (by simp at hi; omega))
        rw [hW2]
        exact ⟨by simp [World.setRow], fun i hi hni => by simp [World.setRow, Array.getElem?_modify]; intro e; simp at hni; omega, rfl, rfl, rfl⟩

set_option maxRecDepth 1000000 in
theorem nodeInfo : (Tryz.prog.info? 113).map (·.size) = some 21 := by kernel_rfl
theorem store_w0 (w : World) {A : Array Value} (hA : A.size = 24) (h1 : ∀ v ∈ A.toList, v.oneCell' = true) :
    (storeCells ⟨w.heap.size, 0, none⟩ A.toList).run Tryz.prog (w.alloc (.cells z24 206)) = .ok () (w.alloc (.cells A 206)) := by
  have hb : (w.alloc (.cells z24 206)).heap[w.heap.size]? = some (.cells z24 206) := (MapKept.heap_alloc w _).1
  have := run_storeCells_from (P := Tryz.prog) w.heap.size 206 A.toList 0 z24 (w.alloc (.cells z24 206)) hb (by simp only [Array.length_toList, Nat.zero_add, hA]; rfl) h1
  rw [List.take_zero, List.nil_append, Array.toArray_toList] at this
  exact this.trans (congrArg (Result.ok ()) (setRow_alloc w 206 _ A))

set_option maxRecDepth 100000 in
set_option maxHeartbeats 2000000 in
theorem lay_any {w : World} {b : Nat} {A : Ar} (h : ArAt w b A) {N : Nd} (hN : N.Ok) (p : Nat) (hp : p + 192 ≤ A.n) :
    Calls Tryz.prog 72 #[.pointer (some ⟨b, 0, none⟩), .int .u64 p, .agg N.arr] w fun e w' => e = .returned (.tuple #[]) ∧ ArAt w' b A ∧ Keeps [A.g] w w' := by
  have hn := h.size
  have hs := h.small
  obtain ⟨C, hC⟩ : ∃ C, C = N.arr := ⟨_, rfl⟩
  have HWd := Lib.hid (words_any (w.alloc (.cells C 113)) hN)
  have hC21 : C.size = 21 := by rw [hC]; exact hN.size
  rw [← hC] at HWd ⊢
  clear hC
  have hld : (loadVar 113 ⟨w.heap.size, 0, none⟩).run Tryz.prog (w.alloc (.cells C 113)) = .ok (.agg C) (w.alloc (.cells C 113)) :=
    run_loadVar_row (P := Tryz.prog) _ _ 113 113 _ (0, 0) _ alloc_new Tryz.underlying113 rfl (by rw [nodeInfo, hC21])
  have e0 : IntKind.i64.wrap (p : Int) = (p : Int) := IntWalk.i64_in _ (by omega)
  have HH := Lib.hid (And.intro h (And.intro hn (And.intro hs hN))); clear h hn hs hN hC21
  go_enter Tryz.func72, Tryz.ntmps72
  go_wp2_with (first | (refine wpList_run (o := ⟨some 8, _, _, _, _, _⟩) rfl (v := .agg C) (w' := w.alloc (.cells C 113)) (exec_load rfl rfl hld) ?_) | fail)
  refine HWd.out.mono ?_
  rintro e w1 ⟨xs, rfl, hxl, hxu, hk1⟩
  obtain ⟨X, hX⟩ : ∃ X, X = (xs.map (Value.int .u64)).toArray := ⟨_, rfl⟩
  have hX24 : X.size = 24 := by rw [hX]; simp [hxl]
  have hst : (storeCells ⟨w1.heap.size, 0, none⟩ X.toList).run Tryz.prog (w1.alloc (.cells #[Value.int IntKind.u64 0, Value.int IntKind.u64 0, Value.int IntKind.u64 0, Value.int IntKind.u64 0, Value.int IntKind.u64 0, Value.int IntKind.u64 0, Value.int IntKind.u64 0, Value.int IntKind.u64 0, Value.int IntKind.u64 0, Value.int IntKind.u64 0, Value.int IntKind.u64 0, Value.int IntKind.u64 0, Value.int IntKind.u64 0, Value.int IntKind.u64 0, Value.int IntKind.u64 0, Value.int IntKind.u64 0, Value.int IntKind.u64 0, Value.int IntKind.u64 0, Value.int IntKind.u64 0, Value.int IntKind.u64 0, Value.int IntKind.u64 0, Value.int IntKind.u64 0, Value.int IntKind.u64 0, Value.int IntKind.u64 0] 206)) = .ok () (w1.alloc (.cells X 206)) :=
    store_w0 w1 hX24 (fun v hv => by rw [hX] at hv; simp only [List.mem_map] at hv; obtain ⟨x, _, rfl⟩ := hv; rfl)
  rw [← hX]
  have HX := Lib.hid (And.intro hX (And.intro hxl (And.intro hxu hk1))); clear hX hxl hxu hk1
  go_wp2_with fail
  obtain ⟨W2, hW2⟩ : ∃ W2, W2 = w1.alloc (.cells X 206) := ⟨_, rfl⟩
  rw [← hW2]
  obtain ⟨n6, hn6⟩ : ∃ n6, n6 = w1.heap.size := ⟨_, rfl⟩
  rw [← hn6]
  obtain ⟨h, hn, hs, hN⟩ := HH.out
  obtain ⟨hX, hxl, hxu, hk1⟩ := HX.out
  have hkw2 : Keeps [] w W2 := by rw [hW2]; exact ((Keeps.alloc w _).trans hk1 (by simp)).trans (Keeps.alloc _ _) (by simp)
  have hb6 : W2.heap[n6]? = some (.cells X 206 (0, 0)) := by rw [hW2, hn6]; exact alloc_new
  have hg6 : A.g ≠ n6 := by
    have h1 := h.glt
    have h2 := hk1.size
    rw [World.size_alloc] at h2
    omega
  have H2 := Lib.hid (And.intro hkw2 (And.intro hb6 hg6)); clear hn6 hW2 hst h hn hs hN hX hxl hxu hk1 hkw2 hb6 hg6 hld
  go_loopw [7] (fun s7 wr => ∃ k : Nat, k ≤ 24 ∧ s7 = .int .i64 k ∧ ArAt wr b A ∧ Keeps [A.g] W2 wr) (fun s7 _ => 24 - (intOf s7).toNat)
  case atStart => exact ⟨0, by omega, rfl, HH.out.1.keeps H2.out.1 (by simp) (by simp), Keeps.refl _ _⟩
  case round =>
    obtain ⟨k, hk, rfl, hA, hkw⟩ := hrel
    by_cases hlt : k < 24
    · obtain ⟨h, hn, hs, hN⟩ := HH.out
      obtain ⟨hX, hxl, hxu, hk1⟩ := HX.out
      obtain ⟨k8, hk8⟩ : ∃ k8, k8 = 8 * k := ⟨_, rfl⟩
      obtain ⟨q, hq⟩ : ∃ q, q = p + k8 := ⟨_, rfl⟩
      have e1 : IntKind.i64.wrap (8 * (k : Int)) = (k8 : Int) := by rw [IntWalk.i64_in _ (by omega)]; omega
      have e2 : IntKind.i64.wrap ((p : Int) + (k8 : Int)) = (q : Int) := by rw [IntWalk.i64_in _ (by omega)]; omega
      have e3 : (k : Int) < 24 := by omega
      obtain ⟨x, hx⟩ : ∃ x, xs[k]? = some x := ⟨_, List.getElem?_eq_getElem (by omega)⟩
      have cx : wr.cell? ⟨n6, k, none⟩ = some (.int .u64 x) := cell_of ((hkw.block n6 (lt_of H2.out.2.1) (by simpa using Ne.symm H2.out.2.2)).trans H2.out.2.1) (by rw [hX]; simp [hx])
      have HPt := Lib.hid (put_any hA q x (hxu x (List.mem_of_getElem? hx)) (by omega))
      have HK := Lib.hid hkw
      clear h hn hs hN hX hxl hxu hk1 hk8 hq hx hA hkw
      go_wp2_with fail
      refine HPt.out.mono ?_
      rintro e w3 ⟨rfl, hA3, hk3⟩
      have H3 := Lib.hid (And.intro hA3 hk3); clear hA3 hk3
      go_wp2_with fail
      go_roundw
      case rel => exact ⟨k + 1, by omega, by go_num, H3.out.1, HK.out.trans H3.out.2 (fun i hi => .inl hi)⟩
      case measure => simp [intOf]; omega
    · obtain rfl : k = 24 := by omega
      have H3 := Lib.hid (And.intro hA hkw); clear hA hkw
      go_wp2_with fail
      go_end0
      exact ⟨rfl, H3.out.1, (H2.out.1.mono (G := [A.g]) (by simp)).trans H3.out.2 (fun i hi => .inl hi)⟩
end Go.Proofs.YtdbbbaallalhoaaGreat.ar
