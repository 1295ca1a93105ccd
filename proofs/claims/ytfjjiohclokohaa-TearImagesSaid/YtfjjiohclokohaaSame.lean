/-
  PROVED HERE: the contract of Same, at two memories of the same data: true. Conditions: the lines are the same up to their order in the map.
-/
import Derived.Test.YtfjjiohclokohaaEqual
import Derived.ChangeKeysEq
import Derived.Outline
namespace Go.Proofs.Ytfjjiohclokohaa.pm
open Go.RowKit

/-- An operation that runs to a value, wanted by its guard. -/
theorem wpList_run {P : Program} {ops : Array Oper} {Q : Exit → Act → World → Prop} {rest : List Oper} {o : Oper} {a : Act} {w w' : World} {v : Value}
    (hw : Region.wanted o (yielded ops a.tmps) = true) (hrun : (execOp a.eval o).run P w = .ok (.value v) w') (h : wpList P ops Q rest (a.put o.dst v) w') : wpList P ops Q (o :: rest) a w := by
  unfold wpList
  rw [if_pos hw]
  left
  unfold Oper.wp
  rw [hrun]
  exact h

theorem marksInfo : (Try.prog.info? 73).map (·.size) = some 65 := by kernel_rfl

theorem run_load_marks {w : World} {g : Nat} {sv : Value} {marks : List Int} (h : w.heap[g]? = some (.cells (lineArr sv marks) 75 (0, 0))) (hm : marks.length = 65) :
    (loadVar 73 ⟨g, 1, none⟩).run Try.prog w = .ok (.agg (marks.map (Value.int .i64)).toArray) w := by
  have hl := run_loadCells_list (P := Try.prog) w ⟨g, 1, none⟩ (marks.map (Value.int .i64)) (fun j v hj => by
    rw [addr_add]
    refine cell_of h ?_
    rw [Nat.add_comm 1 j]
    simp only [List.getElem?_map, Option.map_eq_some_iff] at hj
    obtain ⟨m, h1, rfl⟩ := hj
    exact lineArr_mark h1)
  rw [List.length_map, hm] at hl
  have hi := marksInfo
  cases hq : Try.prog.info? 73 with
  | none => rw [hq] at hi; cases hi
  | some i =>
    rw [hq] at hi
    simp only [Option.map_some, Option.some.injEq] at hi
    have hu := run_underlying (P := Try.prog) Try.underlying73 w
    unfold loadVar isAgg sizeOf typeInfo
    simp only [Sem.run_bind, hu, Result.andThen_ok, Sem.run_pure, if_true, run_program, hq, hi, hl]

theorem cellsInt : Try.prog.cellsOf 3 = 1 := by kernel_rfl

theorem eq_int (d : Nat) (w : World) (a : Int) : (Op.equalIn (d + 1) 3 (.int .i64 a) (.int .i64 a)).run Try.prog w = .ok true w := by
  have hu := run_underlying (P := Try.prog) Try.underlying3 w
  simp [Op.equalIn, hu]

theorem eqItems_same (d : Nat) {w : World} (xs : List Int) : ∀ (is : List Nat), (∀ i ∈ is, i < xs.length) →
    (Op.eqItems (d + 1) 3 1 (xs.map (Value.int .i64)).toArray (xs.map (Value.int .i64)).toArray is).run Try.prog w = .ok true w
  | [], _ => by simp [Op.eqItems]
  | i :: is, h => by
    have hi : i < xs.length := h i (by simp)
    have ih := eqItems_same d (w := w) xs is (fun j hj => h j (by simp [hj]))
    have hu := run_underlying (P := Try.prog) Try.underlying3 w
    have hp : (part 3 (xs.map (Value.int .i64)).toArray (i * 1)).run Try.prog w = .ok (.int .i64 xs[i]) w := by
      simp [part, isAgg, hu, hi]
    simp only [Op.eqItems, Sem.run_bind, hp, eq_int, Result.andThen_ok, Bool.not_true, Bool.false_eq_true, if_false]
    exact ih

theorem equalIn_marks (d : Nat) (w : World) (xs : List Int) (hx : xs.length = 65) :
    (Op.equalIn (d + 1 + 1) 73 (.agg (xs.map (Value.int .i64)).toArray) (.agg (xs.map (Value.int .i64)).toArray)).run Try.prog w = .ok true w := by
  obtain ⟨i0, hi, _⟩ := info_parts intInfo
  rw [run_equalIn_array (P := Try.prog) w (d + 1) _ _ Try.underlying73 hi, cellsInt]
  exact eqItems_same d xs _ (fun i hi => by rw [List.mem_range] at hi; omega)

theorem run_eq_marks (w : World) (xs : List Int) (hx : xs.length = 65) :
    (Op.equalIn 10000 73 (.agg (xs.map (Value.int .i64)).toArray) (.agg (xs.map (Value.int .i64)).toArray)).run Try.prog w = .ok true w :=
  equalIn_marks 9998 w xs hx

theorem exec_load {P : Program} {o : Oper} {a : Act} {w : World} {ty : TypeId} {x : Operand} {ad : Addr} {v : Value} (ho : o.op = .load ty x) (hx : a.eval x = .pointer (some ad)) (h : (loadVar ty ad).run P w = .ok v w) :
    (execOp a.eval o).run P w = .ok (.value v) w := by
  unfold execOp
  simp only [ho, hx, Instr.loadAt, Instr.sureAddr, Sem.run_bind, Sem.run_pure, Result.andThen_ok, h]

set_option maxRecDepth 100000 in
set_option maxHeartbeats 1000000 in
/-- two lines of the same puts and marks -/
theorem sameFn_any {w : World} {sv sv' : Value} {l : Line} (hr : RowAt w 56 2 sv l.puts.length (flat l.puts)) (hr' : RowAt w 56 2 sv' l.puts.length (flat l.puts)) (hm : l.marks.length = 65) (hn : l.puts.length ≤ 1000000) :
    Calls Try.prog 34 #[.agg (lineArr sv l.marks), .agg (lineArr sv' l.marks)] w fun e w' => e = .returned (.bool true) ∧ Keeps [] w w' := by
  obtain ⟨A, hA⟩ : ∃ A, A = lineArr sv l.marks := ⟨_, rfl⟩
  obtain ⟨B, hB⟩ : ∃ B, B = lineArr sv' l.marks := ⟨_, rfl⟩
  rw [← hA, ← hB]
  have HA := Lib.hid hA; clear hA
  have HB := Lib.hid hB; clear hB
  have HM := Lib.hid hm; clear hm
  go_enter Try.func34, Try.ntmps34
  go_upto_region 1 with fail
  obtain ⟨W, hW⟩ : ∃ W, W = (w.alloc (.cells A 75)).alloc (.cells B 75) := ⟨_, rfl⟩
  rw [← hW]
  have hk : Keeps [] w W := by rw [hW]; exact (Keeps.alloc w _).trans (Keeps.alloc _ _) (by simp)
  have hbA : W.heap[w.heap.size]? = some (.cells A 75 (0, 0)) := by rw [hW]; exact alloc_old (alloc_new (w := w))
  have hbB : W.heap[w.heap.size + 1]? = some (.cells B 75 (0, 0)) := by
    rw [hW]; have := alloc_new (w := w.alloc (.cells A 75)) (o := .cells B 75); rwa [World.size_alloc] at this
  have HW := Lib.hid hW; clear hW
  have qA : W.cell? ⟨w.heap.size, 0, none⟩ = some sv := cell_of hbA (by rw [HA.out]; exact lineArr_zero)
  have qB : W.cell? ⟨w.heap.size + 1, 0, none⟩ = some sv' := cell_of hbB (by rw [HB.out]; exact lineArr_zero)
  have hrW := hr.same (w' := W) fun g hg => hk.block g (hr.lt hg) (by simp)
  have hrW' := hr'.same (w' := W) fun g hg => hk.block g (hr'.lt hg) (by simp)
  go_wp2_with fail
  refine (equalPut_same hrW.reads hrW'.reads hn).mono ?_
  rintro e W2 ⟨rfl, hk2, hh2⟩
  have hbA2 : W2.heap[w.heap.size]? = some (.cells A 75 (0, 0)) := by rw [hh2]; exact hbA
  have hbB2 : W2.heap[w.heap.size + 1]? = some (.cells B 75 (0, 0)) := by rw [hh2]; exact hbB
  have hlA := run_load_marks (HA.out ▸ hbA2) HM.out
  have hlB := run_load_marks (HB.out ▸ hbB2) HM.out
  have heq := run_eq_marks W2 l.marks HM.out
  obtain ⟨C, hC⟩ : ∃ C, C = (l.marks.map (Value.int .i64)).toArray := ⟨_, rfl⟩
  rw [← hC] at hlA hlB heq
  have HC := Lib.hid hC; clear hC
  have HH2 := Lib.hid hh2; clear hh2
  clear qA qB hbA hbB
  go_wp2_with (first
    | (refine wpList_run (o := ⟨some 12, _, _, _, _, _⟩) rfl (v := .agg C) (w' := W2) (exec_load rfl rfl hlA) ?_)
    | (refine wpList_run (o := ⟨some 14, _, _, _, _, _⟩) rfl (v := .agg C) (w' := W2) (exec_load rfl rfl hlB) ?_))
  go_ret
  exact ⟨rfl, hk.trans hk2 (by simp)⟩
end Go.Proofs.Ytfjjiohclokohaa.pm
