/-
  PROVED HERE: facts of the row that the card of ConsoleNone asks: no function of the program starts a goroutine; the types are laid out. Conditions: none.
-/
import Derived.Test.YtaipbfbmdlkcpaaGreatDoorCards
import Derived.Lay
namespace Go.Proofs.YtaipbfbmdlkcpaaGreatDoor.consoleNone
theorem goes_none {P : Program} {f : FuncId} (h : P.funcs.any Func.goes = false) : P.goes f = false := by
  unfold Program.goes
  rw [h, Bool.and_false, Bool.or_false, List.any_eq_false]
  intro g _
  cases hg : P.funcs[g]? with
  | none => simp
  | some fn =>
    rw [Array.any_eq_false] at h
    obtain ⟨hl, he⟩ := Array.getElem?_eq_some_iff.1 hg
    have := h g hl
    rw [he] at this
    simpa using this
theorem goesFrom_none {P : Program} {s : String} (h : P.funcs.any Func.goes = false) : P.goesFrom s = false := by
  unfold Program.goesFrom
  cases P.funcNamed s with
  | none => rfl
  | some f => simpa using goes_none h
set_option maxRecDepth 1000000 in
theorem noGoes : Tryz.prog.funcs.any Func.goes = false := by kernel_rfl
theorem goesIs : false = Rows.consoleNoneRow.goesBy Tryz.pinned.checked.prog := by
  unfold OpenClaim.goesBy Program.goesAt
  rw [show Tryz.pinned.checked.prog.goesFrom Rows.consoleNoneRow.func = false from goesFrom_none noGoes]
  rfl
theorem all_two {f : Nat → Bool} {a m n : Nat} (h : ((List.range' a m).all f) = true) (g : ((List.range' (a + m) n).all f) = true) : ((List.range' a (m + n)).all f) = true := by
  rw [← List.range'_append_1, List.all_append, h, g]; rfl
set_option maxRecDepth 1000000 in
theorem seg0 : ((List.range' 0 100).all (rowFine Tryz.prog)) = true := by kernel_rfl
set_option maxRecDepth 1000000 in
theorem seg1 : ((List.range' 100 100).all (rowFine Tryz.prog)) = true := by kernel_rfl
set_option maxRecDepth 1000000 in
theorem seg2 : ((List.range' 200 100).all (rowFine Tryz.prog)) = true := by kernel_rfl
set_option maxRecDepth 1000000 in
theorem seg3 : ((List.range' 300 100).all (rowFine Tryz.prog)) = true := by kernel_rfl
set_option maxRecDepth 1000000 in
theorem seg4 : ((List.range' 400 100).all (rowFine Tryz.prog)) = true := by kernel_rfl
set_option maxRecDepth 1000000 in
theorem seg5 : ((List.range' 500 100).all (rowFine Tryz.prog)) = true := by kernel_rfl
set_option maxRecDepth 1000000 in
theorem seg6 : ((List.range' 600 99).all (rowFine Tryz.prog)) = true := by kernel_rfl
theorem segs1 : ((List.range' 0 200).all (rowFine Tryz.prog)) = true := all_two (m := 100) (n := 100) seg0 seg1
theorem segs2 : ((List.range' 0 300).all (rowFine Tryz.prog)) = true := all_two (m := 200) (n := 100) segs1 seg2
theorem segs3 : ((List.range' 0 400).all (rowFine Tryz.prog)) = true := all_two (m := 300) (n := 100) segs2 seg3
theorem segs4 : ((List.range' 0 500).all (rowFine Tryz.prog)) = true := all_two (m := 400) (n := 100) segs3 seg4
theorem segs5 : ((List.range' 0 600).all (rowFine Tryz.prog)) = true := all_two (m := 500) (n := 100) segs4 seg5
theorem segs6 : ((List.range' 0 699).all (rowFine Tryz.prog)) = true := all_two (m := 600) (n := 99) segs5 seg6
set_option maxRecDepth 1000000 in
theorem sizeT : Tryz.prog.types.size = 699 := by kernel_rfl
set_option maxRecDepth 1000000 in
theorem globsT : Tryz.prog.globals.all (fun g => decide (g.type < Tryz.prog.types.size)) = true := by kernel_rfl
set_option maxRecDepth 1000000 in
theorem funsT : Tryz.prog.funcs.all (fun f => f.params.all fun t => decide (t < Tryz.prog.types.size)) = true := by kernel_rfl
theorem laidOut : laidOutB Tryz.prog = true := by
  unfold laidOutB
  rw [globsT, funsT, sizeT, List.range_eq_range', segs6]
  rfl
end Go.Proofs.YtaipbfbmdlkcpaaGreatDoor.consoleNone
