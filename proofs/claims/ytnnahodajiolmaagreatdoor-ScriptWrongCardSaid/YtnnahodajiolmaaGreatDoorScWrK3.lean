/-
  PROVED HERE: a fact of the row that the card of ScriptWrong asks: no function of the program starts a goroutine. Conditions: none.
-/
import Derived.Test.YtnnahodajiolmaaGreatDoorCards
import Derived.Lay
namespace Go.Proofs.YtnnahodajiolmaaGreatDoor.sc.cWrong
theorem goes_none {P : Program} {f : FuncId} (h : P.funcs.any Func.goes = false) : P.goes f = false := by
  unfold Program.goes
  rw [h, Bool.and_false, Bool.or_false, List.any_eq_false]
  intro g _
  cases hg : P.funcs[g]? with
  | none => simp
  | some fn =>
    rw [Array.any_eq_false] at h
    obtain ⟨hl, he⟩ := Array.getElem?_eq_some_iff.1 hg
    have := h g hl
    rw [he] at this
    simpa using this
theorem goesFrom_none {P : Program} {s : String} (h : P.funcs.any Func.goes = false) : P.goesFrom s = false := by
  unfold Program.goesFrom
  cases P.funcNamed s with
  | none => rfl
  | some f => simpa using goes_none h
set_option maxRecDepth 1000000 in
theorem noGoes : Tryz.prog.funcs.any Func.goes = false := by kernel_rfl
theorem goesIs : false = Rows.scriptWrongRow.goesBy Tryz.pinned.checked.prog := by
  unfold OpenClaim.goesBy Program.goesAt
  rw [show Tryz.pinned.checked.prog.goesFrom Rows.scriptWrongRow.func = false from goesFrom_none noGoes]
  rfl
end Go.Proofs.YtnnahodajiolmaaGreatDoor.sc.cWrong
