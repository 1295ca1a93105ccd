/-
  PROVED HERE: the tables of the evaluator say what the program says; strings.Join comes to what the evaluator says of it.
  Conditions: none.
-/
import Derived.Test.YtaipbfbmdlkcpaaGreatDoorConsoleNoneCtx
import Derived.Test.YtaipbfbmdlkcpaaGreatDoorShelf
import Derived.Lib.Join
namespace Go.Proofs.YtaipbfbmdlkcpaaGreatDoor.consoleNone
open Go.Lev
theorem joinF_eq (sep : List UInt8) : ∀ l : List (List UInt8), joinF sep l = Lib.join l sep
  | [] => rfl
  | [s] => (Lib.join_one s sep).symm
  | s :: t :: l => by
    rw [Lib.join_cons, joinF, joinF_eq sep (t :: l), Lib.join_cons]
    · simp [Lib.joinTail]
    · simp
theorem joinOk : JoinOk Tryz.prog 43 := by
  intro bk o c xs sep w hcells hbk hN hc hlen
  rw [joinF_eq] at hlen ⊢
  exact Tryz.strings_Join bk o c xs sep w hcells hbk (by omega) hc (by omega)
set_option maxRecDepth 1000000 in
theorem cloneIs : XtOk Tryz.prog 578 1 := ⟨Tryz.f578, Tryz.func578, by kernel_rfl, by kernel_rfl, by kernel_rfl, by kernel_rfl⟩
set_option maxRecDepth 1000000 in
theorem countIs : XtOk Tryz.prog 89 2 := ⟨Tryz.f89, Tryz.func89, by kernel_rfl, by kernel_rfl, by kernel_rfl, by kernel_rfl⟩
set_option maxRecDepth 1000000 in
theorem indexIs : XtOk Tryz.prog 171 3 := ⟨Tryz.f171, Tryz.func171, by kernel_rfl, by kernel_rfl, by kernel_rfl, by kernel_rfl⟩
set_option maxRecDepth 1000000 in
theorem typesOk : wfTypes Tryz.prog = true := by kernel_rfl
set_option maxRecDepth 1000000 in
theorem mixedOk : Tryz.prog.follows .mixedOrders = true := by kernel_rfl
/-- the evaluator's tables say what the program's say -/
theorem tables : CtxOk Tryz.prog ctx := by
  refine ctxOk_of typesOk mixedOk (fun f n h => ?_) (fun f n h => ?_)
  · rcases findPr_cons h with ⟨rfl, rfl⟩ | h
    · exact cloneIs
    · rcases findPr_cons h with ⟨rfl, rfl⟩ | h
      · exact countIs
      · rcases findPr_cons h with ⟨rfl, rfl⟩ | h
        · exact indexIs
        · simp [findPr] at h
  · rcases findPr_cons h with ⟨rfl, rfl⟩ | h
    · exact joinOk
    · simp [findPr] at h
end Go.Proofs.YtaipbfbmdlkcpaaGreatDoor.consoleNone
