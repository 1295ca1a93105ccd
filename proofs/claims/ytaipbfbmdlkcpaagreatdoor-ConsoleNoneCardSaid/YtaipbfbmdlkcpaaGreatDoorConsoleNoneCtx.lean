/-
  DEFINED HERE: the tables of the evaluator.
  Conditions: none.
-/
import Derived.Test.YtaipbfbmdlkcpaaGreatDoorProg
import Derived.KernelRfl
import Derived.Test.YtaipbfbmdlkcpaaGreatDoorLevE
namespace Go.Proofs.YtaipbfbmdlkcpaaGreatDoor.consoleNone
open Go.Lev
/-- the evaluator's tables -/
noncomputable def ctx : Ctx := ctxOf Tryz.prog [(578, 1), (89, 2), (171, 3)] [(43, 1)]
end Go.Proofs.YtaipbfbmdlkcpaaGreatDoor.consoleNone
