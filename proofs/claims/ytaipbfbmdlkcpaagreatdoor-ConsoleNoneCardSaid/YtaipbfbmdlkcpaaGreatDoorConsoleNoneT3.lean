/-
  PROVED HERE: a fact on how the program lays its variables, by the kernel. Conditions: none.
-/
import Derived.Test.YtaipbfbmdlkcpaaGreatDoorConsoleNoneT0
namespace Go.Proofs.YtaipbfbmdlkcpaaGreatDoor.consoleNone
open Go
set_option maxRecDepth 1000000 in
theorem tie2a : ∀ os tape, (DataW.laidRun Tryz.prog (varsWorld Tryz.prog 400 (varsId Tryz.prog) os tape).memory 8 (tieL.map (·.1))).map (fun x => laidRowsB Tryz.prog (varsWorld Tryz.prog 400 (varsId Tryz.prog) os tape).memory x.2) = some true := fun _ _ => by kernel_rfl
end Go.Proofs.YtaipbfbmdlkcpaaGreatDoor.consoleNone
