/-
  PROVED HERE: the last part of the run of the evaluator from the call of ConsoleNone, by the kernel.
  Conditions: none.
-/
import Derived.KernelRfl
import Derived.Test.YtaipbfbmdlkcpaaGreatDoorConsoleNoneAt3
namespace Go.Proofs.YtaipbfbmdlkcpaaGreatDoor.consoleNone
open Go.Lev
set_option maxHeartbeats 8000000 in
set_option maxRecDepth 1000000 in
theorem ends : runF ctx 30000 3 s89 = true := by kernel_rfl
end Go.Proofs.YtaipbfbmdlkcpaaGreatDoor.consoleNone
