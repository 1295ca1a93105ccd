/-
  PROVED HERE: facts of the row that the card of ConsoleNone asks. Conditions: none.
-/
import Derived.Test.YtaipbfbmdlkcpaaGreatDoorCards
import Derived.Lay
namespace Go.Proofs.YtaipbfbmdlkcpaaGreatDoor.consoleNone
set_option maxRecDepth 1000000 in
theorem wfIs : Rows.consoleNoneRow.wfByText (OpenSpec.ofChange Rows.consoleNoneSpec) = true := by kernel_rfl
set_option maxRecDepth 1000000 in
theorem mainIs : Tryz.pinned.checked.prog.mainIs = some (true, Rows.consoleNoneCard.stood.harness.2.toList) := by kernel_rfl
end Go.Proofs.YtaipbfbmdlkcpaaGreatDoor.consoleNone
