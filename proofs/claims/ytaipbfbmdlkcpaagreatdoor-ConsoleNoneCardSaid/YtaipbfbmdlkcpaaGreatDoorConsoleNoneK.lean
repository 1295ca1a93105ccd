/-
  PROVED HERE: ConsoleNone, the card: the law returns true for every input. Conditions: none but the row's own (the library's variables read as their text lays them: tied by the card).
-/
import Derived.Test.YtaipbfbmdlkcpaaGreatDoorConsoleNoneC
import Derived.Test.YtaipbfbmdlkcpaaGreatDoorConsoleNoneK1
import Derived.Test.YtaipbfbmdlkcpaaGreatDoorConsoleNoneK3
import Derived.Test.YtaipbfbmdlkcpaaGreatDoorConsoleNoneT
namespace Go.Proofs.YtaipbfbmdlkcpaaGreatDoor.consoleNone
open Go.ChangeShapes Go.WideShapes Go.ChangeAt Go.RowKit
set_option linter.unusedVariables false

set_option maxRecDepth 1000000 in
/-- ████ THE CARD ████ -/
theorem card : Rows.ConsoleNoneCardSaid :=
  Claim7.holds_tied_plain_at .later [] _ _ _ _ said (fun _ h => by cases h) wfIs (fun _ h => by cases h) row_tie rfl ⟨rfl, rfl⟩ mainIs rfl plain goesIs
end Go.Proofs.YtaipbfbmdlkcpaaGreatDoor.consoleNone
