/-
  PROVED HERE: ScriptWrong, the card: the law returns true for every input. Conditions: none but the row's own (the library's variables read as their text lays them: tied by the card).
-/
import Derived.Test.YtnnahodajiolmaaGreatDoorScWrongC
import Derived.Test.YtnnahodajiolmaaGreatDoorScWrK1
import Derived.Test.YtnnahodajiolmaaGreatDoorScWrK2
import Derived.Test.YtnnahodajiolmaaGreatDoorScWrK3
namespace Go.Proofs.YtnnahodajiolmaaGreatDoor.sc.cWrong
open Go.ChangeShapes Go.WideShapes Go.ChangeAt Go.RowKit
set_option linter.unusedVariables false

set_option maxRecDepth 1000000 in
/-- ████ THE CARD ████ -/
theorem card : Rows.ScriptWrongCardSaid :=
  Claim7.holds_tied_plain_at .later [] _ _ _ _ said (fun _ h => by cases h) wfIs (fun _ h => by cases h) scriptWrong_row_tie rfl ⟨rfl, rfl⟩ mainIs rfl plain goesIs
end Go.Proofs.YtnnahodajiolmaaGreatDoor.sc.cWrong
