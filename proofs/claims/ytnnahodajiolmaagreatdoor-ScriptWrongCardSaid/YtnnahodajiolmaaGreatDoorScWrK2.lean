/-
  PROVED HERE: a fact of the row that the card of ScriptWrong asks. Conditions: none.
-/
import Derived.Test.YtnnahodajiolmaaGreatDoorCards
import Derived.Lay
namespace Go.Proofs.YtnnahodajiolmaaGreatDoor.sc.cWrong
set_option maxRecDepth 1000000 in
theorem mainIs : Tryz.pinned.checked.prog.mainIs = some (true, Rows.scriptWrongCard.stood.harness.2.toList) := by kernel_rfl
end Go.Proofs.YtnnahodajiolmaaGreatDoor.sc.cWrong
