/-
  PROVED HERE: a fact of the row that the card of ScriptWrong asks. Conditions: none.
-/
import Derived.Test.YtnnahodajiolmaaGreatDoorCards
import Derived.Lay
namespace Go.Proofs.YtnnahodajiolmaaGreatDoor.sc.cWrong
set_option maxRecDepth 1000000 in
theorem wfIs : Rows.scriptWrongRow.wfByText (OpenSpec.ofChange Rows.scriptWrongSpec) = true := by kernel_rfl
end Go.Proofs.YtnnahodajiolmaaGreatDoor.sc.cWrong
