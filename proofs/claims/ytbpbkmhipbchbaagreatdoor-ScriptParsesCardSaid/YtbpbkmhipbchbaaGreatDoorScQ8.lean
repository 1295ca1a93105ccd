/-
  PROVED HERE: the contract of the reference's OfLine, at any line. Conditions: at most 100000 bytes.
-/
import Derived.Test.YtbpbkmhipbchbaaGreatDoorScQ7A
import Derived.Test.YtbpbkmhipbchbaaGreatDoorScQ7B
namespace Go.Proofs.YtbpbkmhipbchbaaGreatDoor.sc
open Go.RowKit

theorem rOfLine_any {w : World} (l : Bs) (hl : l.length ≤ 100000) : Calls Tryz.prog 10 #[.string (mk l)] w (ROfPost w l) := by
  by_cases g1 : wd l 0 = sInvoke
  · by_cases q1 : wd l 2 = sPut
    · exact rof_put l hl g1 q1
    by_cases q2 : wd l 2 = sGet
    · exact rof_get l hl g1 q2
    by_cases q3 : wd l 2 = sDelete
    · exact rof_delete l hl g1 q3
    by_cases q4 : wd l 2 = sScan
    · exact rof_scan l hl g1 q4
    exact rof_op l hl g1 q1 q2 q3 q4
  by_cases g2 : wd l 0 = sPick
  · exact rof_pick l hl g2
  by_cases g3 : wd l 0 = sEvict
  · exact rof_evict l hl g3
  by_cases g4 : wd l 0 = sCrash
  · exact rof_crash l hl g4
  by_cases g5 : wd l 0 = sOpen
  · exact rof_open l hl g5
  by_cases g6 : wd l 0 = sScavenge
  · exact rof_scavenge l hl g6
  by_cases g7 : wd l 0 = sBoot
  · exact rof_boot l hl g7
  exact rof_other l hl g1 g2 g3 g4 g5 g6 g7

end Go.Proofs.YtbpbkmhipbchbaaGreatDoor.sc
