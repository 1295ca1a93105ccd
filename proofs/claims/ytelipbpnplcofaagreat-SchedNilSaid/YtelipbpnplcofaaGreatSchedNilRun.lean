/-
  PROVED HERE: the call of SchedNil returns true, and of what was there nothing is turned.
  Conditions: none.
-/
import Derived.KernelRfl
import Derived.Test.YtelipbpnplcofaaGreatSchedNilRun1
namespace Go.Proofs.YtelipbpnplcofaaGreat.schedNil
open Go.Lev
set_option maxRecDepth 1000000 in
theorem ends : runF ctx 30000 2 s1 = true := by kernel_rfl
theorem good1 : Good Tryz.prog ctx s1 := .of_run tables _ _ ends
theorem walk (w : World) :
    Calls Tryz.prog 7 #[] w fun e w' => e = .returned (.bool true) ∧ w.keptBut w' (fun _ => False) :=
  calls_of_parts tables starts part1 good1 w
end Go.Proofs.YtelipbpnplcofaaGreat.schedNil
