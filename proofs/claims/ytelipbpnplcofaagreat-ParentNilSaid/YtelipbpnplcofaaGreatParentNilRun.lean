/-
  PROVED HERE: the call of ParentNil returns true, and of what was there nothing is turned.
  Conditions: none.
-/
import Derived.KernelRfl
import Derived.Test.YtelipbpnplcofaaGreatParentNilRun10
namespace Go.Proofs.YtelipbpnplcofaaGreat.parentNil
open Go.Lev
set_option maxRecDepth 1000000 in
theorem ends : runF ctx 30000 2 s10 = true := by kernel_rfl
theorem good10 : Good Tryz.prog ctx s10 := .of_run tables _ _ ends
theorem good9 : Good Tryz.prog ctx s9 := .of_part tables part10 good10
theorem good8 : Good Tryz.prog ctx s8 := .of_part tables part9 good9
theorem good7 : Good Tryz.prog ctx s7 := .of_part tables part8 good8
theorem good6 : Good Tryz.prog ctx s6 := .of_part tables part7 good7
theorem good5 : Good Tryz.prog ctx s5 := .of_part tables part6 good6
theorem good4 : Good Tryz.prog ctx s4 := .of_part tables part5 good5
theorem good3 : Good Tryz.prog ctx s3 := .of_part tables part4 good4
theorem good2 : Good Tryz.prog ctx s2 := .of_part tables part3 good3
theorem good1 : Good Tryz.prog ctx s1 := .of_part tables part2 good2
theorem walk (w : World) :
    Calls Tryz.prog 3 #[] w fun e w' => e = .returned (.bool true) ∧ w.keptBut w' (fun _ => False) :=
  calls_of_parts tables starts part1 good1 w
end Go.Proofs.YtelipbpnplcofaaGreat.parentNil
