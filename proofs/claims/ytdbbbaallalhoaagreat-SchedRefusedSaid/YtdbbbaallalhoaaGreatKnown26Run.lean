/-
  PROVED HERE: the call of Known26 returns true, and of what was there nothing is turned.
  Conditions: none.
-/
import Derived.KernelRfl
import Derived.Test.YtdbbbaallalhoaaGreatKnown26Run4
namespace Go.Proofs.YtdbbbaallalhoaaGreat.known26
open Go.Lev
set_option maxRecDepth 1000000 in
theorem ends : runF ctx 30000 2 s4 = true := by kernel_rfl
theorem good4 : Good Tryz.prog ctx s4 := .of_run tables _ _ ends
theorem good3 : Good Tryz.prog ctx s3 := .of_part tables part4 good4
theorem good2 : Good Tryz.prog ctx s2 := .of_part tables part3 good3
theorem good1 : Good Tryz.prog ctx s1 := .of_part tables part2 good2
theorem walk (w : World) :
    Calls Tryz.prog 5 #[] w fun e w' => e = .returned (.bool true) ∧ (w.keptBut w' (fun _ => False) ∧ w'.tape = w.tape) :=
  calls_of_parts tables starts part1 good1 w
end Go.Proofs.YtdbbbaallalhoaaGreat.known26
