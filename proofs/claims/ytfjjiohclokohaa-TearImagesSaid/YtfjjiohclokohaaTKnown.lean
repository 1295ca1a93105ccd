/-
  PROVED HERE: the law's known answers come true. Conditions: none.
-/
import Derived.Test.YtfjjiohclokohaaCrash
import Derived.Test.YtfjjiohclokohaaLevD
import Derived.KernelRfl
namespace Go.Proofs.Ytfjjiohclokohaa.pm
open Go.RowKit

set_option maxRecDepth 1000000 in
theorem cloneFirst : (Try.f51.name == "runtime.NumGoroutine") = false := by kernel_rfl
set_option maxRecDepth 1000000 in
theorem cloneNext : Extern.findNext Try.f51 = none := by kernel_rfl
set_option maxRecDepth 1000000 in
theorem cloneFind : Extern.find Try.f51 = some Extern.MapsClone.clone := by kernel_rfl
/-- the evaluator's tables say what the program's say -/
theorem tables : Go.Lev.CtxOk Try.prog (Go.Lev.ctxOf Try.prog) :=
  Go.Lev.ctxOk_clone (n := 51) (by kernel_rfl) (by kernel_rfl) (by kernel_rfl) Try.func51 cloneFirst cloneNext cloneFind
set_option maxRecDepth 1000000 in
/-- the run of the evaluator, by the kernel -/
theorem knownRuns : Go.Lev.runB (Go.Lev.ctxOf Try.prog) 6 30000 4 = true := by kernel_rfl
theorem tearKnown_any (w : World) : Calls Try.prog 6 #[] w fun e w' => e = .returned (.bool true) ∧ w.keptBut w' (fun _ => False) :=
  Go.Lev.calls_of_run tables knownRuns w
end Go.Proofs.Ytfjjiohclokohaa.pm
