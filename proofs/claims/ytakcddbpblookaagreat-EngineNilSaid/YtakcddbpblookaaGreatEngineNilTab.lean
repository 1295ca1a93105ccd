/-
  PROVED HERE: the tables of the evaluator say what the program says.
  Conditions: none.
-/
import Derived.Test.YtakcddbpblookaaGreatProg
import Derived.KernelRfl
import Derived.Test.YtakcddbpblookaaGreatLevD
namespace Go.Proofs.YtakcddbpblookaaGreat.engineNil
open Go.Lev
/-- the evaluator's tables -/
noncomputable def ctx : Ctx := ctxOf Tryz.prog
set_option maxRecDepth 1000000 in
theorem cloneFirst : (Tryz.f371.name == "runtime.NumGoroutine") = false := by kernel_rfl
set_option maxRecDepth 1000000 in
theorem cloneNext : Extern.findNext Tryz.f371 = none := by kernel_rfl
set_option maxRecDepth 1000000 in
theorem cloneFind : Extern.find Tryz.f371 = some Extern.MapsClone.clone := by kernel_rfl
/-- the evaluator's tables say what the program's say -/
theorem tables : CtxOk Tryz.prog ctx :=
  ctxOk_clone (n := 371) (by kernel_rfl) (by kernel_rfl) (by kernel_rfl) Tryz.func371 cloneFirst cloneNext cloneFind
end Go.Proofs.YtakcddbpblookaaGreat.engineNil
