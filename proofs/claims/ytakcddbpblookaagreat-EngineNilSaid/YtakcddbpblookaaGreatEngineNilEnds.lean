/-
  PROVED HERE: the last part of the run of the evaluator from the call of EngineNil, by the kernel.
  Conditions: none.
-/
import Derived.KernelRfl
import Derived.Test.YtakcddbpblookaaGreatEngineNilAt4
namespace Go.Proofs.YtakcddbpblookaaGreat.engineNil
open Go.Lev
set_option maxRecDepth 1000000 in
theorem ends : runF ctx 30000 2 s35 = true := by kernel_rfl
end Go.Proofs.YtakcddbpblookaaGreat.engineNil
