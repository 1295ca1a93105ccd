/-
  PROVED HERE: parts of the run of the evaluator from the call of EngineNil, by the kernel.
  Conditions: none.
-/
import Derived.KernelRfl
import Derived.Test.YtakcddbpblookaaGreatEngineNilAt4
namespace Go.Proofs.YtakcddbpblookaaGreat.engineNil
open Go.Lev
set_option maxRecDepth 1000000 in
theorem part19 : cutR [0, 3, 6, 7, 33, 59, 60, 61, 82, 84, 85, 93, 99, 100, 191, 192, 965, 967, 968, 1873, 1874, 1875, 1880, 1882, 2654, 2655, 2656, 2657, 5721, 5722, 5723, 5724, 5725, 5726, 5728, 7756, 7956, 7957] (iterN (stepF ctx) 9100 s18) = .inl s19 := by kernel_rfl
set_option maxRecDepth 1000000 in
theorem part20 : cutR [0, 3, 6, 7, 33, 59, 60, 61, 82, 84, 85, 93, 99, 100, 191, 192, 965, 967, 968, 1873, 1874, 1875, 1880, 1882, 2654, 2655, 2656, 2657, 5721, 5722, 5723, 5724, 5725, 5726, 5728, 7756, 8337, 8338, 8339] (iterN (stepF ctx) 9000 s19) = .inl s20 := by kernel_rfl
end Go.Proofs.YtakcddbpblookaaGreat.engineNil
