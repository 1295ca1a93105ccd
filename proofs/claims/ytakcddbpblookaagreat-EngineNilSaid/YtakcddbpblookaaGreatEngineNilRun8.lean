/-
  PROVED HERE: parts of the run of the evaluator from the call of EngineNil, by the kernel.
  Conditions: none.
-/
import Derived.KernelRfl
import Derived.Test.YtakcddbpblookaaGreatEngineNilAt4
namespace Go.Proofs.YtakcddbpblookaaGreat.engineNil
open Go.Lev
set_option maxRecDepth 1000000 in
theorem part15 : cutR [0, 3, 6, 7, 33, 59, 60, 61, 82, 84, 85, 93, 99, 100, 191, 192, 965, 967, 968, 1873, 1874, 1875, 1880, 1882, 2654, 2655, 2656, 2657, 5721, 5722, 5723, 5724, 5725, 5726, 5727, 5728, 6783, 6784] (iterN (stepF ctx) 9300 s14) = .inl s15 := by kernel_rfl
set_option maxRecDepth 1000000 in
theorem part16 : cutR [0, 3, 6, 7, 33, 59, 60, 61, 82, 84, 85, 93, 99, 100, 191, 192, 965, 967, 968, 1873, 1874, 1875, 1880, 1882, 2654, 2655, 2656, 2657, 5721, 5722, 5723, 5724, 5725, 5726, 5727, 5728, 6880, 6881, 6882, 6883, 6884, 6885, 6886, 6887, 6888, 7116] (iterN (stepF ctx) 9850 s15) = .inl s16 := by kernel_rfl
end Go.Proofs.YtakcddbpblookaaGreat.engineNil
