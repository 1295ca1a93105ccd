/-
  PROVED HERE: parts of the run of the evaluator from the call of EngineNil, by the kernel.
  Conditions: none.
-/
import Derived.KernelRfl
import Derived.Test.YtakcddbpblookaaGreatEngineNilAt4
namespace Go.Proofs.YtakcddbpblookaaGreat.engineNil
open Go.Lev
set_option maxRecDepth 1000000 in
theorem part7 : cutR [0, 3, 6, 7, 33, 59, 60, 61, 82, 84, 85, 93, 99, 100, 191, 192, 965, 967, 968, 1873, 1874, 1875, 1876, 1877, 1878, 1879, 1880, 1881, 1882, 1883, 1884, 1885, 1886, 2056] (iterN (stepF ctx) 9050 s6) = .inl s7 := by kernel_rfl
set_option maxRecDepth 1000000 in
theorem part8 : cutR [0, 3, 6, 7, 33, 59, 60, 61, 82, 84, 85, 93, 99, 100, 191, 192, 965, 967, 968, 1873, 1874, 1875, 1880, 1882, 2654, 2655, 2656, 2657, 2976, 2977] (iterN (stepF ctx) 9300 s7) = .inl s8 := by kernel_rfl
end Go.Proofs.YtakcddbpblookaaGreat.engineNil
