/-
  PROVED HERE: parts of the run of the evaluator from the call of EngineNil, by the kernel.
  Conditions: none.
-/
import Derived.KernelRfl
import Derived.Test.YtakcddbpblookaaGreatEngineNilAt4
namespace Go.Proofs.YtakcddbpblookaaGreat.engineNil
open Go.Lev
set_option maxRecDepth 1000000 in
theorem part9 : cutR [0, 3, 6, 7, 33, 59, 60, 61, 82, 84, 85, 93, 99, 100, 191, 192, 965, 967, 968, 1873, 1874, 1875, 1880, 1882, 2654, 2655, 2656, 2657, 3608, 3609] (iterN (stepF ctx) 9400 s8) = .inl s9 := by kernel_rfl
set_option maxRecDepth 1000000 in
theorem part10 : cutR [0, 3, 6, 7, 33, 59, 60, 61, 82, 84, 85, 93, 99, 100, 191, 192, 965, 967, 968, 1873, 1874, 1875, 1880, 1882, 2654, 2655, 2656, 2657, 4240, 4241] (iterN (stepF ctx) 9400 s9) = .inl s10 := by kernel_rfl
end Go.Proofs.YtakcddbpblookaaGreat.engineNil
