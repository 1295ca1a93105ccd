/-
  PROVED HERE: parts of the run of the evaluator from the call of EngineNil, by the kernel.
  Conditions: none.
-/
import Derived.KernelRfl
import Derived.Test.YtakcddbpblookaaGreatEngineNilAt4
namespace Go.Proofs.YtakcddbpblookaaGreat.engineNil
open Go.Lev
set_option maxRecDepth 1000000 in
theorem part21 : cutR [0, 3, 6, 7, 33, 59, 60, 61, 82, 84, 85, 93, 99, 100, 191, 192, 965, 967, 968, 1873, 1874, 1875, 1880, 1882, 2654, 2655, 2656, 2657, 5721, 5722, 5723, 5724, 5725, 5726, 5728, 7756, 8730, 8731] (iterN (stepF ctx) 9250 s20) = .inl s21 := by kernel_rfl
set_option maxRecDepth 1000000 in
theorem part22 : cutR [0, 3, 6, 7, 33, 59, 60, 61, 82, 84, 85, 93, 99, 100, 191, 192, 965, 967, 968, 1873, 1880, 1882, 2654, 2655, 5728, 7756, 8936, 8937, 8938, 8940, 8941, 8942, 8943, 8989, 9013, 9014, 9015, 9016, 9017, 9019, 9020] (iterN (stepF ctx) 11550 s21) = .inl s22 := by kernel_rfl
end Go.Proofs.YtakcddbpblookaaGreat.engineNil
