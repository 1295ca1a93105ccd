/-
  PROVED HERE: parts of the run of the evaluator from the call of EngineNil, by the kernel.
  Conditions: none.
-/
import Derived.KernelRfl
import Derived.Test.YtakcddbpblookaaGreatEngineNilAt4
namespace Go.Proofs.YtakcddbpblookaaGreat.engineNil
open Go.Lev
set_option maxRecDepth 1000000 in
theorem part33 : cutR [0, 3, 6, 7, 33, 59, 60, 61, 82, 84, 85, 93, 99, 100, 191, 192, 965, 967, 968, 1873, 8936, 8937, 8938, 8940, 8941, 8942, 8943, 8989, 9013, 9014, 9015, 9016, 9017, 9019, 9020, 9021, 9026, 9030, 9802, 9803, 9804, 9805, 9806, 12870, 12871, 12872, 12873, 12874, 12875, 12876, 12877, 14029, 14030, 14031, 14032, 14033, 14034, 14035, 14036, 14037, 14631] (iterN (stepF ctx) 9900 s32) = .inl s33 := by kernel_rfl
set_option maxRecDepth 1000000 in
theorem part34 : cutR [0, 3, 6, 7, 33, 59, 60, 61, 82, 84, 85, 93, 99, 100, 191, 192, 965, 967, 968, 1873, 8936, 8937, 8938, 8940, 8941, 8942, 8943, 8989, 9013, 9014, 9015, 9016, 9017, 9019, 9020, 9021, 9026, 9030, 9802, 9803, 9804, 9805, 9806, 12870, 12871, 12872, 12873, 12874, 12875, 12876, 12877, 14029, 14030, 14031, 14032, 14805, 14806, 14807, 14808, 14871, 14886, 14898, 14899, 14905] (iterN (stepF ctx) 9550 s33) = .inl s34 := by kernel_rfl
end Go.Proofs.YtakcddbpblookaaGreat.engineNil
