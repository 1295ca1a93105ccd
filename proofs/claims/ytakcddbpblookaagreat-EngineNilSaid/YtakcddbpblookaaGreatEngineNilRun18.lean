/-
  PROVED HERE: parts of the run of the evaluator from the call of EngineNil, by the kernel.
  Conditions: none.
-/
import Derived.KernelRfl
import Derived.Test.YtakcddbpblookaaGreatEngineNilAt4
namespace Go.Proofs.YtakcddbpblookaaGreat.engineNil
open Go.Lev
set_option maxRecDepth 1000000 in
theorem part35 : cutR [0, 3, 6, 7, 33, 59, 60, 61, 82, 84, 85, 93, 99, 100, 191, 192, 965, 967, 968, 1873, 8936, 8937, 8938, 8940, 8941, 8942, 8943, 8989, 9013, 9014, 9015, 9016, 9017, 9019, 9020, 9021, 9026, 9030, 9802, 9803, 9804, 9805, 12877, 14905, 14940, 14955, 14960, 14961, 15264, 15290, 15291, 15294, 15295, 15301] (iterN (stepF ctx) 11050 s34) = .inl s35 := by kernel_rfl
end Go.Proofs.YtakcddbpblookaaGreat.engineNil
