/-
  PROVED HERE: parts of the run of the evaluator from the call of EngineNil, by the kernel.
  Conditions: none.
-/
import Derived.KernelRfl
import Derived.Test.YtakcddbpblookaaGreatEngineNilAt4
namespace Go.Proofs.YtakcddbpblookaaGreat.engineNil
open Go.Lev
set_option maxRecDepth 1000000 in
theorem part3 : cutR [0, 3, 6, 7, 33, 59, 60, 61, 82, 84, 85, 93, 99, 100, 191, 192, 193, 194, 195, 196, 197, 825] (iterN (stepF ctx) 9100 s2) = .inl s3 := by kernel_rfl
set_option maxRecDepth 1000000 in
theorem part4 : cutR [0, 3, 6, 7, 33, 59, 60, 61, 82, 84, 85, 93, 99, 100, 191, 192, 965, 967, 968, 969, 970, 971, 972, 973, 974, 975, 976, 1098] (iterN (stepF ctx) 9000 s3) = .inl s4 := by kernel_rfl
end Go.Proofs.YtakcddbpblookaaGreat.engineNil
