/-
  PROVED HERE: parts of the run of the evaluator from the call of EngineNil, by the kernel.
  Conditions: none.
-/
import Derived.KernelRfl
import Derived.Test.YtakcddbpblookaaGreatEngineNilAt4
namespace Go.Proofs.YtakcddbpblookaaGreat.engineNil
open Go.Lev
set_option maxRecDepth 1000000 in
theorem starts : okF ctx 3 = true := by kernel_rfl
set_option maxRecDepth 1000000 in
theorem part1 : cutR [0, 3, 6, 7, 33, 59, 60, 61, 82, 84, 85, 93, 99, 100, 191, 192, 193, 194, 195, 196, 197, 305] (fromStart ctx 3 9150) = .inl s1 := by kernel_rfl
set_option maxRecDepth 1000000 in
theorem part2 : cutR [0, 3, 6, 7, 33, 59, 60, 61, 82, 84, 85, 93, 99, 100, 191, 192, 193, 194, 195, 196, 197, 565] (iterN (stepF ctx) 9100 s1) = .inl s2 := by kernel_rfl
end Go.Proofs.YtakcddbpblookaaGreat.engineNil
