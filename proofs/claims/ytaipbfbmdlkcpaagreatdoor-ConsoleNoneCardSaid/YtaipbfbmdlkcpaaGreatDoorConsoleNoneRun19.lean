/-
  PROVED HERE: parts of the run of the evaluator from the call of ConsoleNone, by the kernel.
  Conditions: none.
-/
import Derived.KernelRfl
import Derived.Test.YtaipbfbmdlkcpaaGreatDoorConsoleNoneAt3
namespace Go.Proofs.YtaipbfbmdlkcpaaGreatDoor.consoleNone
open Go.Lev
set_option maxHeartbeats 8000000 in
set_option maxRecDepth 1000000 in
theorem part55 : cutR [0, 3, 9, 11, 14, 15, 21, 22, 120, 121, 638, 640, 641, 1278, 1279, 1292, 1293, 1294, 1309, 1310, 1338, 1339, 16862, 16863, 16864, 16962, 16963, 17736, 17738, 17739, 18644, 18645, 18646, 18647, 18648, 18649, 18654, 18656, 19428, 19429, 19430, 22494, 22495, 22496, 22497, 22498, 22499, 22501, 24529, 25620, 25621] (iterN (stepF ctx) 9300 s54) = .inl s55 := by kernel_rfl
set_option maxHeartbeats 8000000 in
set_option maxRecDepth 1000000 in
theorem part56 : cutR [0, 3, 9, 11, 14, 15, 21, 22, 120, 121, 638, 640, 641, 1278, 1279, 1292, 1293, 1294, 1309, 1310, 1338, 1339, 16862, 16863, 16864, 16962, 16963, 17736, 17738, 17739, 18644, 18645, 18646, 18647, 18648, 18649, 18654, 18656, 19428, 19429, 22501, 24529, 25709, 25710, 25711, 25713, 25714, 25715, 25716, 25762, 25786, 25787, 25788, 25789, 25790, 25801, 25802, 25803, 25804, 25805, 25806, 25807, 25810, 25811] (iterN (stepF ctx) 9000 s55) = .inl s56 := by kernel_rfl
set_option maxHeartbeats 8000000 in
set_option maxRecDepth 1000000 in
theorem part57 : cutR [0, 3, 9, 11, 14, 15, 21, 22, 120, 121, 638, 640, 641, 1278, 1279, 1292, 1293, 1294, 1309, 1310, 1338, 1339, 16862, 16863, 16864, 16962, 16963, 17736, 17738, 17739, 18644, 18645, 18646, 18647, 18648, 18649, 25709, 25710, 25711, 25713, 25714, 25715, 25716, 25762, 25786, 25787, 25788, 25789, 25790, 25801, 25806, 25810, 26582, 26583, 26584, 26585, 26792, 26793] (iterN (stepF ctx) 9450 s56) = .inl s57 := by kernel_rfl
end Go.Proofs.YtaipbfbmdlkcpaaGreatDoor.consoleNone
