/-
  PROVED HERE: parts of the run of the evaluator from the call of ConsoleNone, by the kernel.
  Conditions: none.
-/
import Derived.KernelRfl
import Derived.Test.YtaipbfbmdlkcpaaGreatDoorConsoleNoneAt3
namespace Go.Proofs.YtaipbfbmdlkcpaaGreatDoor.consoleNone
open Go.Lev
set_option maxHeartbeats 8000000 in
set_option maxRecDepth 1000000 in
theorem part49 : cutR [0, 3, 9, 11, 14, 15, 21, 22, 120, 121, 638, 640, 641, 1278, 1279, 1292, 1293, 1294, 1309, 1310, 1338, 1339, 16862, 16863, 16864, 16962, 16963, 17736, 17738, 17739, 18644, 18645, 18646, 18647, 18648, 18649, 18654, 18656, 19428, 19429, 19430, 22494, 22495, 22496, 22497, 22498, 22499, 22500, 22501, 23653, 23654, 23655, 23656, 23657, 23658, 23659, 23660, 23661, 23685] (iterN (stepF ctx) 9600 s48) = .inl s49 := by kernel_rfl
set_option maxHeartbeats 8000000 in
set_option maxRecDepth 1000000 in
theorem part50 : cutR [0, 3, 9, 11, 14, 15, 21, 22, 120, 121, 638, 640, 641, 1278, 1279, 1292, 1293, 1294, 1309, 1310, 1338, 1339, 16862, 16863, 16864, 16962, 16963, 17736, 17738, 17739, 18644, 18645, 18646, 18647, 18648, 18649, 18654, 18656, 19428, 19429, 19430, 22494, 22495, 22496, 22497, 22498, 22499, 22500, 22501, 23653, 23654, 23655, 23656, 23657, 23658, 23659, 23660, 23661, 23985] (iterN (stepF ctx) 9900 s49) = .inl s50 := by kernel_rfl
set_option maxHeartbeats 8000000 in
set_option maxRecDepth 1000000 in
theorem part51 : cutR [0, 3, 9, 11, 14, 15, 21, 22, 120, 121, 638, 640, 641, 1278, 1279, 1292, 1293, 1294, 1309, 1310, 1338, 1339, 16862, 16863, 16864, 16962, 16963, 17736, 17738, 17739, 18644, 18645, 18646, 18647, 18648, 18649, 18654, 18656, 19428, 19429, 19430, 22494, 22495, 22496, 22497, 22498, 22499, 22500, 22501, 23653, 23654, 23655, 23656, 23657, 23658, 23659, 23660, 23661, 24285] (iterN (stepF ctx) 9900 s50) = .inl s51 := by kernel_rfl
end Go.Proofs.YtaipbfbmdlkcpaaGreatDoor.consoleNone
