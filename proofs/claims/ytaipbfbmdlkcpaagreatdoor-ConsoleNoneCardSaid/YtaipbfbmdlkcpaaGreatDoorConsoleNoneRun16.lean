/-
  PROVED HERE: parts of the run of the evaluator from the call of ConsoleNone, by the kernel.
  Conditions: none.
-/
import Derived.KernelRfl
import Derived.Test.YtaipbfbmdlkcpaaGreatDoorConsoleNoneAt3
namespace Go.Proofs.YtaipbfbmdlkcpaaGreatDoor.consoleNone
open Go.Lev
set_option maxHeartbeats 8000000 in
set_option maxRecDepth 1000000 in
theorem part46 : cutR [0, 3, 9, 11, 14, 15, 21, 22, 120, 121, 638, 640, 641, 1278, 1279, 1292, 1293, 1294, 1309, 1310, 1338, 1339, 16862, 16863, 16864, 16962, 16963, 17736, 17738, 17739, 18644, 18645, 18646, 18647, 18648, 18649, 18654, 18656, 19428, 19429, 19430, 22494, 22495, 22496, 22497, 22498, 22499, 22500, 22501, 22515, 22516, 22517] (iterN (stepF ctx) 9000 s45) = .inl s46 := by kernel_rfl
set_option maxHeartbeats 8000000 in
set_option maxRecDepth 1000000 in
theorem part47 : cutR [0, 3, 9, 11, 14, 15, 21, 22, 120, 121, 638, 640, 641, 1278, 1279, 1292, 1293, 1294, 1309, 1310, 1338, 1339, 16862, 16863, 16864, 16962, 16963, 17736, 17738, 17739, 18644, 18645, 18646, 18647, 18648, 18649, 18654, 18656, 19428, 19429, 19430, 22494, 22495, 22496, 22497, 22498, 22499, 22500, 22501, 22899, 22900] (iterN (stepF ctx) 9150 s46) = .inl s47 := by kernel_rfl
set_option maxHeartbeats 8000000 in
set_option maxRecDepth 1000000 in
theorem part48 : cutR [0, 3, 9, 11, 14, 15, 21, 22, 120, 121, 638, 640, 641, 1278, 1279, 1292, 1293, 1294, 1309, 1310, 1338, 1339, 16862, 16863, 16864, 16962, 16963, 17736, 17738, 17739, 18644, 18645, 18646, 18647, 18648, 18649, 18654, 18656, 19428, 19429, 19430, 22494, 22495, 22496, 22497, 22498, 22499, 22500, 22501, 23280, 23281, 23282] (iterN (stepF ctx) 9000 s47) = .inl s48 := by kernel_rfl
end Go.Proofs.YtaipbfbmdlkcpaaGreatDoor.consoleNone
