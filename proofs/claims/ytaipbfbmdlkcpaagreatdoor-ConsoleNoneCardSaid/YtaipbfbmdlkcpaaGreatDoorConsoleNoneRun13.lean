/-
  PROVED HERE: parts of the run of the evaluator from the call of ConsoleNone, by the kernel.
  Conditions: none.
-/
import Derived.KernelRfl
import Derived.Test.YtaipbfbmdlkcpaaGreatDoorConsoleNoneAt3
namespace Go.Proofs.YtaipbfbmdlkcpaaGreatDoor.consoleNone
open Go.Lev
set_option maxHeartbeats 8000000 in
set_option maxRecDepth 1000000 in
theorem part37 : cutR [0, 3, 9, 11, 14, 15, 21, 22, 120, 121, 638, 640, 641, 1278, 1279, 1292, 1293, 1294, 1309, 1310, 1338, 1339, 16862, 16863, 16864, 16865, 16866, 16867, 16868, 16871, 16962, 16963, 16964, 16965, 16966, 16967, 16968, 17488] (iterN (stepF ctx) 9100 s36) = .inl s37 := by kernel_rfl
set_option maxHeartbeats 8000000 in
set_option maxRecDepth 1000000 in
theorem part38 : cutR [0, 3, 9, 11, 14, 15, 21, 22, 120, 121, 638, 640, 641, 1278, 1279, 1292, 1293, 1294, 1309, 1310, 1338, 1339, 16862, 16863, 16864, 16865, 16866, 16867, 16868, 16871, 16962, 16963, 17736, 17738, 17739, 17740, 17741, 17742, 17743, 17744, 17745, 17746, 17747, 17785] (iterN (stepF ctx) 10000 s37) = .inl s38 := by kernel_rfl
set_option maxHeartbeats 8000000 in
set_option maxRecDepth 1000000 in
theorem part39 : cutR [0, 3, 9, 11, 14, 15, 21, 22, 120, 121, 638, 640, 641, 1278, 1279, 1292, 1293, 1294, 1309, 1310, 1338, 1339, 16862, 16863, 16864, 16865, 16866, 16867, 16868, 16871, 16962, 16963, 17736, 17738, 17739, 17740, 17741, 17742, 17743, 17744, 17745, 17746, 17747, 18085] (iterN (stepF ctx) 9900 s38) = .inl s39 := by kernel_rfl
end Go.Proofs.YtaipbfbmdlkcpaaGreatDoor.consoleNone
