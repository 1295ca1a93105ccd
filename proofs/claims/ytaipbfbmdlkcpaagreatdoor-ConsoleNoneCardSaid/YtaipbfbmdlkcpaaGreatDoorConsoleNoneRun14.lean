/-
  PROVED HERE: parts of the run of the evaluator from the call of ConsoleNone, by the kernel.
  Conditions: none.
-/
import Derived.KernelRfl
import Derived.Test.YtaipbfbmdlkcpaaGreatDoorConsoleNoneAt3
namespace Go.Proofs.YtaipbfbmdlkcpaaGreatDoor.consoleNone
open Go.Lev
set_option maxHeartbeats 8000000 in
set_option maxRecDepth 1000000 in
theorem part40 : cutR [0, 3, 9, 11, 14, 15, 21, 22, 120, 121, 638, 640, 641, 1278, 1279, 1292, 1293, 1294, 1309, 1310, 1338, 1339, 16862, 16863, 16864, 16865, 16866, 16867, 16868, 16871, 16962, 16963, 17736, 17738, 17739, 17740, 17741, 17742, 17743, 17744, 17745, 17746, 17747, 18385] (iterN (stepF ctx) 9900 s39) = .inl s40 := by kernel_rfl
set_option maxHeartbeats 8000000 in
set_option maxRecDepth 1000000 in
theorem part41 : cutR [0, 3, 9, 11, 14, 15, 21, 22, 120, 121, 638, 640, 641, 1278, 1279, 1292, 1293, 1294, 1309, 1310, 1338, 1339, 16862, 16863, 16864, 16865, 16866, 16867, 16868, 16871, 16962, 16963, 17736, 17738, 17739, 17740, 17741, 17742, 18515, 18516, 18517, 18518, 18581, 18596, 18608, 18609, 18615, 18623, 18624, 18625, 18626, 18627] (iterN (stepF ctx) 9500 s40) = .inl s41 := by kernel_rfl
set_option maxHeartbeats 8000000 in
set_option maxRecDepth 1000000 in
theorem part42 : cutR [0, 3, 9, 11, 14, 15, 21, 22, 120, 121, 638, 640, 641, 1278, 1279, 1292, 1293, 1294, 1309, 1310, 1338, 1339, 16862, 16863, 16864, 16962, 16963, 17736, 17738, 17739, 18644, 18645, 18646, 18647, 18648, 18649, 18654, 18656, 19428, 19429, 19430, 19493, 19494] (iterN (stepF ctx) 9450 s41) = .inl s42 := by kernel_rfl
end Go.Proofs.YtaipbfbmdlkcpaaGreatDoor.consoleNone
