/-
  PROVED HERE: parts of the run of the evaluator from the call of ConsoleNone, by the kernel.
  Conditions: none.
-/
import Derived.KernelRfl
import Derived.Test.YtaipbfbmdlkcpaaGreatDoorConsoleNoneAt3
namespace Go.Proofs.YtaipbfbmdlkcpaaGreatDoor.consoleNone
open Go.Lev
set_option maxHeartbeats 8000000 in
set_option maxRecDepth 1000000 in
theorem part61 : cutR [0, 3, 9, 11, 14, 15, 21, 22, 120, 121, 638, 640, 641, 1278, 1279, 1292, 1293, 1294, 1309, 1310, 1338, 1339, 16862, 16863, 16864, 16962, 16963, 17736, 17738, 17739, 18644, 18645, 18646, 18647, 18648, 18649, 25709, 25710, 25711, 25713, 25714, 25715, 25716, 25762, 25786, 25787, 25788, 25789, 25790, 25801, 25806, 25810, 26582, 26583, 26584, 26585, 28872, 28873] (iterN (stepF ctx) 9100 s60) = .inl s61 := by kernel_rfl
set_option maxHeartbeats 8000000 in
set_option maxRecDepth 1000000 in
theorem part62 : cutR [0, 3, 9, 11, 14, 15, 21, 22, 120, 121, 638, 640, 641, 1278, 1279, 1292, 1293, 1294, 1309, 1310, 1338, 1339, 16862, 16863, 16864, 16962, 16963, 17736, 17738, 17739, 18644, 18645, 18646, 18647, 18648, 18649, 25709, 25710, 25711, 25713, 25714, 25715, 25716, 25762, 25786, 25787, 25788, 25789, 25790, 25801, 25806, 25810, 26582, 26583, 26584, 26585, 29392, 29393] (iterN (stepF ctx) 9100 s61) = .inl s62 := by kernel_rfl
set_option maxHeartbeats 8000000 in
set_option maxRecDepth 1000000 in
theorem part63 : cutR [0, 3, 9, 11, 14, 15, 21, 22, 120, 121, 638, 640, 641, 1278, 1279, 1292, 1293, 1294, 1309, 1310, 1338, 1339, 16862, 16863, 16864, 16962, 16963, 17736, 17738, 17739, 18644, 18645, 18646, 18647, 18648, 18649, 25709, 25710, 25711, 25713, 25714, 25715, 25716, 25762, 25786, 25787, 25788, 25789, 25790, 25801, 25806, 25810, 26582, 26583, 26584, 26585, 29649, 29650, 29651, 29652, 29653, 29654, 29655, 29656, 29850, 29851] (iterN (stepF ctx) 9200 s62) = .inl s63 := by kernel_rfl
end Go.Proofs.YtaipbfbmdlkcpaaGreatDoor.consoleNone
