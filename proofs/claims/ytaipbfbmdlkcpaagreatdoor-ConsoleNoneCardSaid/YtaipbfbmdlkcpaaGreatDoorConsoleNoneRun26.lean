/-
  PROVED HERE: parts of the run of the evaluator from the call of ConsoleNone, by the kernel.
  Conditions: none.
-/
import Derived.KernelRfl
import Derived.Test.YtaipbfbmdlkcpaaGreatDoorConsoleNoneAt3
namespace Go.Proofs.YtaipbfbmdlkcpaaGreatDoor.consoleNone
open Go.Lev
set_option maxHeartbeats 8000000 in
set_option maxRecDepth 1000000 in
theorem part76 : cutR [0, 3, 9, 11, 14, 15, 21, 22, 120, 121, 638, 640, 641, 1278, 1279, 1292, 1293, 1294, 1309, 1310, 1338, 1339, 16862, 16863, 16864, 16962, 16963, 17736, 17738, 17739, 18644, 18645, 25709, 25710, 25711, 25713, 25714, 25715, 25716, 25762, 25786, 25787, 25788, 25789, 25790, 25806, 25810, 26582, 26583, 26584, 29656, 31684, 31729, 31771, 31780, 31781, 31782, 31783, 31784, 31796, 31797, 31924, 33382, 33383, 35644] (iterN (stepF ctx) 9550 s75) = .inl s76 := by kernel_rfl
set_option maxHeartbeats 8000000 in
set_option maxRecDepth 1000000 in
theorem part77 : cutR [0, 3, 9, 11, 14, 15, 21, 22, 120, 121, 638, 640, 641, 1278, 1279, 1292, 1293, 1294, 1309, 1310, 1338, 1339, 16862, 16863, 16864, 16962, 16963, 17736, 17738, 17739, 18644, 18645, 25709, 25710, 25711, 25713, 25714, 25715, 25716, 25762, 25786, 25787, 25788, 25789, 25790, 25806, 25810, 26582, 26583, 26584, 29656, 31684, 31729, 31771, 31780, 31924, 36365, 36366, 36367] (iterN (stepF ctx) 10850 s76) = .inl s77 := by kernel_rfl
set_option maxHeartbeats 8000000 in
set_option maxRecDepth 1000000 in
theorem part78 : cutR [0, 3, 9, 11, 14, 15, 21, 22, 120, 121, 638, 640, 641, 1278, 1279, 1292, 1293, 1294, 1309, 1310, 1338, 1339, 16862, 16863, 16864, 16962, 16963, 17736, 17738, 17739, 18644, 18645, 25709, 25710, 25711, 25713, 25714, 25715, 25716, 25762, 25786, 25787, 25788, 25789, 25790, 25806, 25810, 26582, 26583, 26584, 29656, 31684, 31729, 31771, 31780, 31924, 36365, 36366, 36367, 36368, 36369, 36370, 37690] (iterN (stepF ctx) 9300 s77) = .inl s78 := by kernel_rfl
end Go.Proofs.YtaipbfbmdlkcpaaGreatDoor.consoleNone
