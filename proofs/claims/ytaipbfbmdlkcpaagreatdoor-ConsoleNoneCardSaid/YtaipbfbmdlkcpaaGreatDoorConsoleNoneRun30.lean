/-
  PROVED HERE: parts of the run of the evaluator from the call of ConsoleNone, by the kernel.
  Conditions: none.
-/
import Derived.KernelRfl
import Derived.Test.YtaipbfbmdlkcpaaGreatDoorConsoleNoneAt3
namespace Go.Proofs.YtaipbfbmdlkcpaaGreatDoor.consoleNone
open Go.Lev
set_option maxHeartbeats 8000000 in
set_option maxRecDepth 1000000 in
theorem part88 : cutR [0, 3, 9, 11, 14, 15, 21, 22, 120, 121, 638, 640, 641, 1278, 1279, 1292, 1293, 1294, 1309, 1310, 1338, 1339, 16862, 16863, 16864, 16962, 16963, 17736, 17738, 17739, 18644, 18645, 25709, 25710, 25711, 25713, 25714, 25715, 25716, 25762, 25786, 25787, 25788, 25789, 25790, 25806, 25810, 26582, 26583, 26584, 29656, 31684, 31729, 31771, 31780, 31924, 36365, 40451, 40452, 40453, 40454, 40455, 40456, 40467, 40469, 40535, 43608, 43609, 43610, 43611, 43612, 43613, 43614, 43615, 44241] (iterN (stepF ctx) 9900 s87) = .inl s88 := by kernel_rfl
set_option maxHeartbeats 8000000 in
set_option maxRecDepth 1000000 in
theorem part89 : joinR ctx [0, 3, 9, 11, 14, 15, 21, 22, 120, 121, 638, 640, 641, 1278, 1279, 1292, 1293, 1294, 1309, 1310, 1338, 1339, 16862, 16863, 16864, 16962, 16963, 17736, 17738, 17739, 18644, 18645, 25709, 25710, 25711, 25713, 25714, 25715, 25716, 25762, 25786, 25787, 25788, 25789, 25790, 25806, 25810, 26582, 26583, 26584, 29656, 31684, 31729, 31771, 31780, 31924, 36365, 40451, 40452, 40453, 40454, 40455, 40456, 40467, 40469, 40535, 43608, 43609, 43610, 44383, 44384, 44385, 44386, 44449, 44469, 44507, 44508, 44509, 44517, 44525, 44527] [300, 310] (iterN (stepF ctx) 8963 s88) = List.replicate 2 (.inl s89) := by kernel_rfl
end Go.Proofs.YtaipbfbmdlkcpaaGreatDoor.consoleNone
