/-
  PROVED HERE: parts of the run of the evaluator from the call of ConsoleNone, by the kernel.
  Conditions: none.
-/
import Derived.KernelRfl
import Derived.Test.YtaipbfbmdlkcpaaGreatDoorConsoleNoneAt3
namespace Go.Proofs.YtaipbfbmdlkcpaaGreatDoor.consoleNone
open Go.Lev
set_option maxHeartbeats 8000000 in
set_option maxRecDepth 1000000 in
theorem part34 : cutR [0, 3, 9, 11, 14, 15, 21, 22, 120, 121, 638, 640, 641, 1278, 1279, 1292, 1293, 1294, 1309, 1310, 1338, 1339, 1340, 1341, 1342, 1343, 1344, 1345, 1443, 1444, 1961, 1963, 1964, 7350, 7351, 7352, 7354, 7355, 7356, 7357, 7403, 7413, 7414, 7415, 7416, 7417, 7433, 7437, 7953, 7954, 7955, 10003, 11384, 14117, 14118, 14119, 14120, 14121, 14122, 16171, 16172, 16173, 16174, 16175, 16176, 16177, 16178, 16614] (iterN (stepF ctx) 9700 s33) = .inl s34 := by kernel_rfl
set_option maxHeartbeats 8000000 in
set_option maxRecDepth 1000000 in
theorem part35 : cutR [0, 3, 9, 11, 14, 15, 21, 22, 120, 121, 638, 640, 641, 1278, 1279, 1292, 1293, 1294, 1309, 1310, 1338, 1339, 16862, 16863, 16864, 16865, 16866, 16867, 16868, 16871, 16962, 16963, 16964, 16965, 16966, 16967, 16968] (iterN (stepF ctx) 10850 s34) = .inl s35 := by kernel_rfl
set_option maxHeartbeats 8000000 in
set_option maxRecDepth 1000000 in
theorem part36 : cutR [0, 3, 9, 11, 14, 15, 21, 22, 120, 121, 638, 640, 641, 1278, 1279, 1292, 1293, 1294, 1309, 1310, 1338, 1339, 16862, 16863, 16864, 16865, 16866, 16867, 16868, 16871, 16962, 16963, 16964, 16965, 16966, 16967, 16968, 17228] (iterN (stepF ctx) 9100 s35) = .inl s36 := by kernel_rfl
end Go.Proofs.YtaipbfbmdlkcpaaGreatDoor.consoleNone
