/-
  PROVED HERE: parts of the run of the evaluator from the call of ConsoleNone, by the kernel.
  Conditions: none.
-/
import Derived.KernelRfl
import Derived.Test.YtaipbfbmdlkcpaaGreatDoorConsoleNoneAt3
namespace Go.Proofs.YtaipbfbmdlkcpaaGreatDoor.consoleNone
open Go.Lev
set_option maxHeartbeats 8000000 in
set_option maxRecDepth 1000000 in
theorem part19 : cutR [0, 3, 9, 11, 14, 15, 21, 22, 120, 121, 638, 640, 641, 1278, 1279, 1292, 1293, 1294, 1309, 1310, 1338, 1339, 1340, 1341, 1342, 1343, 1344, 1345, 1443, 1444, 1961, 1963, 1964, 2602, 2603, 2604, 2605, 2606, 7350, 7351, 7352, 7354, 7355, 7356, 7357, 7403, 7413, 7414, 7415, 7416, 7417, 7428, 7429, 7430, 7431, 7432, 7433, 7437, 7953, 7954, 7955] (iterN (stepF ctx) 10700 s18) = .inl s19 := by kernel_rfl
set_option maxHeartbeats 8000000 in
set_option maxRecDepth 1000000 in
theorem part20 : cutR [0, 3, 9, 11, 14, 15, 21, 22, 120, 121, 638, 640, 641, 1278, 1279, 1292, 1293, 1294, 1309, 1310, 1338, 1339, 1340, 1341, 1342, 1343, 1344, 1345, 1443, 1444, 1961, 1963, 1964, 2602, 2603, 2604, 2605, 2606, 7350, 7351, 7352, 7354, 7355, 7356, 7357, 7403, 7413, 7414, 7415, 7416, 7417, 7428, 7433, 7437, 7953, 7954, 7955, 7956, 8483, 8484, 8485, 8486] (iterN (stepF ctx) 9250 s19) = .inl s20 := by kernel_rfl
set_option maxHeartbeats 8000000 in
set_option maxRecDepth 1000000 in
theorem part21 : cutR [0, 3, 9, 11, 14, 15, 21, 22, 120, 121, 638, 640, 641, 1278, 1279, 1292, 1293, 1294, 1309, 1310, 1338, 1339, 1340, 1341, 1342, 1343, 1344, 1345, 1443, 1444, 1961, 1963, 1964, 2602, 2603, 2604, 2605, 2606, 7350, 7351, 7352, 7354, 7355, 7356, 7357, 7403, 7413, 7414, 7415, 7416, 7417, 7428, 7433, 7437, 7953, 7954, 7955, 7956, 9003, 9004, 9005, 9006] (iterN (stepF ctx) 9100 s20) = .inl s21 := by kernel_rfl
end Go.Proofs.YtaipbfbmdlkcpaaGreatDoor.consoleNone
