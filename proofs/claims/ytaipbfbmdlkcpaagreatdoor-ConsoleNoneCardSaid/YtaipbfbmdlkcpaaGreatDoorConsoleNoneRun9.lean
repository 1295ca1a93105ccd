/-
  PROVED HERE: parts of the run of the evaluator from the call of ConsoleNone, by the kernel.
  Conditions: none.
-/
import Derived.KernelRfl
import Derived.Test.YtaipbfbmdlkcpaaGreatDoorConsoleNoneAt3
namespace Go.Proofs.YtaipbfbmdlkcpaaGreatDoor.consoleNone
open Go.Lev
set_option maxHeartbeats 8000000 in
set_option maxRecDepth 1000000 in
theorem part25 : cutR [0, 3, 9, 11, 14, 15, 21, 22, 120, 121, 638, 640, 641, 1278, 1279, 1292, 1293, 1294, 1309, 1310, 1338, 1339, 1340, 1341, 1342, 1343, 1344, 1345, 1443, 1444, 1961, 1963, 1964, 2602, 2603, 2604, 2605, 2606, 7350, 7351, 7352, 7354, 7355, 7356, 7357, 7403, 7413, 7414, 7415, 7416, 7417, 7428, 7433, 7437, 7953, 7954, 7955, 7956, 9996, 9997, 9998, 9999, 10000, 10001, 10002, 10003, 10771, 10772, 10773, 10774, 10775, 10776, 10777, 10778, 10779, 10805] (iterN (stepF ctx) 9150 s24) = .inl s25 := by kernel_rfl
set_option maxHeartbeats 8000000 in
set_option maxRecDepth 1000000 in
theorem part26 : cutR [0, 3, 9, 11, 14, 15, 21, 22, 120, 121, 638, 640, 641, 1278, 1279, 1292, 1293, 1294, 1309, 1310, 1338, 1339, 1340, 1341, 1342, 1343, 1344, 1345, 1443, 1444, 1961, 1963, 1964, 2602, 2603, 2604, 2605, 2606, 7350, 7351, 7352, 7354, 7355, 7356, 7357, 7403, 7413, 7414, 7415, 7416, 7417, 7428, 7433, 7437, 7953, 7954, 7955, 7956, 9996, 9997, 9998, 9999, 10000, 10001, 10002, 10003, 10771, 10772, 10773, 10774, 10775, 10776, 10777, 10778, 10779, 11105] (iterN (stepF ctx) 9900 s25) = .inl s26 := by kernel_rfl
set_option maxHeartbeats 8000000 in
set_option maxRecDepth 1000000 in
theorem part27 : cutR [0, 3, 9, 11, 14, 15, 21, 22, 120, 121, 638, 640, 641, 1278, 1279, 1292, 1293, 1294, 1309, 1310, 1338, 1339, 1340, 1341, 1342, 1343, 1344, 1345, 1443, 1444, 1961, 1963, 1964, 7350, 7351, 7352, 7354, 7355, 7356, 7357, 7403, 7413, 7414, 7415, 7416, 7417, 7433, 7437, 7953, 7954, 7955, 10003, 11384, 11425] (iterN (stepF ctx) 11700 s26) = .inl s27 := by kernel_rfl
end Go.Proofs.YtaipbfbmdlkcpaaGreatDoor.consoleNone
