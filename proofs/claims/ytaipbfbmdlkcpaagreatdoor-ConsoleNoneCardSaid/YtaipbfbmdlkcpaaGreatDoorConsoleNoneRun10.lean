/-
  PROVED HERE: parts of the run of the evaluator from the call of ConsoleNone, by the kernel.
  Conditions: none.
-/
import Derived.KernelRfl
import Derived.Test.YtaipbfbmdlkcpaaGreatDoorConsoleNoneAt3
namespace Go.Proofs.YtaipbfbmdlkcpaaGreatDoor.consoleNone
open Go.Lev
set_option maxHeartbeats 8000000 in
set_option maxRecDepth 1000000 in
theorem part28 : cutR [0, 3, 9, 11, 14, 15, 21, 22, 120, 121, 638, 640, 641, 1278, 1279, 1292, 1293, 1294, 1309, 1310, 1338, 1339, 1340, 1341, 1342, 1343, 1344, 1345, 1443, 1444, 1961, 1963, 1964, 7350, 7351, 7352, 7354, 7355, 7356, 7357, 7403, 7413, 7414, 7415, 7416, 7417, 7433, 7437, 7953, 7954, 7955, 10003, 11384, 11425, 11426, 11427, 11428, 11429, 11430, 12742] (iterN (stepF ctx) 9300 s27) = .inl s28 := by kernel_rfl
set_option maxHeartbeats 8000000 in
set_option maxRecDepth 1000000 in
theorem part29 : cutR [0, 3, 9, 11, 14, 15, 21, 22, 120, 121, 638, 640, 641, 1278, 1279, 1292, 1293, 1294, 1309, 1310, 1338, 1339, 1340, 1341, 1342, 1343, 1344, 1345, 1443, 1444, 1961, 1963, 1964, 7350, 7351, 7352, 7354, 7355, 7356, 7357, 7403, 7413, 7414, 7415, 7416, 7417, 7433, 7437, 7953, 7954, 7955, 10003, 11384, 11425, 11426, 11427, 11428, 11429, 11430, 13479, 13480, 13481, 13482, 13483, 13484, 13485, 13486, 13604] (iterN (stepF ctx) 9100 s28) = .inl s29 := by kernel_rfl
set_option maxHeartbeats 8000000 in
set_option maxRecDepth 1000000 in
theorem part30 : cutR [0, 3, 9, 11, 14, 15, 21, 22, 120, 121, 638, 640, 641, 1278, 1279, 1292, 1293, 1294, 1309, 1310, 1338, 1339, 1340, 1341, 1342, 1343, 1344, 1345, 1443, 1444, 1961, 1963, 1964, 7350, 7351, 7352, 7354, 7355, 7356, 7357, 7403, 7413, 7414, 7415, 7416, 7417, 7433, 7437, 7953, 7954, 7955, 10003, 11384, 11425, 11426, 11427, 11428, 11429, 11430, 13479, 13480, 13481, 13482, 13483, 13484, 13485, 13486, 13898] (iterN (stepF ctx) 9700 s29) = .inl s30 := by kernel_rfl
end Go.Proofs.YtaipbfbmdlkcpaaGreatDoor.consoleNone
