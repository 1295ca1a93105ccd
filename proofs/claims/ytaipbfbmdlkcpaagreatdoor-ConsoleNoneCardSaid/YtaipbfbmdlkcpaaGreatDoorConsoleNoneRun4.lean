/-
  PROVED HERE: parts of the run of the evaluator from the call of ConsoleNone, by the kernel.
  Conditions: none.
-/
import Derived.KernelRfl
import Derived.Test.YtaipbfbmdlkcpaaGreatDoorConsoleNoneAt3
namespace Go.Proofs.YtaipbfbmdlkcpaaGreatDoor.consoleNone
open Go.Lev
set_option maxHeartbeats 8000000 in
set_option maxRecDepth 1000000 in
theorem part10 : cutR [0, 3, 9, 11, 14, 15, 21, 22, 120, 121, 638, 640, 641, 1278, 1279, 1292, 1293, 1294, 1309, 1310, 1338, 1339, 1340, 1341, 1342, 1343, 1344, 1345, 1443, 1444, 1961, 1963, 1964, 2602, 2603, 2604, 2605, 2606, 2611, 2613, 3129, 3130, 3131, 3554, 3555] (iterN (stepF ctx) 10050 s9) = .inl s10 := by kernel_rfl
set_option maxHeartbeats 8000000 in
set_option maxRecDepth 1000000 in
theorem part11 : cutR [0, 3, 9, 11, 14, 15, 21, 22, 120, 121, 638, 640, 641, 1278, 1279, 1292, 1293, 1294, 1309, 1310, 1338, 1339, 1340, 1341, 1342, 1343, 1344, 1345, 1443, 1444, 1961, 1963, 1964, 2602, 2603, 2604, 2605, 2606, 2611, 2613, 3129, 3130, 3131, 4354, 4355] (iterN (stepF ctx) 11400 s10) = .inl s11 := by kernel_rfl
set_option maxHeartbeats 8000000 in
set_option maxRecDepth 1000000 in
theorem part12 : cutR [0, 3, 9, 11, 14, 15, 21, 22, 120, 121, 638, 640, 641, 1278, 1279, 1292, 1293, 1294, 1309, 1310, 1338, 1339, 1340, 1341, 1342, 1343, 1344, 1345, 1443, 1444, 1961, 1963, 1964, 2602, 2603, 2604, 2605, 2606, 2611, 2613, 3129, 3130, 3131, 5154, 5155] (iterN (stepF ctx) 11400 s11) = .inl s12 := by kernel_rfl
end Go.Proofs.YtaipbfbmdlkcpaaGreatDoor.consoleNone
