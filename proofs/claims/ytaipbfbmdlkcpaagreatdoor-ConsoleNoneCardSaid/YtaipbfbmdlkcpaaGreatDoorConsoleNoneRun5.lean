/-
  PROVED HERE: parts of the run of the evaluator from the call of ConsoleNone, by the kernel.
  Conditions: none.
-/
import Derived.KernelRfl
import Derived.Test.YtaipbfbmdlkcpaaGreatDoorConsoleNoneAt3
namespace Go.Proofs.YtaipbfbmdlkcpaaGreatDoor.consoleNone
open Go.Lev
set_option maxHeartbeats 8000000 in
set_option maxRecDepth 1000000 in
theorem part13 : cutR [0, 3, 9, 11, 14, 15, 21, 22, 120, 121, 638, 640, 641, 1278, 1279, 1292, 1293, 1294, 1309, 1310, 1338, 1339, 1340, 1341, 1342, 1343, 1344, 1345, 1443, 1444, 1961, 1963, 1964, 2602, 2603, 2604, 2605, 2606, 2611, 2613, 3129, 3130, 3131, 5171, 5172, 5173, 5174, 5175, 5176, 5177, 5178, 5546, 5547] (iterN (stepF ctx) 9050 s12) = .inl s13 := by kernel_rfl
set_option maxHeartbeats 8000000 in
set_option maxRecDepth 1000000 in
theorem part14 : cutR [0, 3, 9, 11, 14, 15, 21, 22, 120, 121, 638, 640, 641, 1278, 1279, 1292, 1293, 1294, 1309, 1310, 1338, 1339, 1340, 1341, 1342, 1343, 1344, 1345, 1443, 1444, 1961, 1963, 1964, 2602, 2603, 2604, 2605, 2606, 2611, 2613, 3129, 3130, 3131, 5171, 5172, 5173, 5174, 5175, 5176, 5177, 5178, 5946] (iterN (stepF ctx) 9450 s13) = .inl s14 := by kernel_rfl
set_option maxHeartbeats 8000000 in
set_option maxRecDepth 1000000 in
theorem part15 : cutR [0, 3, 9, 11, 14, 15, 21, 22, 120, 121, 638, 640, 641, 1278, 1279, 1292, 1293, 1294, 1309, 1310, 1338, 1339, 1340, 1341, 1342, 1343, 1344, 1345, 1443, 1444, 1961, 1963, 1964, 2602, 2603, 2604, 2605, 2606, 2611, 2613, 3129, 3130, 3131, 5171, 5172, 5173, 5174, 5175, 5176, 5177, 5178, 5946, 5947, 5948, 5949, 5950, 5951, 5952, 5953, 5954, 6248] (iterN (stepF ctx) 9750 s14) = .inl s15 := by kernel_rfl
end Go.Proofs.YtaipbfbmdlkcpaaGreatDoor.consoleNone
