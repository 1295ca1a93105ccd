/-
  PROVED HERE: parts of the run of the evaluator from the call of ConsoleNone, by the kernel.
  Conditions: none.
-/
import Derived.KernelRfl
import Derived.Test.YtaipbfbmdlkcpaaGreatDoorConsoleNoneAt3
namespace Go.Proofs.YtaipbfbmdlkcpaaGreatDoor.consoleNone
open Go.Lev
set_option maxHeartbeats 8000000 in
set_option maxRecDepth 1000000 in
theorem part7 : cutR [0, 3, 9, 11, 14, 15, 21, 22, 120, 121, 638, 640, 641, 1278, 1279, 1292, 1293, 1294, 1309, 1310, 1338, 1339, 1340, 1341, 1342, 1343, 1344, 1345, 1346, 1347, 1348, 1349, 1352, 1443, 1444, 1961, 1963, 1964, 1965, 1966, 1967, 1968, 1969, 1970, 1971, 1972, 2008] (iterN (stepF ctx) 10150 s6) = .inl s7 := by kernel_rfl
set_option maxHeartbeats 8000000 in
set_option maxRecDepth 1000000 in
theorem part8 : cutR [0, 3, 9, 11, 14, 15, 21, 22, 120, 121, 638, 640, 641, 1278, 1279, 1292, 1293, 1294, 1309, 1310, 1338, 1339, 1340, 1341, 1342, 1343, 1344, 1345, 1346, 1347, 1348, 1349, 1352, 1443, 1444, 1961, 1963, 1964, 1965, 1966, 1967, 1968, 1969, 1970, 1971, 1972, 2308] (iterN (stepF ctx) 9900 s7) = .inl s8 := by kernel_rfl
set_option maxHeartbeats 8000000 in
set_option maxRecDepth 1000000 in
theorem part9 : cutR [0, 3, 9, 11, 14, 15, 21, 22, 120, 121, 638, 640, 641, 1278, 1279, 1292, 1293, 1294, 1309, 1310, 1338, 1339, 1340, 1341, 1342, 1343, 1344, 1345, 1443, 1444, 1961, 1963, 1964, 2602] (iterN (stepF ctx) 11100 s8) = .inl s9 := by kernel_rfl
end Go.Proofs.YtaipbfbmdlkcpaaGreatDoor.consoleNone
