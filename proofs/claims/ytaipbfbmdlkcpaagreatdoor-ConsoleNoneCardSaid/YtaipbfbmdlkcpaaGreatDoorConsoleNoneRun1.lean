/-
  PROVED HERE: parts of the run of the evaluator from the call of ConsoleNone, by the kernel.
  Conditions: none.
-/
import Derived.KernelRfl
import Derived.Test.YtaipbfbmdlkcpaaGreatDoorConsoleNoneAt3
namespace Go.Proofs.YtaipbfbmdlkcpaaGreatDoor.consoleNone
open Go.Lev
set_option maxHeartbeats 8000000 in
set_option maxRecDepth 1000000 in
theorem starts : okF ctx 3 = true := by kernel_rfl
set_option maxHeartbeats 8000000 in
set_option maxRecDepth 1000000 in
theorem part1 : cutR [0, 3, 9, 11, 14, 15, 21, 22, 23, 24, 25, 26, 29, 120, 121, 122, 123, 124, 125, 126, 280] (fromStartG ctx 3 h0 9150) = .inl s1 := by kernel_rfl
set_option maxHeartbeats 8000000 in
set_option maxRecDepth 1000000 in
theorem part2 : cutR [0, 3, 9, 11, 14, 15, 21, 22, 23, 24, 25, 26, 29, 120, 121, 122, 123, 124, 125, 126, 540] (iterN (stepF ctx) 9100 s1) = .inl s2 := by kernel_rfl
set_option maxHeartbeats 8000000 in
set_option maxRecDepth 1000000 in
theorem part3 : cutR [0, 3, 9, 11, 14, 15, 21, 22, 23, 24, 25, 26, 29, 120, 121, 638, 640, 641, 642, 643, 644, 645, 646, 647, 648, 649, 837] (iterN (stepF ctx) 9700 s2) = .inl s3 := by kernel_rfl
end Go.Proofs.YtaipbfbmdlkcpaaGreatDoor.consoleNone
