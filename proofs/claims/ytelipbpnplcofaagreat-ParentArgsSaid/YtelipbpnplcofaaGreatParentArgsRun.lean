/-
  PROVED HERE: the call of ParentArgs returns true, whatever its arguments are, and of what was there nothing is turned.
  Conditions: none.
-/
import Derived.KernelRfl
import Derived.Test.YtelipbpnplcofaaGreatParentArgsMid
namespace Go.Proofs.YtelipbpnplcofaaGreat.parentArgs
open Go.Lev
theorem goodRow (c : Fr) (h : Good Tryz.prog ctx (k11 c)) : Good Tryz.prog ctx (k0 c) :=
  .of_part tables (row1 c) (.of_part tables (row2 c) (.of_part tables (row3 c) (.of_part tables (row4 c) (.of_part tables (row5 c) (.of_part tables (row6 c) (.of_part tables (row7 c) (.of_part tables (row8 c) (.of_part tables (row9 c) (.of_part tables (row10 c) (.of_part tables (row11 c) (h)))))))))))
theorem good1 : Good Tryz.prog ctx (k0 c1) := goodRow c1 (.of_run tables _ _ ends1)
theorem good2 : Good Tryz.prog ctx (k0 c2) := goodRow c2 (.of_run tables _ _ ends2)
theorem good3 : Good Tryz.prog ctx (k0 c3) := goodRow c3 (.of_run tables _ _ ends3)
theorem good4 : Good Tryz.prog ctx (k0 c4) := goodRow c4 (.of_run tables _ _ ends4)
theorem good5 : Good Tryz.prog ctx (k0 c5) := goodRow c5 (.of_run tables _ _ ends5)
theorem good6 : Good Tryz.prog ctx (k0 c6) := goodRow c6 (.of_run tables _ _ ends6)
/-- the first environment: nothing is known of the memory -/
noncomputable def noEnv : Env := ⟨fun _ => none, fun _ => 0⟩
theorem isPos (m : Nat) : VR noEnv (.ge .i64 1) (.int .i64 (.ofNat (m + 1))) := by rw [VR]; exact ⟨m, by rw [Nat.add_comm]⟩
theorem level1 (a1 : Int) : ∀ a2 : Int, ∃ v2, VR noEnv v2 (.int .i64 a2) ∧ Good Tryz.prog ctx (p2 (.ofNat 1) a1 v2)
  | .negSucc m => ⟨_, VR_int _ _ _, .of_partNx tables (neg1 m a1) good4⟩
  | .ofNat 0 => ⟨_, VR_int _ _ _, .of_partNx tables (fine1 a1) good6⟩
  | .ofNat (m + 1) => ⟨_, isPos m, .of_partNx tables (pos1 a1) good5⟩
theorem level2 (a1 : Int) : ∀ a2 : Int, ∃ v2, VR noEnv v2 (.int .i64 a2) ∧ Good Tryz.prog ctx (p2 (.ofNat 2) a1 v2)
  | .negSucc m => ⟨_, VR_int _ _ _, .of_partNx tables (neg2 m a1) good4⟩
  | .ofNat 0 => ⟨_, VR_int _ _ _, .of_partNx tables (fine2 a1) good6⟩
  | .ofNat (m + 1) => ⟨_, isPos m, .of_partNx tables (pos2 a1) good5⟩
theorem level3 (a1 : Int) : ∀ a2 : Int, ∃ v2, VR noEnv v2 (.int .i64 a2) ∧ Good Tryz.prog ctx (p2 (.ofNat 3) a1 v2)
  | .negSucc m => ⟨_, VR_int _ _ _, .of_partNx tables (neg3 m a1) good4⟩
  | .ofNat 0 => ⟨_, VR_int _ _ _, .of_partNx tables (fine3 a1) good6⟩
  | .ofNat (m + 1) => ⟨_, isPos m, .of_partNx tables (pos3 a1) good5⟩
theorem level4 (a1 : Int) : ∀ a2 : Int, ∃ v2, VR noEnv v2 (.int .i64 a2) ∧ Good Tryz.prog ctx (p2 (.ofNat 4) a1 v2)
  | .negSucc m => ⟨_, VR_int _ _ _, .of_partNx tables (neg4 m a1) good4⟩
  | .ofNat 0 => ⟨_, VR_int _ _ _, .of_partNx tables (fine4 a1) good6⟩
  | .ofNat (m + 1) => ⟨_, isPos m, .of_partNx tables (pos4 a1) good5⟩
theorem level5 (a1 : Int) : ∀ a2 : Int, ∃ v2, VR noEnv v2 (.int .i64 a2) ∧ Good Tryz.prog ctx (p2 (.ofNat 5) a1 v2)
  | .negSucc m => ⟨_, VR_int _ _ _, .of_partNx tables (neg5 m a1) good4⟩
  | .ofNat 0 => ⟨_, VR_int _ _ _, .of_partNx tables (fine5 a1) good6⟩
  | .ofNat (m + 1) => ⟨_, isPos m, .of_partNx tables (pos5 a1) good5⟩
theorem level6 (a1 : Int) : ∀ a2 : Int, ∃ v2, VR noEnv v2 (.int .i64 a2) ∧ Good Tryz.prog ctx (p2 (.ofNat 6) a1 v2)
  | .negSucc m => ⟨_, VR_int _ _ _, .of_partNx tables (neg6 m a1) good4⟩
  | .ofNat 0 => ⟨_, VR_int _ _ _, .of_partNx tables (fine6 a1) good6⟩
  | .ofNat (m + 1) => ⟨_, isPos m, .of_partNx tables (pos6 a1) good5⟩
theorem level7 (a1 : Int) : ∀ a2 : Int, ∃ v2, VR noEnv v2 (.int .i64 a2) ∧ Good Tryz.prog ctx (p2 (.ofNat 7) a1 v2)
  | .negSucc m => ⟨_, VR_int _ _ _, .of_partNx tables (neg7 m a1) good4⟩
  | .ofNat 0 => ⟨_, VR_int _ _ _, .of_partNx tables (fine7 a1) good6⟩
  | .ofNat (m + 1) => ⟨_, isPos m, .of_partNx tables (pos7 a1) good5⟩
theorem level8 (a1 : Int) : ∀ a2 : Int, ∃ v2, VR noEnv v2 (.int .i64 a2) ∧ Good Tryz.prog ctx (p2 (.ofNat 8) a1 v2)
  | .negSucc m => ⟨_, VR_int _ _ _, .of_partNx tables (neg8 m a1) good4⟩
  | .ofNat 0 => ⟨_, VR_int _ _ _, .of_partNx tables (fine8 a1) good6⟩
  | .ofNat (m + 1) => ⟨_, isPos m, .of_partNx tables (pos8 a1) good5⟩
theorem level9 (a1 : Int) : ∀ a2 : Int, ∃ v2, VR noEnv v2 (.int .i64 a2) ∧ Good Tryz.prog ctx (p2 (.ofNat 9) a1 v2)
  | .negSucc m => ⟨_, VR_int _ _ _, .of_partNx tables (neg9 m a1) good4⟩
  | .ofNat 0 => ⟨_, VR_int _ _ _, .of_partNx tables (fine9 a1) good6⟩
  | .ofNat (m + 1) => ⟨_, isPos m, .of_partNx tables (pos9 a1) good5⟩
theorem level10 (a1 : Int) : ∀ a2 : Int, ∃ v2, VR noEnv v2 (.int .i64 a2) ∧ Good Tryz.prog ctx (p2 (.ofNat 10) a1 v2)
  | .negSucc m => ⟨_, VR_int _ _ _, .of_partNx tables (neg10 m a1) good4⟩
  | .ofNat 0 => ⟨_, VR_int _ _ _, .of_partNx tables (fine10 a1) good6⟩
  | .ofNat (m + 1) => ⟨_, isPos m, .of_partNx tables (pos10 a1) good5⟩
theorem level11 (a1 : Int) : ∀ a2 : Int, ∃ v2, VR noEnv v2 (.int .i64 a2) ∧ Good Tryz.prog ctx (p2 (.ofNat 11) a1 v2)
  | .negSucc m => ⟨_, VR_int _ _ _, .of_partNx tables (neg11 m a1) good4⟩
  | .ofNat 0 => ⟨_, VR_int _ _ _, .of_partNx tables (fine11 a1) good6⟩
  | .ofNat (m + 1) => ⟨_, isPos m, .of_partNx tables (pos11 a1) good5⟩
theorem level12 (a1 : Int) : ∀ a2 : Int, ∃ v2, VR noEnv v2 (.int .i64 a2) ∧ Good Tryz.prog ctx (p2 (.ofNat 12) a1 v2)
  | .negSucc m => ⟨_, VR_int _ _ _, .of_partNx tables (neg12 m a1) good4⟩
  | .ofNat 0 => ⟨_, VR_int _ _ _, .of_partNx tables (fine12 a1) good6⟩
  | .ofNat (m + 1) => ⟨_, isPos m, .of_partNx tables (pos12 a1) good5⟩
theorem level13 (a1 : Int) : ∀ a2 : Int, ∃ v2, VR noEnv v2 (.int .i64 a2) ∧ Good Tryz.prog ctx (p2 (.ofNat 13) a1 v2)
  | .negSucc m => ⟨_, VR_int _ _ _, .of_partNx tables (neg13 m a1) good4⟩
  | .ofNat 0 => ⟨_, VR_int _ _ _, .of_partNx tables (fine13 a1) good6⟩
  | .ofNat (m + 1) => ⟨_, isPos m, .of_partNx tables (pos13 a1) good5⟩
theorem level14 (a1 : Int) : ∀ a2 : Int, ∃ v2, VR noEnv v2 (.int .i64 a2) ∧ Good Tryz.prog ctx (p2 (.ofNat 14) a1 v2)
  | .negSucc m => ⟨_, VR_int _ _ _, .of_partNx tables (neg14 m a1) good4⟩
  | .ofNat 0 => ⟨_, VR_int _ _ _, .of_partNx tables (fine14 a1) good6⟩
  | .ofNat (m + 1) => ⟨_, isPos m, .of_partNx tables (pos14 a1) good5⟩
theorem level15 (a1 : Int) : ∀ a2 : Int, ∃ v2, VR noEnv v2 (.int .i64 a2) ∧ Good Tryz.prog ctx (p2 (.ofNat 15) a1 v2)
  | .negSucc m => ⟨_, VR_int _ _ _, .of_partNx tables (neg15 m a1) good4⟩
  | .ofNat 0 => ⟨_, VR_int _ _ _, .of_partNx tables (fine15 a1) good6⟩
  | .ofNat (m + 1) => ⟨_, isPos m, .of_partNx tables (pos15 a1) good5⟩
theorem levels (a1 a2 : Int) : ∀ a0 : Int, ∃ v2, VR noEnv v2 (.int .i64 a2) ∧ Good Tryz.prog ctx (p2 a0 a1 v2)
  | .negSucc m => ⟨_, VR_int _ _ _, .of_partNx tables (lowNeg m a1 a2) good2⟩
  | .ofNat 0 => ⟨_, VR_int _ _ _, .of_partNx tables (lowZero a1 a2) good1⟩
  | .ofNat 1 => level1 a1 a2
  | .ofNat 2 => level2 a1 a2
  | .ofNat 3 => level3 a1 a2
  | .ofNat 4 => level4 a1 a2
  | .ofNat 5 => level5 a1 a2
  | .ofNat 6 => level6 a1 a2
  | .ofNat 7 => level7 a1 a2
  | .ofNat 8 => level8 a1 a2
  | .ofNat 9 => level9 a1 a2
  | .ofNat 10 => level10 a1 a2
  | .ofNat 11 => level11 a1 a2
  | .ofNat 12 => level12 a1 a2
  | .ofNat 13 => level13 a1 a2
  | .ofNat 14 => level14 a1 a2
  | .ofNat 15 => level15 a1 a2
  | .ofNat (m + 16) => ⟨_, VR_int _ _ _, .of_partNx tables (high m a1 a2) good3⟩
theorem walk (a0 a1 a2 : Int) (w : World) :
    Calls Tryz.prog 4 #[.int .i64 a0, .int .u64 a1, .int .i64 a2] w fun e w' => e = .returned (.bool true) ∧ w.keptBut w' (fun _ => False) := by
  obtain ⟨v2, hv, hg⟩ := levels a1 a2 a0
  exact calls_of_partsA tables (xs := #[.int .i64 a0, .int .u64 a1, .int .i64 a2]) (VRs.cons (VR_int _ _ _) (VRs.cons (VR_int _ _ _) (VRs.cons hv VRs.nil))) starts (first a0 a1 v2) (.of_part tables (second a0 a1 v2) hg) w
end Go.Proofs.YtelipbpnplcofaaGreat.parentArgs
