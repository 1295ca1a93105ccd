/-
  PROVED HERE: the runs of the evaluator from the first parent that is asked for to the closed row, class by class of the arguments, and from its answer to the end.
  Conditions: none.
-/
import Derived.KernelRfl
import Derived.Test.YtelipbpnplcofaaGreatParentArgsRow11
namespace Go.Proofs.YtelipbpnplcofaaGreat.parentArgs
open Go.Lev
/-- who calls the closed row -/
noncomputable def c1 : Fr :=
  ⟨4, 79, [], .normal, none, .run, (.node .any (.node .any (.node .any (.node .any (.node .any (.node .any (lU .any 17) (fU 18)) (lU .any 18)) (.node (.bool false) (.node (.bool
  true) (lU .any 17) (fU 18)) (lU .any 18))) (.node (.bool true) (.node .any (.node .any (lU .any 17) (fU 18)) (lU .any 18)) (.node .any (.node .any (lU .any 17) (fU 18)) (lU .any
  18)))) (.node .any (.node (.bool true) (.node .any (.node .any (lU .any 17) (fU 18)) (lU (.bool true) 18)) (.node .any (.node .any (lU .any 17) (fU 18)) (lU .any 18))) (.node .any
  (.node .any (.node .any (lU .any 17) (fU 18)) (lU (.bool true) 18)) (.node .any (.node (.bool true) (lU .any 17) (fU 18)) (lU .any 18))))) (.node .any (.node .any (.node .any
  (.node (.bool false) (.node .any (lU .any 17) (fU 18)) (lU (.bool true) 18)) (.node .any (.node .any (lU .any 17) (fU 18)) (lU .any 18))) (.node .any (.node .any (.node .any (lU
  .any 17) (fU 18)) (lU (.bool true) 18)) (.node .any (.node (.bool true) (lU .any 17) (fU 18)) (lU .any 18)))) (.node (.bool false) (.node .any (.node .any (.node .any (lU .any 17)
  (fU 18)) (lU (.bool true) 18)) (.node .any (.node (.bool false) (lU .any 17) (fU 18)) (lU .any 18))) (.node .any (.node .any (.node .any (lU .any 17) (fU 18)) (lU (.bool true) 18))
  (.node (.bool true) (.node .any (lU .any 17) (fU 18)) (lU .any 18)))))), [.reg (opsAt Tryz.f4 [1, 1, 1, 1, 1, 1, 1, 1, 0, 1, 0, 0]) ((opsAt Tryz.f4 [1, 1, 1, 1, 1, 1, 1, 1, 0, 1,
  0, 0]).toList.drop 6), .code (codeAt Tryz.f4 [1, 1, 0, 1, 0, 1]), .code (codeAt Tryz.f4 [1, 1, 1, 1, 1, 1, 1, 1, 1])]⟩
/-- who calls the closed row -/
noncomputable def c2 : Fr :=
  ⟨4, 79, [], .normal, none, .run, (.node .any (.node .any (.node .any (.node .any (.node .any (.node .any (lU .any 17) (fU 18)) (lU .any 18)) (.node (.bool false) (.node (.bool
  true) (lU .any 17) (fU 18)) (lU .any 18))) (.node (.bool true) (.node .any (.node .any (lU .any 17) (fU 18)) (lU .any 18)) (.node .any (.node .any (lU .any 17) (fU 18)) (lU .any
  18)))) (.node .any (.node (.bool true) (.node .any (.node .any (lU .any 17) (fU 18)) (lU (.bool true) 18)) (.node .any (.node .any (lU .any 17) (fU 18)) (lU .any 18))) (.node .any
  (.node .any (.node .any (lU .any 17) (fU 18)) (lU (.bool true) 18)) (.node .any (.node (.bool true) (lU .any 17) (fU 18)) (lU .any 18))))) (.node .any (.node .any (.node .any
  (.node (.bool false) (.node .any (lU .any 17) (fU 18)) (lU (.bool true) 18)) (.node .any (.node .any (lU .any 17) (fU 18)) (lU .any 18))) (.node .any (.node .any (.node .any (lU
  .any 17) (fU 18)) (lU (.bool true) 18)) (.node .any (.node (.bool true) (lU .any 17) (fU 18)) (lU .any 18)))) (.node (.bool false) (.node .any (.node .any (.node .any (lU .any 17)
  (fU 18)) (lU (.bool true) 18)) (.node .any (.node (.bool false) (lU .any 17) (fU 18)) (lU .any 18))) (.node .any (.node .any (.node .any (lU .any 17) (fU 18)) (lU (.bool true) 18))
  (.node (.bool true) (.node .any (lU .any 17) (fU 18)) (lU .any 18)))))), [.reg (opsAt Tryz.f4 [1, 1, 1, 1, 1, 1, 1, 1, 0, 1, 0, 0]) ((opsAt Tryz.f4 [1, 1, 1, 1, 1, 1, 1, 1, 0, 1,
  0, 0]).toList.drop 6), .code (codeAt Tryz.f4 [1, 1, 0, 1, 0, 1]), .code (codeAt Tryz.f4 [1, 1, 1, 1, 1, 1, 1, 1, 1])]⟩
/-- who calls the closed row -/
noncomputable def c3 : Fr :=
  ⟨4, 79, [], .normal, none, .run, (.node .any (.node .any (.node .any (.node .any (.node .any (.node .any (lU .any 17) (fU 18)) (lU (.bool true) 18)) (.node (.bool false) (.node
  (.bool true) (lU .any 17) (fU 18)) (lU .any 18))) (.node (.bool true) (.node .any (.node .any (lU .any 17) (fU 18)) (lU .any 18)) (.node .any (.node .any (lU .any 17) (fU 18)) (lU
  .any 18)))) (.node .any (.node (.bool true) (.node .any (.node .any (lU .any 17) (fU 18)) (lU (.bool true) 18)) (.node .any (.node .any (lU .any 17) (fU 18)) (lU .any 18))) (.node
  .any (.node .any (.node .any (lU .any 17) (fU 18)) (lU (.bool true) 18)) (.node .any (.node (.bool false) (lU .any 17) (fU 18)) (lU .any 18))))) (.node .any (.node .any (.node .any
  (.node (.bool false) (.node .any (lU .any 17) (fU 18)) (lU (.bool true) 18)) (.node .any (.node .any (lU .any 17) (fU 18)) (lU .any 18))) (.node .any (.node .any (.node .any (lU
  .any 17) (fU 18)) (lU (.bool true) 18)) (.node .any (.node (.bool false) (lU .any 17) (fU 18)) (lU .any 18)))) (.node (.bool false) (.node .any (.node .any (.node .any (lU .any 17)
  (fU 18)) (lU (.bool true) 18)) (.node .any (.node (.bool false) (lU .any 17) (fU 18)) (lU .any 18))) (.node .any (.node .any (.node .any (lU .any 17) (fU 18)) (lU (.bool true) 18))
  (.node (.bool true) (.node .any (lU .any 17) (fU 18)) (lU .any 18)))))), [.reg (opsAt Tryz.f4 [1, 1, 1, 1, 1, 1, 1, 1, 0, 1, 0, 0]) ((opsAt Tryz.f4 [1, 1, 1, 1, 1, 1, 1, 1, 0, 1,
  0, 0]).toList.drop 6), .code (codeAt Tryz.f4 [1, 1, 0, 1, 0, 1]), .code (codeAt Tryz.f4 [1, 1, 1, 1, 1, 1, 1, 1, 1])]⟩
/-- who calls the closed row -/
noncomputable def c4 : Fr :=
  ⟨4, 79, [], .normal, none, .run, (.node .any (.node .any (.node .any (.node .any (.node .any (.node .any (lU (.bool true) 17) (fU 18)) (lU (.bool false) 18)) (.node (.bool false)
  (.node (.bool true) (lU .any 17) (fU 18)) (lU .any 18))) (.node (.bool true) (.node .any (.node .any (lU .any 17) (fU 18)) (lU .any 18)) (.node .any (.node .any (lU .any 17) (fU
  18)) (lU (.bool true) 18)))) (.node .any (.node (.bool true) (.node .any (.node .any (lU .any 17) (fU 18)) (lU .any 18)) (.node .any (.node .any (lU .any 17) (fU 18)) (lU .any
  18))) (.node .any (.node .any (.node .any (lU .any 17) (fU 18)) (lU .any 18)) (.node .any (.node (.bool false) (lU .any 17) (fU 18)) (lU .any 18))))) (.node .any (.node .any (.node
  .any (.node (.bool false) (.node .any (lU (.bool true) 17) (fU 18)) (lU (.bool false) 18)) (.node .any (.node .any (lU .any 17) (fU 18)) (lU .any 18))) (.node .any (.node .any
  (.node .any (lU .any 17) (fU 18)) (lU .any 18)) (.node .any (.node (.bool false) (lU .any 17) (fU 18)) (lU (.bool true) 18)))) (.node (.bool false) (.node .any (.node .any (.node
  .any (lU .any 17) (fU 18)) (lU .any 18)) (.node .any (.node (.bool false) (lU .any 17) (fU 18)) (lU (.bool true) 18))) (.node .any (.node .any (.node .any (lU .any 17) (fU 18)) (lU
  .any 18)) (.node (.bool true) (.node .any (lU .any 17) (fU 18)) (lU (.bool true) 18)))))), [.reg (opsAt Tryz.f4 [1, 1, 1, 1, 1, 1, 1, 1, 1, 0, 1, 0, 0]) ((opsAt Tryz.f4 [1, 1, 1,
  1, 1, 1, 1, 1, 1, 0, 1, 0, 0]).toList.drop 6), .code (codeAt Tryz.f4 [1, 1, 0, 1, 0, 1]), .code (codeAt Tryz.f4 [1, 1, 1, 1, 1, 1, 1, 1, 1, 1])]⟩
/-- who calls the closed row -/
noncomputable def c5 : Fr :=
  ⟨4, 79, [], .normal, none, .run, (.node .any (.node .any (.node .any (.node .any (.node .any (.node .any (lU (.bool true) 17) (fU 18)) (lU (.bool false) 18)) (.node (.bool false)
  (.node (.bool true) (lU .any 17) (fU 18)) (lU .any 18))) (.node (.bool true) (.node .any (.node .any (lU .any 17) (fU 18)) (lU .any 18)) (.node .any (.node .any (lU .any 17) (fU
  18)) (lU (.bool true) 18)))) (.node .any (.node (.bool true) (.node .any (.node .any (lU .any 17) (fU 18)) (lU .any 18)) (.node .any (.node .any (lU .any 17) (fU 18)) (lU .any
  18))) (.node .any (.node .any (.node .any (lU .any 17) (fU 18)) (lU .any 18)) (.node .any (.node (.bool false) (lU .any 17) (fU 18)) (lU .any 18))))) (.node .any (.node .any (.node
  .any (.node (.bool false) (.node .any (lU (.bool true) 17) (fU 18)) (lU (.bool false) 18)) (.node .any (.node .any (lU .any 17) (fU 18)) (lU .any 18))) (.node .any (.node .any
  (.node .any (lU .any 17) (fU 18)) (lU .any 18)) (.node .any (.node (.bool false) (lU .any 17) (fU 18)) (lU (.bool true) 18)))) (.node (.bool false) (.node .any (.node .any (.node
  .any (lU .any 17) (fU 18)) (lU .any 18)) (.node .any (.node (.bool false) (lU .any 17) (fU 18)) (lU (.bool true) 18))) (.node .any (.node .any (.node .any (lU .any 17) (fU 18)) (lU
  .any 18)) (.node (.bool true) (.node .any (lU .any 17) (fU 18)) (lU (.bool true) 18)))))), [.reg (opsAt Tryz.f4 [1, 1, 1, 1, 1, 1, 1, 1, 1, 0, 1, 0, 0]) ((opsAt Tryz.f4 [1, 1, 1,
  1, 1, 1, 1, 1, 1, 0, 1, 0, 0]).toList.drop 6), .code (codeAt Tryz.f4 [1, 1, 0, 1, 0, 1]), .code (codeAt Tryz.f4 [1, 1, 1, 1, 1, 1, 1, 1, 1, 1])]⟩
/-- who calls the closed row -/
noncomputable def c6 : Fr :=
  ⟨4, 79, [], .normal, none, .run, (.node .any (.node .any (.node .any (.node .any (.node .any (.node .any (lU .any 17) (fU 18)) (lU (.bool false) 18)) (.node (.bool false) (.node
  (.bool false) (lU .any 17) (fU 18)) (lU .any 18))) (.node (.bool false) (.node .any (.node .any (lU .any 17) (fU 18)) (lU .any 18)) (.node .any (.node .any (lU (.bool true) 17) (fU
  18)) (lU .any 18)))) (.node .any (.node (.bool true) (.node .any (.node .any (lU .any 17) (fU 18)) (lU .any 18)) (.node .any (.node .any (lU .any 17) (fU 18)) (lU .any 18))) (.node
  .any (.node .any (.node .any (lU (.bool true) 17) (fU 18)) (lU .any 18)) (.node .any (.node (.bool false) (lU .any 17) (fU 18)) (lU .any 18))))) (.node .any (.node .any (.node .any
  (.node (.bool false) (.node .any (lU .any 17) (fU 18)) (lU (.bool false) 18)) (.node .any (.node .any (lU .any 17) (fU 18)) (lU .any 18))) (.node .any (.node .any (.node .any (lU
  (.bool true) 17) (fU 18)) (lU .any 18)) (.node .any (.node (.bool false) (lU (.bool true) 17) (fU 18)) (lU .any 18)))) (.node (.bool false) (.node .any (.node .any (.node .any (lU
  .any 17) (fU 18)) (lU .any 18)) (.node .any (.node (.bool false) (lU (.bool true) 17) (fU 18)) (lU (.bool false) 18))) (.node .any (.node .any (.node .any (lU .any 17) (fU 18)) (lU
  .any 18)) (.node (.bool true) (.node .any (lU .any 17) (fU 18)) (lU .any 18)))))), [.reg (opsAt Tryz.f4 [1, 1, 1, 1, 1, 1, 1, 1, 1, 1, 0]) ((opsAt Tryz.f4 [1, 1, 1, 1, 1, 1, 1, 1,
  1, 1, 0]).toList.drop 10), .code (codeAt Tryz.f4 [1, 1, 0, 1, 0, 1])]⟩
set_option maxRecDepth 1000000 in
theorem lowZero (a1 a2 : Int) : cutR [] (nxR 1000 (anyR (iterN (stepF ctx) 63 (p2 (.ofNat 0) a1 (.int .i64 a2))))) = .inl (k0 c1) := by kernel_rfl
set_option maxRecDepth 1000000 in
theorem lowNeg (m : Nat) (a1 a2 : Int) : cutR [] (nxR 1000 (anyR (iterN (stepF ctx) 63 (p2 (.negSucc m) a1 (.int .i64 a2))))) = .inl (k0 c2) := by kernel_rfl
set_option maxRecDepth 1000000 in
theorem high (m : Nat) (a1 a2 : Int) : cutR [] (nxR 1000 (anyR (iterN (stepF ctx) 63 (p2 (.ofNat (m + 16)) a1 (.int .i64 a2))))) = .inl (k0 c3) := by kernel_rfl
set_option maxRecDepth 1000000 in
theorem neg1 (m : Nat) (a1 : Int) : cutR [] (nxR 1000 (anyR (iterN (stepF ctx) 69 (p2 (.ofNat 1) a1 (.int .i64 (.negSucc m)))))) = .inl (k0 c4) := by kernel_rfl
set_option maxRecDepth 1000000 in
theorem pos1 (a1 : Int) : cutR [] (nxR 1000 (anyR (iterN (stepF ctx) 92 (p2 (.ofNat 1) a1 (.ge .i64 1))))) = .inl (k0 c5) := by kernel_rfl
set_option maxRecDepth 1000000 in
theorem fine1 (a1 : Int) : cutR [] (nxR 1000 (anyR (iterN (stepF ctx) 145 (p2 (.ofNat 1) a1 (.int .i64 (.ofNat 0)))))) = .inl (k0 c6) := by kernel_rfl
set_option maxRecDepth 1000000 in
theorem neg2 (m : Nat) (a1 : Int) : cutR [] (nxR 1000 (anyR (iterN (stepF ctx) 69 (p2 (.ofNat 2) a1 (.int .i64 (.negSucc m)))))) = .inl (k0 c4) := by kernel_rfl
set_option maxRecDepth 1000000 in
theorem pos2 (a1 : Int) : cutR [] (nxR 1000 (anyR (iterN (stepF ctx) 92 (p2 (.ofNat 2) a1 (.ge .i64 1))))) = .inl (k0 c5) := by kernel_rfl
set_option maxRecDepth 1000000 in
theorem fine2 (a1 : Int) : cutR [] (nxR 1000 (anyR (iterN (stepF ctx) 145 (p2 (.ofNat 2) a1 (.int .i64 (.ofNat 0)))))) = .inl (k0 c6) := by kernel_rfl
set_option maxRecDepth 1000000 in
theorem neg3 (m : Nat) (a1 : Int) : cutR [] (nxR 1000 (anyR (iterN (stepF ctx) 69 (p2 (.ofNat 3) a1 (.int .i64 (.negSucc m)))))) = .inl (k0 c4) := by kernel_rfl
set_option maxRecDepth 1000000 in
theorem pos3 (a1 : Int) : cutR [] (nxR 1000 (anyR (iterN (stepF ctx) 92 (p2 (.ofNat 3) a1 (.ge .i64 1))))) = .inl (k0 c5) := by kernel_rfl
set_option maxRecDepth 1000000 in
theorem fine3 (a1 : Int) : cutR [] (nxR 1000 (anyR (iterN (stepF ctx) 145 (p2 (.ofNat 3) a1 (.int .i64 (.ofNat 0)))))) = .inl (k0 c6) := by kernel_rfl
set_option maxRecDepth 1000000 in
theorem neg4 (m : Nat) (a1 : Int) : cutR [] (nxR 1000 (anyR (iterN (stepF ctx) 69 (p2 (.ofNat 4) a1 (.int .i64 (.negSucc m)))))) = .inl (k0 c4) := by kernel_rfl
set_option maxRecDepth 1000000 in
theorem pos4 (a1 : Int) : cutR [] (nxR 1000 (anyR (iterN (stepF ctx) 92 (p2 (.ofNat 4) a1 (.ge .i64 1))))) = .inl (k0 c5) := by kernel_rfl
set_option maxRecDepth 1000000 in
theorem fine4 (a1 : Int) : cutR [] (nxR 1000 (anyR (iterN (stepF ctx) 145 (p2 (.ofNat 4) a1 (.int .i64 (.ofNat 0)))))) = .inl (k0 c6) := by kernel_rfl
set_option maxRecDepth 1000000 in
theorem neg5 (m : Nat) (a1 : Int) : cutR [] (nxR 1000 (anyR (iterN (stepF ctx) 69 (p2 (.ofNat 5) a1 (.int .i64 (.negSucc m)))))) = .inl (k0 c4) := by kernel_rfl
set_option maxRecDepth 1000000 in
theorem pos5 (a1 : Int) : cutR [] (nxR 1000 (anyR (iterN (stepF ctx) 92 (p2 (.ofNat 5) a1 (.ge .i64 1))))) = .inl (k0 c5) := by kernel_rfl
set_option maxRecDepth 1000000 in
theorem fine5 (a1 : Int) : cutR [] (nxR 1000 (anyR (iterN (stepF ctx) 145 (p2 (.ofNat 5) a1 (.int .i64 (.ofNat 0)))))) = .inl (k0 c6) := by kernel_rfl
set_option maxRecDepth 1000000 in
theorem neg6 (m : Nat) (a1 : Int) : cutR [] (nxR 1000 (anyR (iterN (stepF ctx) 69 (p2 (.ofNat 6) a1 (.int .i64 (.negSucc m)))))) = .inl (k0 c4) := by kernel_rfl
set_option maxRecDepth 1000000 in
theorem pos6 (a1 : Int) : cutR [] (nxR 1000 (anyR (iterN (stepF ctx) 92 (p2 (.ofNat 6) a1 (.ge .i64 1))))) = .inl (k0 c5) := by kernel_rfl
set_option maxRecDepth 1000000 in
theorem fine6 (a1 : Int) : cutR [] (nxR 1000 (anyR (iterN (stepF ctx) 145 (p2 (.ofNat 6) a1 (.int .i64 (.ofNat 0)))))) = .inl (k0 c6) := by kernel_rfl
set_option maxRecDepth 1000000 in
theorem neg7 (m : Nat) (a1 : Int) : cutR [] (nxR 1000 (anyR (iterN (stepF ctx) 69 (p2 (.ofNat 7) a1 (.int .i64 (.negSucc m)))))) = .inl (k0 c4) := by kernel_rfl
set_option maxRecDepth 1000000 in
theorem pos7 (a1 : Int) : cutR [] (nxR 1000 (anyR (iterN (stepF ctx) 92 (p2 (.ofNat 7) a1 (.ge .i64 1))))) = .inl (k0 c5) := by kernel_rfl
set_option maxRecDepth 1000000 in
theorem fine7 (a1 : Int) : cutR [] (nxR 1000 (anyR (iterN (stepF ctx) 145 (p2 (.ofNat 7) a1 (.int .i64 (.ofNat 0)))))) = .inl (k0 c6) := by kernel_rfl
set_option maxRecDepth 1000000 in
theorem neg8 (m : Nat) (a1 : Int) : cutR [] (nxR 1000 (anyR (iterN (stepF ctx) 69 (p2 (.ofNat 8) a1 (.int .i64 (.negSucc m)))))) = .inl (k0 c4) := by kernel_rfl
set_option maxRecDepth 1000000 in
theorem pos8 (a1 : Int) : cutR [] (nxR 1000 (anyR (iterN (stepF ctx) 92 (p2 (.ofNat 8) a1 (.ge .i64 1))))) = .inl (k0 c5) := by kernel_rfl
set_option maxRecDepth 1000000 in
theorem fine8 (a1 : Int) : cutR [] (nxR 1000 (anyR (iterN (stepF ctx) 145 (p2 (.ofNat 8) a1 (.int .i64 (.ofNat 0)))))) = .inl (k0 c6) := by kernel_rfl
set_option maxRecDepth 1000000 in
theorem neg9 (m : Nat) (a1 : Int) : cutR [] (nxR 1000 (anyR (iterN (stepF ctx) 69 (p2 (.ofNat 9) a1 (.int .i64 (.negSucc m)))))) = .inl (k0 c4) := by kernel_rfl
set_option maxRecDepth 1000000 in
theorem pos9 (a1 : Int) : cutR [] (nxR 1000 (anyR (iterN (stepF ctx) 92 (p2 (.ofNat 9) a1 (.ge .i64 1))))) = .inl (k0 c5) := by kernel_rfl
set_option maxRecDepth 1000000 in
theorem fine9 (a1 : Int) : cutR [] (nxR 1000 (anyR (iterN (stepF ctx) 145 (p2 (.ofNat 9) a1 (.int .i64 (.ofNat 0)))))) = .inl (k0 c6) := by kernel_rfl
set_option maxRecDepth 1000000 in
theorem neg10 (m : Nat) (a1 : Int) : cutR [] (nxR 1000 (anyR (iterN (stepF ctx) 69 (p2 (.ofNat 10) a1 (.int .i64 (.negSucc m)))))) = .inl (k0 c4) := by kernel_rfl
set_option maxRecDepth 1000000 in
theorem pos10 (a1 : Int) : cutR [] (nxR 1000 (anyR (iterN (stepF ctx) 92 (p2 (.ofNat 10) a1 (.ge .i64 1))))) = .inl (k0 c5) := by kernel_rfl
set_option maxRecDepth 1000000 in
theorem fine10 (a1 : Int) : cutR [] (nxR 1000 (anyR (iterN (stepF ctx) 145 (p2 (.ofNat 10) a1 (.int .i64 (.ofNat 0)))))) = .inl (k0 c6) := by kernel_rfl
set_option maxRecDepth 1000000 in
theorem neg11 (m : Nat) (a1 : Int) : cutR [] (nxR 1000 (anyR (iterN (stepF ctx) 69 (p2 (.ofNat 11) a1 (.int .i64 (.negSucc m)))))) = .inl (k0 c4) := by kernel_rfl
set_option maxRecDepth 1000000 in
theorem pos11 (a1 : Int) : cutR [] (nxR 1000 (anyR (iterN (stepF ctx) 92 (p2 (.ofNat 11) a1 (.ge .i64 1))))) = .inl (k0 c5) := by kernel_rfl
set_option maxRecDepth 1000000 in
theorem fine11 (a1 : Int) : cutR [] (nxR 1000 (anyR (iterN (stepF ctx) 145 (p2 (.ofNat 11) a1 (.int .i64 (.ofNat 0)))))) = .inl (k0 c6) := by kernel_rfl
set_option maxRecDepth 1000000 in
theorem neg12 (m : Nat) (a1 : Int) : cutR [] (nxR 1000 (anyR (iterN (stepF ctx) 69 (p2 (.ofNat 12) a1 (.int .i64 (.negSucc m)))))) = .inl (k0 c4) := by kernel_rfl
set_option maxRecDepth 1000000 in
theorem pos12 (a1 : Int) : cutR [] (nxR 1000 (anyR (iterN (stepF ctx) 92 (p2 (.ofNat 12) a1 (.ge .i64 1))))) = .inl (k0 c5) := by kernel_rfl
set_option maxRecDepth 1000000 in
theorem fine12 (a1 : Int) : cutR [] (nxR 1000 (anyR (iterN (stepF ctx) 145 (p2 (.ofNat 12) a1 (.int .i64 (.ofNat 0)))))) = .inl (k0 c6) := by kernel_rfl
set_option maxRecDepth 1000000 in
theorem neg13 (m : Nat) (a1 : Int) : cutR [] (nxR 1000 (anyR (iterN (stepF ctx) 69 (p2 (.ofNat 13) a1 (.int .i64 (.negSucc m)))))) = .inl (k0 c4) := by kernel_rfl
set_option maxRecDepth 1000000 in
theorem pos13 (a1 : Int) : cutR [] (nxR 1000 (anyR (iterN (stepF ctx) 92 (p2 (.ofNat 13) a1 (.ge .i64 1))))) = .inl (k0 c5) := by kernel_rfl
set_option maxRecDepth 1000000 in
theorem fine13 (a1 : Int) : cutR [] (nxR 1000 (anyR (iterN (stepF ctx) 145 (p2 (.ofNat 13) a1 (.int .i64 (.ofNat 0)))))) = .inl (k0 c6) := by kernel_rfl
set_option maxRecDepth 1000000 in
theorem neg14 (m : Nat) (a1 : Int) : cutR [] (nxR 1000 (anyR (iterN (stepF ctx) 69 (p2 (.ofNat 14) a1 (.int .i64 (.negSucc m)))))) = .inl (k0 c4) := by kernel_rfl
set_option maxRecDepth 1000000 in
theorem pos14 (a1 : Int) : cutR [] (nxR 1000 (anyR (iterN (stepF ctx) 92 (p2 (.ofNat 14) a1 (.ge .i64 1))))) = .inl (k0 c5) := by kernel_rfl
set_option maxRecDepth 1000000 in
theorem fine14 (a1 : Int) : cutR [] (nxR 1000 (anyR (iterN (stepF ctx) 145 (p2 (.ofNat 14) a1 (.int .i64 (.ofNat 0)))))) = .inl (k0 c6) := by kernel_rfl
set_option maxRecDepth 1000000 in
theorem neg15 (m : Nat) (a1 : Int) : cutR [] (nxR 1000 (anyR (iterN (stepF ctx) 69 (p2 (.ofNat 15) a1 (.int .i64 (.negSucc m)))))) = .inl (k0 c4) := by kernel_rfl
set_option maxRecDepth 1000000 in
theorem pos15 (a1 : Int) : cutR [] (nxR 1000 (anyR (iterN (stepF ctx) 92 (p2 (.ofNat 15) a1 (.ge .i64 1))))) = .inl (k0 c5) := by kernel_rfl
set_option maxRecDepth 1000000 in
theorem fine15 (a1 : Int) : cutR [] (nxR 1000 (anyR (iterN (stepF ctx) 145 (p2 (.ofNat 15) a1 (.int .i64 (.ofNat 0)))))) = .inl (k0 c6) := by kernel_rfl
set_option maxRecDepth 1000000 in
theorem ends1 : runF ctx 3000 2 (k11 c1) = true := by kernel_rfl
set_option maxRecDepth 1000000 in
theorem ends2 : runF ctx 3000 2 (k11 c2) = true := by kernel_rfl
set_option maxRecDepth 1000000 in
theorem ends3 : runF ctx 3000 2 (k11 c3) = true := by kernel_rfl
set_option maxRecDepth 1000000 in
theorem ends4 : runF ctx 3000 2 (k11 c4) = true := by kernel_rfl
set_option maxRecDepth 1000000 in
theorem ends5 : runF ctx 3000 2 (k11 c5) = true := by kernel_rfl
set_option maxRecDepth 1000000 in
theorem ends6 : runF ctx 3000 2 (k11 c6) = true := by kernel_rfl
end Go.Proofs.YtelipbpnplcofaaGreat.parentArgs
