/-
  PROVED HERE: ParentArgs returns true, whatever its arguments are: which parents are none.
  Conditions: none.
  How: an evaluator of its own (the texts Lev..), that is proved to do what the machine does, is run by the kernel, in parts (the texts ParentArgsRun..), from the call to its answer. The frame of the last step was written by the seat's proof-skeleton program.
-/
import Derived.Test.YtelipbpnplcofaaGreatRows
import Derived.WalkKit
import Derived.ProofKit
import Derived.OpenShut
import Derived.Test.YtelipbpnplcofaaGreatParentArgsRun
namespace Go.Proofs.YtelipbpnplcofaaGreat.parentArgs
open Go.ChangeShapes Go.WideShapes Go.ChangeAt Go.RowKit
set_option linter.unusedVariables false

theorem own : ownKnob Tryz.prog.godebug = none := by kernel_rfl

/-! ### THE ROW's STEP: WRITTEN OUT: LEAVE IT -/
set_option maxRecDepth 100000 in
theorem lifted (os : Os) (started : os.Started) (H : Type) (enc : TypeId × Value → H) :
    ReturnsInHanded {} Tryz.checked os 4 .any (Rows.parentArgsSpec.pre6 enc Tryz.prog Tryz.f4 Rows.parentArgsRow.domain false) (Rows.parentArgsSpec.post enc Tryz.prog Tryz.f4 false true false false) := by
  refine returnsInHanded_of_change (C := Tryz.checked) own started (by kernel_rfl) Tryz.func4
    (ChangeSpec.witness6 (enc := enc) (C := Tryz.checked) false ⟨#[], #[.int .i64 0, .int .u64 0, .int .i64 0], []⟩ 8 (by kernel_rfl) (by kernel_rfl) (by kernel_rfl) (by kernel_rfl)) ?_
  intro W base args ds gs before hval0 hW hcnd _
  have hval : ∀ (j : Nat) t v, Tryz.f4.params[j]? = some t → args[j]? = some v → Value.okWide Tryz.prog W .any base t v := hval0
  have hW' := hW
  obtain ⟨p, q, hA0, hV, rfl, hfz, hnd⟩ := hW
  have hA : DataW.TrodAll enc Tryz.prog W 0 (fun _ => true) true Tryz.f4.params.toList args.toList ds p := hA0
  rw [Tryz.params4] at hA hval
  obtain ⟨v0, vs0, d0, ds0, p0, q0, hargs, rfl, rfl, h0, r0⟩ := trodAll_cons hA
  obtain ⟨v1, vs1, d1, ds1, p1, q1, rfl, rfl, rfl, h1, r1⟩ := trodAll_cons r0
  obtain ⟨v2, vs2, d2, ds2, p2, q2, rfl, rfl, rfl, h2, r2⟩ := trodAll_cons r1
  obtain ⟨rfl, rfl, rfl⟩ := trodAll_nil r2
  obtain rfl : args = #[v0, v1, v2] := by cases args; simp_all
  obtain ⟨rfl, rfl⟩ := trodVars_none hV
  obtain ⟨a0, rfl, rfl, rfl, w0⟩ := open_int Tryz.underlying3 (hval 0 3 v0 rfl rfl) h0
  obtain ⟨a1, rfl, rfl, rfl, w1⟩ := open_int Tryz.underlying25 (hval 1 25 v1 rfl rfl) h1
  obtain ⟨a2, rfl, rfl, rfl, w2⟩ := open_int Tryz.underlying3 (hval 2 3 v2 rfl rfl) h2
  clear hA0 hval0
  simp only [List.append_nil] at hW'
  refine (walk a0 a1 a2 W).mono fun e W' ⟨he, hg⟩ => ?_
  subst he
  exact ⟨_, rfl, ⟨_, _, _, [], [], [], hW', (trodAll_cons_mk (shut_bool Tryz.underlying4 _) trodAll_mk0), (trodAll_cons_mk (shut_int Tryz.underlying3 w0) (trodAll_cons_mk (shut_int Tryz.underlying25 w1) (trodAll_cons_mk (shut_int Tryz.underlying3 w2) trodAll_mk0))), rfl, World.keptBut_mono (fun _ h => h.elim) hg, fun h => Bool.noConfusion h⟩⟩

set_option maxRecDepth 1000000 in
theorem inPlaceIs : Tryz.prog.inPlace 4 = Rows.parentArgsRow.inPlace := by kernel_rfl
set_option maxRecDepth 1000000 in
theorem unfollowedIs : Tryz.prog.unfollowed 4 = Rows.parentArgsRow.unfollowed := by kernel_rfl
set_option maxRecDepth 1000000 in
theorem recursesIs : Tryz.prog.recurses 4 = Rows.parentArgsRow.recurses := by kernel_rfl
set_option maxRecDepth 1000000 in
theorem namedIs : Tryz.prog.varsNamed 4 = Rows.parentArgsRow.named := by kernel_rfl
set_option maxRecDepth 1000000 in
theorem stopsIs : Tryz.prog.stops = [] := by kernel_rfl
set_option maxRecDepth 1000000 in
theorem knobsIs : Tryz.prog.stopKnobs = [] := by kernel_rfl
set_option maxRecDepth 1000000 in
theorem laidIs : laidOutB Tryz.prog = true := by kernel_rfl
set_option maxRecDepth 1000000 in
theorem rowedIs : mapsRowed Tryz.prog = true := by kernel_rfl
set_option maxRecDepth 1000000 in
theorem heardIs : Tryz.prog.stopsHeard = true := by kernel_rfl
set_option maxRecDepth 1000000 in
theorem entersIs : Tryz.prog.mayEnter = true := by kernel_rfl
set_option maxRecDepth 1000000 in
theorem closed : joinedFacts Tryz.prog 4 Tryz.f4 Rows.parentArgsSpec Rows.parentArgsRow = true := by
  unfold joinedFacts
  rw [inPlaceIs, unfollowedIs, recursesIs, namedIs, stopsIs, knobsIs, laidIs, rowedIs, heardIs, entersIs]
  kernel_rfl
set_option maxRecDepth 1000000 in
theorem fnNamed : Tryz.prog.funcNamed Rows.parentArgsRow.func = some 4 := by kernel_rfl

theorem over : Rows.parentArgsRow.holds Tryz.pinned (OpenSpec.ofChange Rows.parentArgsSpec) :=
  OpenClaim.holds_of_wide 4 Tryz.f4 rfl rfl rfl rfl rfl rfl rfl ⟨rfl, rfl, rfl, rfl, rfl⟩ rfl rfl rfl rfl rfl fnNamed Tryz.func4 closed
    (of_decide_eq_true (by kernel_rfl)) (by unfold Func.isWrapper; first | (rw [if_pos (by decide +kernel)]; kernel_rfl) | (rw [if_neg (by decide +kernel)]; exact ⟨rfl, rfl⟩))
    (fun os started H enc _ => lifted os started H enc)

/-- ████ THE STATEMENT ████ -/
theorem proved : Rows.ParentArgsSaid :=
  over
#print axioms proved
end Go.Proofs.YtelipbpnplcofaaGreat.parentArgs
