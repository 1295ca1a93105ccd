/-
  PROVED HERE: EngineNil returns true: what is answered of no world, of a zero one, and of images and clients that may not be.
  Conditions: none.
  How: an evaluator of its own (the texts Lev..), that is proved to do what the machine does, is run by the kernel, in parts (the texts EngineNilRun..), from the call to its answer. The frame of the last step was written by the seat's proof-skeleton program.
-/
import Derived.Test.YtakcddbpblookaaGreatRows
import Derived.WalkKit
import Derived.ProofKit
import Derived.OpenShut
import Derived.Test.YtakcddbpblookaaGreatEngineNilRun
namespace Go.Proofs.YtakcddbpblookaaGreat.engineNil
open Go.ChangeShapes Go.WideShapes Go.ChangeAt Go.RowKit
set_option linter.unusedVariables false

theorem own : ownKnob Tryz.prog.godebug = none := by kernel_rfl

/-! ### THE ROW's STEP: WRITTEN OUT: LEAVE IT -/
set_option maxRecDepth 100000 in
theorem lifted (os : Os) (started : os.Started) (H : Type) (enc : TypeId × Value → H) :
    ReturnsInHanded {} Tryz.checked os 3 .any (Rows.engineNilSpec.pre6 enc Tryz.prog Tryz.f3 Rows.engineNilRow.domain false) (Rows.engineNilSpec.post enc Tryz.prog Tryz.f3 false true false false) := by
  refine returnsInHanded_of_change (C := Tryz.checked) own started (by kernel_rfl) Tryz.func3
    (ChangeSpec.witness6 (enc := enc) (C := Tryz.checked) false ⟨#[], #[], []⟩ 8 (by kernel_rfl) (by kernel_rfl) (by kernel_rfl) (by kernel_rfl)) ?_
  intro W base args ds gs before hval0 hW hcnd _
  have hval : ∀ (j : Nat) t v, Tryz.f3.params[j]? = some t → args[j]? = some v → Value.okWide Tryz.prog W .any base t v := hval0
  have hW' := hW
  obtain ⟨p, q, hA0, hV, rfl, hfz, hnd⟩ := hW
  have hA : DataW.TrodAll enc Tryz.prog W 0 (fun _ => true) true Tryz.f3.params.toList args.toList ds p := hA0
  rw [Tryz.params3] at hA hval
  obtain ⟨rfl, rfl, rfl⟩ := trodAll_none hA
  obtain ⟨rfl, rfl⟩ := trodVars_none hV
  clear hA0 hval0
  simp only [List.append_nil] at hW'
  refine (walk  W).mono fun e W' ⟨he, hg⟩ => ?_
  subst he
  exact ⟨_, rfl, ⟨_, _, _, [], [], [], hW', (trodAll_cons_mk (shut_bool Tryz.underlying4 _) trodAll_mk0), rfl, rfl, World.keptBut_mono (fun _ h => h.elim) hg, fun h => Bool.noConfusion h⟩⟩

set_option maxRecDepth 1000000 in
theorem inPlaceIs : Tryz.prog.inPlace 3 = Rows.engineNilRow.inPlace := by kernel_rfl
set_option maxRecDepth 1000000 in
theorem unfollowedIs : Tryz.prog.unfollowed 3 = Rows.engineNilRow.unfollowed := by kernel_rfl
set_option maxRecDepth 1000000 in
theorem recursesIs : Tryz.prog.recurses 3 = Rows.engineNilRow.recurses := by kernel_rfl
set_option maxRecDepth 1000000 in
theorem namedIs : Tryz.prog.varsNamed 3 = Rows.engineNilRow.named := by kernel_rfl
set_option maxRecDepth 1000000 in
theorem stopsIs : Tryz.prog.stops = [] := by kernel_rfl
set_option maxRecDepth 1000000 in
theorem knobsIs : Tryz.prog.stopKnobs = [] := by kernel_rfl
set_option maxRecDepth 1000000 in
theorem laidIs : laidOutB Tryz.prog = true := by kernel_rfl
set_option maxRecDepth 1000000 in
theorem rowedIs : mapsRowed Tryz.prog = true := by kernel_rfl
set_option maxRecDepth 1000000 in
theorem heardIs : Tryz.prog.stopsHeard = true := by kernel_rfl
set_option maxRecDepth 1000000 in
theorem entersIs : Tryz.prog.mayEnter = true := by kernel_rfl
set_option maxRecDepth 1000000 in
theorem closed : joinedFacts Tryz.prog 3 Tryz.f3 Rows.engineNilSpec Rows.engineNilRow = true := by
  unfold joinedFacts
  rw [inPlaceIs, unfollowedIs, recursesIs, namedIs, stopsIs, knobsIs, laidIs, rowedIs, heardIs, entersIs]
  kernel_rfl
set_option maxRecDepth 1000000 in
theorem fnNamed : Tryz.prog.funcNamed Rows.engineNilRow.func = some 3 := by kernel_rfl

theorem over : Rows.engineNilRow.holds Tryz.pinned (OpenSpec.ofChange Rows.engineNilSpec) :=
  OpenClaim.holds_of_wide 3 Tryz.f3 rfl rfl rfl rfl rfl rfl rfl ⟨rfl, rfl, rfl, rfl, rfl⟩ rfl rfl rfl rfl rfl fnNamed Tryz.func3 closed
    (of_decide_eq_true (by kernel_rfl)) (by unfold Func.isWrapper; first | (rw [if_pos (by decide +kernel)]; kernel_rfl) | (rw [if_neg (by decide +kernel)]; exact ⟨rfl, rfl⟩))
    (fun os started H enc _ => lifted os started H enc)

/-- ████ THE STATEMENT ████ -/
theorem proved : Rows.EngineNilSaid :=
  over
#print axioms proved
end Go.Proofs.YtakcddbpblookaaGreat.engineNil
