/-
  PROVED HERE: TearNil returns true: what is answered of no memory, and of no world.
  Conditions: none.
  How: an evaluator of its own (the texts Lev..), that is proved to do what the machine does, is run by the kernel from the call to its answer. The frame of the last step was written by the seat's proof-skeleton program.
-/
import Derived.Test.YtolkmdlffbomeaaGreatRows
import Derived.WalkKit
import Derived.ProofKit
import Derived.OpenShut
import Derived.Test.YtolkmdlffbomeaaGreatLevD
namespace Go.Proofs.YtolkmdlffbomeaaGreat.tearNil
open Go.ChangeShapes Go.WideShapes Go.ChangeAt Go.RowKit
set_option linter.unusedVariables false

theorem own : ownKnob Tryz.prog.godebug = none := by kernel_rfl

set_option maxRecDepth 1000000 in
theorem cloneFirst : (Tryz.f141.name == "runtime.NumGoroutine") = false := by kernel_rfl
set_option maxRecDepth 1000000 in
theorem cloneNext : Extern.findNext Tryz.f141 = none := by kernel_rfl
set_option maxRecDepth 1000000 in
theorem cloneFind : Extern.find Tryz.f141 = some Extern.MapsClone.clone := by kernel_rfl
/-- the evaluator's tables say what the program's say -/
theorem tables : Go.Lev.CtxOk Tryz.prog (Go.Lev.ctxOf Tryz.prog) :=
  Go.Lev.ctxOk_clone (n := 141) (by kernel_rfl) (by kernel_rfl) (by kernel_rfl) Tryz.func141 cloneFirst cloneNext cloneFind
set_option maxRecDepth 1000000 in
/-- the run of the evaluator, by the kernel -/
theorem runs : Go.Lev.runB (Go.Lev.ctxOf Tryz.prog) 3 6000 4 = true := by kernel_rfl
theorem walk (w : World) :
    Calls Tryz.prog 3 #[] w fun e w' => e = .returned (.bool true) ∧ w.keptBut w' (fun _ => False) :=
  Go.Lev.calls_of_run tables runs w

/-! ### THE ROW's STEP: WRITTEN OUT: LEAVE IT -/
set_option maxRecDepth 100000 in
theorem lifted (os : Os) (started : os.Started) (H : Type) (enc : TypeId × Value → H) :
    ReturnsInHanded {} Tryz.checked os 3 .any (Rows.tearNilSpec.pre6 enc Tryz.prog Tryz.f3 Rows.tearNilRow.domain false) (Rows.tearNilSpec.post enc Tryz.prog Tryz.f3 false true false false) := by
  refine returnsInHanded_of_change (C := Tryz.checked) own started (by kernel_rfl) Tryz.func3
    (ChangeSpec.witness6 (enc := enc) (C := Tryz.checked) false ⟨#[], #[], []⟩ 8 (by kernel_rfl) (by kernel_rfl) (by kernel_rfl) (by kernel_rfl)) ?_
  intro W base args ds gs before hval0 hW hcnd _
  have hval : ∀ (j : Nat) t v, Tryz.f3.params[j]? = some t → args[j]? = some v → Value.okWide Tryz.prog W .any base t v := hval0
  have hW' := hW
  obtain ⟨p, q, hA0, hV, rfl, hfz, hnd⟩ := hW
  have hA : DataW.TrodAll enc Tryz.prog W 0 (fun _ => true) true Tryz.f3.params.toList args.toList ds p := hA0
  rw [Tryz.params3] at hA hval
  obtain ⟨rfl, rfl, rfl⟩ := trodAll_none hA
  obtain ⟨rfl, rfl⟩ := trodVars_none hV
  clear hA0 hval0
  simp only [List.append_nil] at hW'
  refine (walk  W).mono fun e W' ⟨he, hg⟩ => ?_
  subst he
  exact ⟨_, rfl, ⟨[], [], _, [], [], [], hW', trodAll_cons_mk (shut_bool Tryz.underlying4 _) trodAll_mk0, rfl, rfl, World.keptBut_mono (fun _ h => h.elim) hg, fun h => Bool.noConfusion h⟩⟩

theorem over : Rows.tearNilRow.holds Tryz.pinned (OpenSpec.ofChange Rows.tearNilSpec) :=
  OpenClaim.holds_of_wide 3 Tryz.f3 rfl rfl rfl rfl rfl rfl rfl ⟨rfl, rfl, rfl, rfl, rfl⟩ rfl rfl rfl rfl rfl (by kernel_rfl) Tryz.func3 (by kernel_rfl)
    (of_decide_eq_true (by kernel_rfl)) (by unfold Func.isWrapper; first | (rw [if_pos (by decide +kernel)]; kernel_rfl) | (rw [if_neg (by decide +kernel)]; exact ⟨rfl, rfl⟩))
    (fun os started H enc _ => lifted os started H enc)

/-- ████ THE STATEMENT ████ -/
theorem proved : Rows.TearNilSaid :=
  over
#print axioms proved
end Go.Proofs.YtolkmdlffbomeaaGreat.tearNil
