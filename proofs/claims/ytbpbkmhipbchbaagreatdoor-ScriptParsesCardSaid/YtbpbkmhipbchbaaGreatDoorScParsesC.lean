/-
  PROVED HERE: ScriptParses: the law returns true for every input. Conditions: none but the row's own (the library's variables read as their text lays them: tied by the card).
-/
import Derived.Test.YtbpbkmhipbchbaaGreatDoorScParses
import Derived.Test.YtbpbkmhipbchbaaGreatDoorScOpen
import Derived.Test.YtbpbkmhipbchbaaGreatDoorScCard
namespace Go.Proofs.YtbpbkmhipbchbaaGreatDoor.sc.cParses
open Go.ChangeShapes Go.WideShapes Go.ChangeAt Go.RowKit
set_option linter.unusedVariables false

set_option maxRecDepth 1000000 in
/-- WHAT THE WALKS GIVE, FOR EVERY ARGUMENT. -/
theorem contract (H : Type) (enc : TypeId × Value → H) (W : World) (base : Nat) (args : Array Value) (ds gs : List (DataW H)) (before : List MemPlace)
    (hval : ∀ (j : Nat) t v, Tryz.f7.params[j]? = some t → args[j]? = some v → Value.okWide Tryz.prog W .any base t v)
    (hW : DataW.Whole enc Tryz.prog Tryz.f7.params.toList Rows.scriptParsesSpec.vars false W args.toList ds gs before) (hL : laidMetH Tryz.prog Rows.scriptParsesRow.laid W) (hS : W.ShapedOpen Tryz.prog) :
    Calls Tryz.prog 7 args W fun e W' => ∃ v, e = .returned v ∧ Rows.scriptParsesSpec.post enc Tryz.prog Tryz.f7 false true false false W args v W' := by
  have hW' := hW
  obtain ⟨p, q, hA0, hV, rfl, hfz, hnd⟩ := hW
  have hA : DataW.TrodAll enc Tryz.prog W 0 (fun _ => true) true Tryz.f7.params.toList args.toList ds p := hA0
  rw [Tryz.params7] at hA hval
  obtain ⟨v0, d0, rfl, rfl, h0⟩ := trodAll_one hA
  obtain ⟨rfl, rfl⟩ := trodVars_none hV
  have hlt : ∀ x ∈ p, x.block < W.heap.size := fun x hx => by simpa using hW'.lt x (List.mem_append_left _ hx)
  have fin : ∀ W', Below W.heap.size W W' → Rows.scriptParsesSpec.post enc Tryz.prog Tryz.f7 false true false false W #[v0] (.bool true) W' := fun W' hb =>
    ⟨[d0], [], p ++ [], [], p, [], hW', trodAll_mk1 (shut_bool Tryz.underlying4 _), trodAll_mk1 (Below.trod laidOut (by kernel_rfl) (of_decide_eq_true (by kernel_rfl)) h0 hb hlt), rfl, hb.frame _, fun h => by cases h⟩
  obtain ⟨s, rfl⟩ := okWide_string Tryz.underlying9 (hval 0 9 v0 rfl rfl)
  obtain ⟨l, rfl⟩ : ∃ l : Bs, s = mk l := ⟨s.data.toList, (mk_data s).symm⟩
  refine (parses_any l (env_of hL hS)).mono ?_
  rintro e W' ⟨rfl, hb⟩
  exact ⟨_, rfl, fin W' hb⟩

set_option maxRecDepth 1000000 in
theorem reads (os : Os) {H : Type} (enc : TypeId × Value → H) : ∃ places, DataW.whole enc Tryz.prog ((wit os).forCall (fun _ _ => 0) ⟨#[], #[.string ⟨#[]⟩], []⟩).memory Tryz.f7.params.toList Rows.scriptParsesSpec.vars false (#[.string ⟨#[]⟩] : Array Value).toList 8 = some ([.lit (.string [])], [], places) :=
  ⟨[], by kernel_rfl⟩

set_option maxRecDepth 100000 in
theorem lifted (os : Os) (started : os.Started) (H : Type) (enc : TypeId × Value → H) (F : Stop.Interp) :
    ReturnsInHanded {} Tryz.checked os 7 .any ((OpenSpec.ofChange Rows.scriptParsesSpec).preRow enc Tryz.prog Tryz.f7 Rows.scriptParsesRow.domain false Rows.scriptParsesRow.laid) (((OpenSpec.ofChange Rows.scriptParsesSpec).at F).post enc Tryz.prog Tryz.f7 false true false false) := by
  obtain ⟨places, hx⟩ := reads os enc
  refine returnsInHanded_of_row (C := Tryz.checked) (s := OpenSpec.ofChange Rows.scriptParsesSpec) own started (by kernel_rfl) Tryz.func7
    ⟨wit os, fun _ _ => 0, ⟨#[], #[.string ⟨#[]⟩], []⟩, World.laidAll_os _ _ _, wit_shaped os _, rfl, (Input.okWide_of_okWideB (by kernel_rfl)).2, OpenSpec.preRow_of_cond 8 hx (by kernel_rfl) (fun k hk => by cases hk) (by kernel_rfl) (wit_laid os _), (by simp [Assume.holds])⟩ ?_
  intro W base args ds gs before hval hW _ _ _ hL hS _
  exact contract H enc W base args ds gs before hval hW hL hS

set_option maxRecDepth 1000000 in
theorem inPlaceIs : Tryz.prog.inPlace 7 = Rows.scriptParsesRow.inPlace := by kernel_rfl
set_option maxRecDepth 1000000 in
theorem unfollowedIs : Tryz.prog.unfollowed 7 = Rows.scriptParsesRow.unfollowed := by kernel_rfl
set_option maxRecDepth 1000000 in
theorem recursesIs : Tryz.prog.recurses 7 = Rows.scriptParsesRow.recurses := by kernel_rfl
set_option maxRecDepth 1000000 in
theorem namedIs : Tryz.prog.varsNamed 7 = Rows.scriptParsesRow.named := by kernel_rfl
set_option maxRecDepth 1000000 in
theorem stopsIs : Tryz.prog.stops = [] := by kernel_rfl
set_option maxRecDepth 1000000 in
theorem knobsIs : Tryz.prog.stopKnobs = [] := by kernel_rfl
set_option maxRecDepth 1000000 in
theorem rowedIs : mapsRowed Tryz.prog = true := by kernel_rfl
set_option maxRecDepth 1000000 in
theorem heardIs : Tryz.prog.stopsHeard = true := by kernel_rfl
set_option maxRecDepth 1000000 in
theorem entersIs : Tryz.prog.mayEnter = true := by kernel_rfl
set_option maxRecDepth 1000000 in
theorem closed : joinedFacts Tryz.prog 7 Tryz.f7 Rows.scriptParsesSpec Rows.scriptParsesRow = true := by
  unfold joinedFacts
  rw [inPlaceIs, unfollowedIs, recursesIs, namedIs, stopsIs, knobsIs, laidOut, rowedIs, heardIs, entersIs]
  kernel_rfl
set_option maxRecDepth 1000000 in
theorem fnNamed : Tryz.prog.funcNamed Rows.scriptParsesRow.func = some 7 := by kernel_rfl

set_option maxRecDepth 1000000 in
theorem said : Rows.ScriptParsesSaid :=
  OpenClaim.holds_of_cond 7 Tryz.f7 rfl rfl rfl rfl rfl rfl rfl ⟨rfl, rfl, rfl, rfl, rfl⟩ rfl rfl rfl rfl rfl fnNamed Tryz.func7 closed
    (of_decide_eq_true (by kernel_rfl)) (by unfold Func.isWrapper; first | (rw [if_pos (by decide +kernel)]; kernel_rfl) | (rw [if_neg (by decide +kernel)]; exact ⟨rfl, rfl⟩))
    (fun os started H enc _ F => by rw [OpenClaim.pre_eq_preRow]; exact lifted os started H enc F)

set_option maxRecDepth 1000000 in
/-- No parameter wants a stand-in; the program's own looks are on: what the card asks. -/
theorem plain (f : FuncId) (fn : Func) (hf : Tryz.pinned.checked.prog.funcNamed Rows.scriptParsesRow.func = some f) (hfn : Tryz.pinned.checked.prog.funcs[f]? = some fn) :
    true = Tryz.pinned.checked.prog.looks [] ∧ ∀ (j : Nat) t, fn.params[j]? = some t → Tryz.pinned.checked.prog.wantsStandIn t = false := by
  obtain rfl : f = 7 := Option.some.inj (fnNamed.symm.trans hf) |>.symm
  obtain rfl : fn = Tryz.f7 := (Option.some.inj (Tryz.func7.symm.trans hfn)).symm
  refine ⟨by kernel_rfl, fun j t ht => ?_⟩
  rw [Tryz.params7] at ht
  have hm : t ∈ [9] := by simpa using Array.mem_of_getElem? ht
  have hall : ([9].all fun u => !Tryz.prog.wantsStandIn u) = true := by kernel_rfl
  exact (show Tryz.prog.wantsStandIn t = false by simpa using List.all_eq_true.1 hall t hm)

set_option maxRecDepth 1000000 in
/-- ████ THE CARD ████ -/
theorem card : Rows.ScriptParsesCardSaid :=
  Claim7.holds_tied_plain_at .later [] _ _ _ _ said (fun _ h => by cases h) (by kernel_rfl) (fun _ h => by cases h) scriptParses_row_tie rfl ⟨rfl, rfl⟩ (by kernel_rfl) rfl plain (by kernel_rfl)
#print axioms card
end Go.Proofs.YtbpbkmhipbchbaaGreatDoor.sc.cParses
