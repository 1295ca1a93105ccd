/-
  PROVED HERE: ScriptLines: the law returns true for every input. Conditions: none but the row's own (the library's variables read as their text lays them: tied by the card).
-/
import Derived.Test.YtbpbkmhipbchbaaGreatDoorScLines
import Derived.Test.YtbpbkmhipbchbaaGreatDoorScOpen
import Derived.Test.YtbpbkmhipbchbaaGreatDoorScCard
namespace Go.Proofs.YtbpbkmhipbchbaaGreatDoor.sc.cLines
open Go.ChangeShapes Go.WideShapes Go.ChangeAt Go.RowKit
set_option linter.unusedVariables false

set_option maxRecDepth 1000000 in
/-- WHAT THE WALKS GIVE, FOR EVERY ARGUMENT. -/
theorem contract (H : Type) (enc : TypeId × Value → H) (W : World) (base : Nat) (args : Array Value) (ds gs : List (DataW H)) (before : List MemPlace)
    (hval : ∀ (j : Nat) t v, Tryz.f5.params[j]? = some t → args[j]? = some v → Value.okWide Tryz.prog W .any base t v)
    (hW : DataW.Whole enc Tryz.prog Tryz.f5.params.toList Rows.scriptLinesSpec.vars false W args.toList ds gs before) (hL : laidMetH Tryz.prog Rows.scriptLinesRow.laid W) (hS : W.ShapedOpen Tryz.prog) :
    Calls Tryz.prog 5 args W fun e W' => ∃ v, e = .returned v ∧ Rows.scriptLinesSpec.post enc Tryz.prog Tryz.f5 false true false false W args v W' := by
  have hW' := hW
  obtain ⟨p, q, hA0, hV, rfl, hfz, hnd⟩ := hW
  have hA : DataW.TrodAll enc Tryz.prog W 0 (fun _ => true) true Tryz.f5.params.toList args.toList ds p := hA0
  rw [Tryz.params5] at hA hval
  obtain ⟨v0, v1, d0, d1, p0, p1, rfl, rfl, rfl, h0, h1⟩ := trodAll_two hA
  obtain ⟨rfl, rfl⟩ := trodVars_none hV
  have hlt : ∀ x ∈ p0, x.block < W.heap.size := fun x hx => by simpa using hW'.lt x (List.mem_append_left _ (List.mem_append_left _ hx))
  obtain ⟨n, rfl, rfl, rfl, wn⟩ := open_int Tryz.underlying3 (hval 1 3 v1 rfl rfl) h1
  have fin : ∀ W', Below W.heap.size W W' → Rows.scriptLinesSpec.post enc Tryz.prog Tryz.f5 false true false false W #[v0, .int .i64 n] (.bool true) W' := fun W' hb =>
    ⟨[d0, .lit (.int .i64 n)], [], (p0 ++ []) ++ [], [], p0 ++ [], [], hW', trodAll_mk1 (shut_bool Tryz.underlying4 _), trodAll_mk2 (Below.trod laidOut (by kernel_rfl) (of_decide_eq_true (by kernel_rfl)) h0 hb hlt) (shut_int Tryz.underlying3 wn), rfl, hb.frame _, fun h => by cases h⟩
  obtain ⟨cs, rfl, hsz⟩ := okWide_struct Tryz.underlying31 (hval 0 31 v0 rfl rfl)
  obtain ⟨m, hm⟩ := h0
  obtain ⟨a, kv, hcs, hrow, T⟩ := open_act hm
  obtain rfl : cs = acC a kv := Array.toList_inj.1 hcs
  refine (lines_any a kv n hrow T (wf_i64 wn) (env_of hL hS)).mono ?_
  rintro e W' ⟨rfl, hb⟩
  exact ⟨_, rfl, fin W' hb⟩

set_option maxRecDepth 1000000 in
theorem reads (os : Os) {H : Type} (enc : TypeId × Value → H) : ∃ places, DataW.whole enc Tryz.prog ((wit os).forCall (fun _ _ => 0) ⟨#[], #[.agg #[.int .i64 0, .int .i64 0, .int .i64 0, .int .u64 0, .int .u64 0, .int .i64 0, .string ⟨#[]⟩, .int .u64 0, .int .i64 0, .slice none 0 0], .int .i64 0], []⟩).memory Tryz.f5.params.toList Rows.scriptLinesSpec.vars false (#[.agg #[.int .i64 0, .int .i64 0, .int .i64 0, .int .u64 0, .int .u64 0, .int .i64 0, .string ⟨#[]⟩, .int .u64 0, .int .i64 0, .slice none 0 0], .int .i64 0] : Array Value).toList 8 = some ([.agg [.lit (.int .i64 0), .lit (.int .i64 0), .agg [.lit (.int .i64 0), .lit (.int .u64 0), .lit (.int .u64 0), .lit (.int .i64 0), .lit (.string [])], .lit (.int .u64 0), .lit (.int .i64 0), .nil], .lit (.int .i64 0)], [], places) :=
  ⟨[], by kernel_rfl⟩

set_option maxRecDepth 100000 in
theorem lifted (os : Os) (started : os.Started) (H : Type) (enc : TypeId × Value → H) (F : Stop.Interp) :
    ReturnsInHanded {} Tryz.checked os 5 .any ((OpenSpec.ofChange Rows.scriptLinesSpec).preRow enc Tryz.prog Tryz.f5 Rows.scriptLinesRow.domain false Rows.scriptLinesRow.laid) (((OpenSpec.ofChange Rows.scriptLinesSpec).at F).post enc Tryz.prog Tryz.f5 false true false false) := by
  obtain ⟨places, hx⟩ := reads os enc
  refine returnsInHanded_of_row (C := Tryz.checked) (s := OpenSpec.ofChange Rows.scriptLinesSpec) own started (by kernel_rfl) Tryz.func5
    ⟨wit os, fun _ _ => 0, ⟨#[], #[.agg #[.int .i64 0, .int .i64 0, .int .i64 0, .int .u64 0, .int .u64 0, .int .i64 0, .string ⟨#[]⟩, .int .u64 0, .int .i64 0, .slice none 0 0], .int .i64 0], []⟩, World.laidAll_os _ _ _, wit_shaped os _, rfl, (Input.okWide_of_okWideB (by kernel_rfl)).2, OpenSpec.preRow_of_cond 8 hx (by kernel_rfl) (fun k hk => by cases hk) (by kernel_rfl) (wit_laid os _), (by simp [Assume.holds])⟩ ?_
  intro W base args ds gs before hval hW _ _ _ hL hS _
  exact contract H enc W base args ds gs before hval hW hL hS

set_option maxRecDepth 1000000 in
theorem inPlaceIs : Tryz.prog.inPlace 5 = Rows.scriptLinesRow.inPlace := by kernel_rfl
set_option maxRecDepth 1000000 in
theorem unfollowedIs : Tryz.prog.unfollowed 5 = Rows.scriptLinesRow.unfollowed := by kernel_rfl
set_option maxRecDepth 1000000 in
theorem recursesIs : Tryz.prog.recurses 5 = Rows.scriptLinesRow.recurses := by kernel_rfl
set_option maxRecDepth 1000000 in
theorem namedIs : Tryz.prog.varsNamed 5 = Rows.scriptLinesRow.named := by kernel_rfl
set_option maxRecDepth 1000000 in
theorem stopsIs : Tryz.prog.stops = [] := by kernel_rfl
set_option maxRecDepth 1000000 in
theorem knobsIs : Tryz.prog.stopKnobs = [] := by kernel_rfl
set_option maxRecDepth 1000000 in
theorem rowedIs : mapsRowed Tryz.prog = true := by kernel_rfl
set_option maxRecDepth 1000000 in
theorem heardIs : Tryz.prog.stopsHeard = true := by kernel_rfl
set_option maxRecDepth 1000000 in
theorem entersIs : Tryz.prog.mayEnter = true := by kernel_rfl
set_option maxRecDepth 1000000 in
theorem closed : joinedFacts Tryz.prog 5 Tryz.f5 Rows.scriptLinesSpec Rows.scriptLinesRow = true := by
  unfold joinedFacts
  rw [inPlaceIs, unfollowedIs, recursesIs, namedIs, stopsIs, knobsIs, laidOut, rowedIs, heardIs, entersIs]
  kernel_rfl
set_option maxRecDepth 1000000 in
theorem fnNamed : Tryz.prog.funcNamed Rows.scriptLinesRow.func = some 5 := by kernel_rfl

set_option maxRecDepth 1000000 in
theorem said : Rows.ScriptLinesSaid :=
  OpenClaim.holds_of_cond 5 Tryz.f5 rfl rfl rfl rfl rfl rfl rfl ⟨rfl, rfl, rfl, rfl, rfl⟩ rfl rfl rfl rfl rfl fnNamed Tryz.func5 closed
    (of_decide_eq_true (by kernel_rfl)) (by unfold Func.isWrapper; first | (rw [if_pos (by decide +kernel)]; kernel_rfl) | (rw [if_neg (by decide +kernel)]; exact ⟨rfl, rfl⟩))
    (fun os started H enc _ F => by rw [OpenClaim.pre_eq_preRow]; exact lifted os started H enc F)

set_option maxRecDepth 1000000 in
/-- No parameter wants a stand-in; the program's own looks are on: what the card asks. -/
theorem plain (f : FuncId) (fn : Func) (hf : Tryz.pinned.checked.prog.funcNamed Rows.scriptLinesRow.func = some f) (hfn : Tryz.pinned.checked.prog.funcs[f]? = some fn) :
    true = Tryz.pinned.checked.prog.looks [] ∧ ∀ (j : Nat) t, fn.params[j]? = some t → Tryz.pinned.checked.prog.wantsStandIn t = false := by
  obtain rfl : f = 5 := Option.some.inj (fnNamed.symm.trans hf) |>.symm
  obtain rfl : fn = Tryz.f5 := (Option.some.inj (Tryz.func5.symm.trans hfn)).symm
  refine ⟨by kernel_rfl, fun j t ht => ?_⟩
  rw [Tryz.params5] at ht
  have hm : t ∈ [31, 3] := by simpa using Array.mem_of_getElem? ht
  have hall : ([31, 3].all fun u => !Tryz.prog.wantsStandIn u) = true := by kernel_rfl
  exact (show Tryz.prog.wantsStandIn t = false by simpa using List.all_eq_true.1 hall t hm)

set_option maxRecDepth 1000000 in
/-- ████ THE CARD ████ -/
theorem card : Rows.ScriptLinesCardSaid :=
  Claim7.holds_tied_plain_at .later [] _ _ _ _ said (fun _ h => by cases h) (by kernel_rfl) (fun _ h => by cases h) scriptLines_row_tie rfl ⟨rfl, rfl⟩ (by kernel_rfl) rfl plain (by kernel_rfl)
#print axioms card
end Go.Proofs.YtbpbkmhipbchbaaGreatDoor.sc.cLines
