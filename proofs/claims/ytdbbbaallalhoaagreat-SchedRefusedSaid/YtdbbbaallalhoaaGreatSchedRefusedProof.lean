/-
  PROVED HERE: SchedRefused returns true; its arguments read as they did.
  Conditions: none.
-/
import Derived.Test.YtdbbbaallalhoaaGreatRows
import Derived.WalkKit
import Derived.ProofKit
import Derived.OpenShut
import Derived.Carry
import Derived.Deep.Slices
import Derived.Lib.SmallJoins
import Derived.Test.YtdbbbaallalhoaaGreatSiN
namespace Go.Proofs.YtdbbbaallalhoaaGreat.schedRefused
open Go.Joins Go.Deep Go.ChangeShapes Go.WideShapes Go.ChangeAt Go.RowKit Go.Proofs.YtdbbbaallalhoaaGreat.pm Go.Proofs.YtdbbbaallalhoaaGreat.si
set_option linter.unusedVariables false

set_option maxRecDepth 1000000 in
theorem own : ownKnob Tryz.prog.godebug = none := by kernel_rfl
set_option maxRecDepth 1000000 in
theorem laidOut : laidOutB Tryz.prog = true := by kernel_rfl

theorem wf_u64 {n : Int} (h : (Lit.int .u64 n).wf = true) : U64 n := by
  simp only [Lit.wf, Bool.and_eq_true, decide_eq_true_eq] at h
  exact h
set_option maxRecDepth 1000000 in
theorem typesLaid : Tryz.prog.cellTypes Tryz.prog.depth 24 = some [3, 22, 3, 3] := by kernel_rfl
set_option maxRecDepth 1000000 in
theorem oneU64 : Tryz.prog.cellsOf 26 = 1 := by kernel_rfl

set_option maxRecDepth 1000000 in
/-- A slice of numbers that came in: what is read of it. -/
theorem words_open {H : Type} {enc : TypeId × Value → H} {w : World} {v : Value} {x : DataW H × List MemPlace} {b0 fuel : Nat} (hv : Cell.okWide Tryz.prog w .any b0 22 v) (hf : DataW.trod enc Tryz.prog w 0 (fun _ => true) true fuel 22 [v] = some x) :
    ∃ qs : List Int, Reads w v qs.length (qs.map (Value.int .u64)) ∧ (∀ q ∈ qs, U64 q) ∧ qs.length ≤ 9223372036854775807 := by
  rcases Go.Deep.open_slice Tryz.underlying22 hf with ⟨hcs, _⟩ | ⟨a, len', cap', m, nn, D, Pl, hcs, _, hlc, hcm, hm, _, hx⟩
  · cases hcs
    exact ⟨[], .inl ⟨rfl, rfl, rfl⟩, by simp, by simp⟩
  · cases hcs
    have hsp : a.spot = none := by
      have := hv
      simp only [Cell.okWide, Cell.ok, Tryz.underlying22, World.has] at this
      exact this.2.2.2.1
    obtain ⟨ab, aof, asp⟩ := a
    cases hsp
    simp only [if_true] at hm
    rw [oneU64] at hx
    obtain ⟨V, hV⟩ := Go.Deep.choose_lt (α := Int) (n := len') (p := fun i q => w.cell? ⟨ab, aof + i, none⟩ = some (.int .u64 q) ∧ U64 q) (fun i hi => by
      obtain ⟨cs', h1, h3⟩ := hx i (by omega)
      obtain ⟨n0, e0, _, w0⟩ := DataW.trod_int Tryz.underlying26 h3
      subst e0
      simp [World.cells?, List.range_succ, addr_add] at h1
      refine ⟨n0, ?_, wf_u64 w0⟩
      cases q0 : w.cell? ⟨ab, aof + i, none⟩ with
      | none => rw [q0] at h1; simp at h1
      | some x0 => rw [q0] at h1; simp at h1; rw [h1])
    refine ⟨(List.range len').map V, .inr ⟨⟨ab, aof, none⟩, cap', by simp, rfl, fun j u hj => ?_⟩, fun q hq => ?_, ?_⟩
    · rw [List.map_map, List.getElem?_map] at hj
      obtain ⟨i, hi, rfl⟩ := Option.map_eq_some_iff.1 hj
      obtain ⟨hi2, rfl⟩ := List.getElem?_eq_some_iff.1 hi
      rw [List.length_range] at hi2
      rw [List.getElem_range]
      exact (hV j hi2).1
    · obtain ⟨i, hi, rfl⟩ := List.mem_map.1 hq
      exact (hV i (List.mem_range.1 hi)).2
    · simp only [List.length_map, List.length_range]
      unfold maxLen at hcm
      omega
set_option maxRecDepth 1000000 in
/-- An arena's description that came in. -/
theorem laid_open {H : Type} {enc : TypeId × Value → H} {w : World} {v : Value} {d : DataW H} {ps : List MemPlace} {b0 : Nat} (hv : Value.okWide Tryz.prog w .any b0 24 v) (h : DataW.Trod enc Tryz.prog w 0 (fun _ => true) true 24 v d ps) :
    ∃ (S per lag : Int) (kv : Value) (ks : List Int), v = .agg (ldArr S kv per lag) ∧ Reads w kv ks.length (ks.map (Value.int .u64)) ∧ (∀ k ∈ ks, U64 k) ∧ ks.length ≤ 9223372036854775807 := by
  have hv2 := hv
  simp only [Value.okWide, Tryz.underlying24] at hv2
  obtain ⟨cs, hcs, _, ts, hts, _, hcell⟩ := hv2
  rw [typesLaid] at hts
  cases hts
  obtain ⟨v0, v1, v2, v3, y0, y1, y2, y3, n, rfl, _, _, f0, f1, f2, f3⟩ := open_agg4 Tryz.underlying24 (by kernel_rfl) (by kernel_rfl) hv h
  cases hcs
  obtain ⟨S, e0, _, _⟩ := DataW.trod_int Tryz.underlying3 f0
  obtain ⟨per, e2, _, _⟩ := DataW.trod_int Tryz.underlying3 f2
  obtain ⟨lag, e3, _, _⟩ := DataW.trod_int Tryz.underlying3 f3
  cases e0; cases e2; cases e3
  obtain ⟨u, hu, hc⟩ := hcell 1 v1 rfl
  cases hu
  obtain ⟨ks, hr, hq, hl2⟩ := words_open hc f1
  exact ⟨S, per, lag, v1, ks, rfl, hr, hq, hl2⟩
/-- A struct of five fields of one cell each. -/
theorem open_agg5 {H : Type} {enc : TypeId × Value → H} {P : Program} {w : World} {base : Nat} {spare : Nat → Bool} {held : Bool} {r : Reach} {b0 : Nat} {t : TypeId} {f0 f1 f2 f3 f4 : Field} {v : Value} {d : DataW H} {p : List MemPlace}
    (hs : P.underlying t = some (.struct #[f0, f1, f2, f3, f4])) (hone : oneCellFields P #[f0, f1, f2, f3, f4] = true) (hC : P.cellsOf t = 5)
    (hv : Value.okWide P w r b0 t v) (h : DataW.Trod enc P w base spare held t v d p) :
    ∃ (v0 v1 v2 v3 v4 : Value) (y0 y1 y2 y3 y4 : DataW H × List MemPlace) (n : Nat), v = .agg #[v0, v1, v2, v3, v4] ∧
      DataW.trod enc P w base spare held n f0.type [v0] = some y0 ∧ DataW.trod enc P w base spare held n f1.type [v1] = some y1 ∧ DataW.trod enc P w base spare held n f2.type [v2] = some y2 ∧ DataW.trod enc P w base spare held n f3.type [v3] = some y3 ∧ DataW.trod enc P w base spare held n f4.type [v4] = some y4 := by
  obtain ⟨cs, rfl, hsz⟩ := okWide_struct hs hv
  rw [hC] at hsz
  obtain ⟨l⟩ := cs
  obtain ⟨c0, c1, c2, c3, c4, rfl⟩ : ∃ c0 c1 c2 c3 c4, l = [c0, c1, c2, c3, c4] := by
    match l, hsz with
    | [c0, c1, c2, c3, c4], _ => exact ⟨c0, c1, c2, c3, c4, rfl⟩
  obtain ⟨fuel, hf⟩ := h
  obtain ⟨xs, n, _, _, hl, hlen, hfl⟩ := DataW.trod_struct hs hf
  obtain ⟨o0, k0⟩ := hone_of hone 0 f0 rfl
  obtain ⟨o1, k1⟩ := hone_of hone 1 f1 rfl
  obtain ⟨o2, k2⟩ := hone_of hone 2 f2 rfl
  obtain ⟨o3, k3⟩ := hone_of hone 3 f3 rfl
  obtain ⟨o4, k4⟩ := hone_of hone 4 f4 rfl
  match xs, hlen with
  | [y0, y1, y2, y3, y4], _ =>
    have h0 := hfl 0 f0 rfl
    have h1 := hfl 1 f1 rfl
    have h2 := hfl 2 f2 rfl
    have h3 := hfl 3 f3 rfl
    have h4 := hfl 4 f4 rfl
    exact ⟨c0, c1, c2, c3, c4, y0, y1, y2, y3, y4, n, rfl, by simpa [Value.cells, o0, k0] using h0, by simpa [Value.cells, o1, k1] using h1, by simpa [Value.cells, o2, k2] using h2, by simpa [Value.cells, o3, k3] using h3, by simpa [Value.cells, o4, k4] using h4⟩
set_option maxRecDepth 1000000 in
/-- A call that came in. -/
theorem call_open {H : Type} {enc : TypeId × Value → H} {w : World} {v : Value} {d : DataW H} {ps : List MemPlace} {b0 : Nat} (hv : Value.okWide Tryz.prog w .any b0 28 v) (h : DataW.Trod enc Tryz.prog w 0 (fun _ => true) true 28 v d ps) :
    ∃ (op k hi l : Int) (s : ByteArray), v = .agg (caArr op k hi l s) := by
  obtain ⟨v0, v1, v2, v3, v4, y0, y1, y2, y3, y4, n, rfl, f0, f1, f2, f3, f4⟩ := open_agg5 Tryz.underlying28 (by kernel_rfl) (by kernel_rfl) hv h
  obtain ⟨op, e0, _, _⟩ := DataW.trod_int Tryz.underlying25 f0
  obtain ⟨k, e1, _, _⟩ := DataW.trod_int Tryz.underlying26 f1
  obtain ⟨hi, e2, _, _⟩ := DataW.trod_int Tryz.underlying26 f2
  obtain ⟨l, e3, _, _⟩ := DataW.trod_int Tryz.underlying3 f3
  obtain ⟨s, e4, _⟩ := DataW.trod_string Tryz.underlying9 f4
  cases e0; cases e1; cases e2; cases e3; cases e4
  exact ⟨op, k, hi, l, s, rfl⟩

/-- the walk -/
theorem walk (w : World) (S per lag c op k hi l : Int) (s : ByteArray) {kv : Value} {ks : List Int} (hr : Reads w kv ks.length (ks.map (Value.int .u64))) (hq : ∀ k ∈ ks, U64 k) (hl : ks.length ≤ 9223372036854775807) :
    Calls Tryz.prog 3 #[.agg (ldArr S kv per lag), .int .i64 c, .agg (caArr op k hi l s)] w fun e W' => e = .returned (.bool true) ∧ KB w W' :=
  (refused_any known_any S per lag hr hq hl c op k hi l s).mono fun e w' ⟨h1, h2⟩ => ⟨h1, KB.of_keeps h2⟩

theorem KB.same {w w' : World} (h : KB w w') {p : MemPlace} (hp : p.block < w.heap.size) : w.sameAt w' p := by
  cases p with
  | cell b o => exact World.cell?_of_block (w := w) (h.2.2 b hp)
  | map b => exact h.2.2 b hp

set_option maxRecDepth 1000000 in
theorem readInt : Tryz.prog.readableRec 3 = true := by kernel_rfl
set_option maxRecDepth 1000000 in
theorem readLaid : Tryz.prog.readableRec 24 = true := by kernel_rfl
set_option maxRecDepth 1000000 in
theorem readCall : Tryz.prog.readableRec 28 = true := by kernel_rfl
set_option maxRecDepth 1000000 in
theorem rowInt : 3 < Tryz.prog.types.size := of_decide_eq_true (by kernel_rfl)
set_option maxRecDepth 1000000 in
theorem rowLaid : 24 < Tryz.prog.types.size := of_decide_eq_true (by kernel_rfl)
set_option maxRecDepth 1000000 in
theorem rowCall : 28 < Tryz.prog.types.size := of_decide_eq_true (by kernel_rfl)
/-! ### THE ROW's STEP -/
set_option maxRecDepth 100000 in
theorem lifted (os : Os) (started : os.Started) (H : Type) (enc : TypeId × Value → H) :
    ReturnsInHanded {} Tryz.checked os 3 .any (Rows.schedRefusedSpec.pre6 enc Tryz.prog Tryz.f3 Rows.schedRefusedRow.domain false) (Rows.schedRefusedSpec.post enc Tryz.prog Tryz.f3 false true false false) := by
  refine returnsInHanded_of_change (C := Tryz.checked) own started (by kernel_rfl) Tryz.func3
    (ChangeSpec.witness6 (enc := enc) (C := Tryz.checked) false ⟨#[], #[.agg #[.int .i64 0, .slice none 0 0, .int .i64 0, .int .i64 0], .int .i64 0, .agg #[.int .i64 0, .int .u64 0, .int .u64 0, .int .i64 0, .string ByteArray.empty]], []⟩ 8 (by kernel_rfl) (by kernel_rfl) (by kernel_rfl) (by kernel_rfl)) ?_
  intro W base args ds gs before hval0 hW hcnd _
  have hval : ∀ (j : Nat) t v, Tryz.f3.params[j]? = some t → args[j]? = some v → Value.okWide Tryz.prog W .any base t v := hval0
  have hW' := hW
  obtain ⟨p, q, hA0, hV, rfl, hfz, hnd⟩ := hW
  have hA : DataW.TrodAll enc Tryz.prog W 0 (fun _ => true) true Tryz.f3.params.toList args.toList ds p := hA0
  rw [Tryz.params3] at hA hval
  obtain ⟨v0, v1, v2, d0, d1, d2, p0, p1, p2, rfl, rfl, rfl, h0, h1, h2⟩ := trodAll_three hA
  obtain ⟨rfl, rfl⟩ := trodVars_none hV
  clear hA0 hval0
  simp only [List.append_nil] at hW'
  have hlt : ∀ x ∈ p0 ++ p1 ++ p2, x.block < W.heap.size := fun x hx => hW'.lt x hx
  have k0 := h0
  have k1 := h1
  have k2 := h2
  obtain ⟨S, per, lag, kv, ks, rfl, hr, hq, hl⟩ := laid_open (hval 0 _ _ rfl rfl) h0
  obtain ⟨c, rfl, _, _, wc⟩ := open_int Tryz.underlying3 (hval 1 _ _ rfl rfl) h1
  obtain ⟨op, k, hi, l, s, rfl⟩ := call_open (hval 2 _ _ rfl rfl) h2
  refine (walk W S per lag c op k hi l s hr hq hl).mono fun e W' ⟨he, hg⟩ => ?_
  subst he
  have rd : ∀ {t : TypeId} {v : Value} {d : DataW H} {ps : List MemPlace} (hr : Tryz.prog.readableRec t = true) (hrow : t < Tryz.prog.types.size), DataW.Trod enc Tryz.prog W 0 (fun _ => true) true t v d ps → (∀ x ∈ ps, x.block < W.heap.size) → DataW.Trod enc Tryz.prog W' 0 (fun b => decide (b < W.heap.size)) true t v d ps :=
    fun hr hrow h hx => WideElems.Trod_stays laidOut hr hrow h (fun x hxm => KB.same hg (hx x hxm)) (fun x hxm => by simpa using hx x hxm)
  exact ⟨_, rfl, ⟨_, _, _, [], _, [], hW', trodAll_cons_mk (shut_bool Tryz.underlying4 _) trodAll_mk0,
    trodAll_mk3 (rd readLaid rowLaid k0 fun x hx => hlt x (by simp [hx])) (rd readInt rowInt k1 fun x hx => hlt x (by simp [hx])) (rd readCall rowCall k2 fun x hx => hlt x (by simp [hx])),
    rfl, World.keptBut_mono (fun _ h => h.elim) hg.but, fun h => Bool.noConfusion h⟩⟩

set_option maxRecDepth 1000000 in
theorem inPlaceIs : Tryz.prog.inPlace 3 = Rows.schedRefusedRow.inPlace := by kernel_rfl
set_option maxRecDepth 1000000 in
theorem unfollowedIs : Tryz.prog.unfollowed 3 = Rows.schedRefusedRow.unfollowed := by kernel_rfl
set_option maxRecDepth 1000000 in
theorem recursesIs : Tryz.prog.recurses 3 = Rows.schedRefusedRow.recurses := by kernel_rfl
set_option maxRecDepth 1000000 in
theorem namedIs : Tryz.prog.varsNamed 3 = Rows.schedRefusedRow.named := by kernel_rfl
set_option maxRecDepth 1000000 in
theorem stopsIs : Tryz.prog.stops = [] := by kernel_rfl
set_option maxRecDepth 1000000 in
theorem knobsIs : Tryz.prog.stopKnobs = [] := by kernel_rfl
set_option maxRecDepth 1000000 in
theorem laidIs : laidOutB Tryz.prog = true := by kernel_rfl
set_option maxRecDepth 1000000 in
theorem rowedIs : mapsRowed Tryz.prog = true := by kernel_rfl
set_option maxRecDepth 1000000 in
theorem heardIs : Tryz.prog.stopsHeard = true := by kernel_rfl
set_option maxRecDepth 1000000 in
theorem entersIs : Tryz.prog.mayEnter = true := by kernel_rfl
set_option maxRecDepth 1000000 in
theorem closed : joinedFacts Tryz.prog 3 Tryz.f3 Rows.schedRefusedSpec Rows.schedRefusedRow = true := by
  unfold joinedFacts
  rw [inPlaceIs, unfollowedIs, recursesIs, namedIs, stopsIs, knobsIs, laidIs, rowedIs, heardIs, entersIs]
  kernel_rfl
set_option maxRecDepth 1000000 in
theorem fnNamed : Tryz.prog.funcNamed Rows.schedRefusedRow.func = some 3 := by kernel_rfl

theorem over : Rows.schedRefusedRow.holds Tryz.pinned (OpenSpec.ofChange Rows.schedRefusedSpec) :=
  OpenClaim.holds_of_wide 3 Tryz.f3 rfl rfl rfl rfl rfl rfl rfl ⟨rfl, rfl, rfl, rfl, rfl⟩ rfl rfl rfl rfl rfl fnNamed Tryz.func3 closed
    (of_decide_eq_true (by kernel_rfl)) (by unfold Func.isWrapper; first | (rw [if_pos (by decide +kernel)]; kernel_rfl) | (rw [if_neg (by decide +kernel)]; exact ⟨rfl, rfl⟩))
    (fun os started H enc _ => lifted os started H enc)

/-- ████ THE STATEMENT ████ -/
theorem proved : Rows.SchedRefusedSaid :=
  over
end Go.Proofs.YtdbbbaallalhoaaGreat.schedRefused
