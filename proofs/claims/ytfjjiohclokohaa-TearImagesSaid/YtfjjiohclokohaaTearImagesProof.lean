/-
  PROVED HERE: TearImages returns true; its arguments read as they did.
  Conditions: none.
-/
import Derived.Test.YtfjjiohclokohaaRows
import Derived.WalkKit
import Derived.ProofKit
import Derived.OpenShut
import Derived.Carry
import Derived.Deep.Slices
import Derived.Test.YtfjjiohclokohaaTImages
import Derived.Test.YtfjjiohclokohaaTKnown
namespace Go.Proofs.Ytfjjiohclokohaa.tearImages
open Go.ChangeShapes Go.WideShapes Go.ChangeAt Go.RowKit Go.Proofs.Ytfjjiohclokohaa.pm
set_option linter.unusedVariables false

set_option maxRecDepth 1000000 in
theorem own : ownKnob Try.prog.godebug = none := by kernel_rfl
set_option maxRecDepth 1000000 in
theorem laidOut : laidOutB Try.prog = true := by kernel_rfl

theorem wf_u64 {n : Int} (h : (Lit.int .u64 n).wf = true) : U64 n := by
  simp only [Lit.wf, Bool.and_eq_true, decide_eq_true_eq] at h
  exact h
theorem flat_inv (l : List (Int × Int)) {j : Nat} {u : Value} (h : (flat l)[j]? = some u) : ∃ i p, l[i]? = some p ∧ ((j = 2 * i ∧ u = .int .u64 p.1) ∨ (j = 2 * i + 1 ∧ u = .int .u64 p.2)) := by
  have hj := (List.getElem?_eq_some_iff.1 h).1
  rw [flat_length] at hj
  obtain ⟨p, hp⟩ : ∃ p, l[j / 2]? = some p := ⟨_, List.getElem?_eq_getElem (by omega)⟩
  obtain ⟨f1, f2⟩ := flat_get l _ p hp
  refine ⟨j / 2, p, hp, ?_⟩
  by_cases hm : j % 2 = 0
  · have e : j = 2 * (j / 2) := by omega
    rw [← e, h] at f1
    exact .inl ⟨e, Option.some.inj f1⟩
  · have e : j = 2 * (j / 2) + 1 := by omega
    rw [← e, h] at f2
    exact .inr ⟨e, Option.some.inj f2⟩

set_option maxRecDepth 1000000 in
/-- A slice of stores that came in: what is read of it. -/
theorem puts_open {H : Type} {enc : TypeId × Value → H} {w : World} {v : Value} {d : DataW H} {ps : List MemPlace} {b0 : Nat} (hv : Value.okWide Try.prog w .any b0 22 v) (h : DataW.Trod enc Try.prog w 0 (fun _ => true) true 22 v d ps) :
    ∃ qs : List (Int × Int), Reads w v qs.length (flat qs) ∧ (∀ q ∈ qs, U64 q.1 ∧ U64 q.2) ∧ qs.length ≤ 9223372036854775807 := by
  obtain ⟨a0, len, cap, rfl⟩ := okWide_slice Try.underlying22 hv
  obtain ⟨fuel, hf⟩ := h
  rcases Go.Deep.open_slice Try.underlying22 hf with ⟨hcs, _⟩ | ⟨a, len', cap', m, nn, D, Pl, hcs, _, hlc, hcm, hm, _, hx⟩
  · cases hcs
    exact ⟨[], .inl ⟨rfl, rfl, rfl⟩, by simp, by simp⟩
  · cases hcs
    have hsp : a.spot = none := by
      have := hv
      simp only [Value.okWide, Cell.okWide, Cell.ok, Try.underlying22, World.has] at this
      exact this.2.2.2.1
    obtain ⟨ab, aof, asp⟩ := a
    cases hsp
    simp only [if_true] at hm
    have h2 : Try.prog.cellsOf 56 = 2 := by kernel_rfl
    have hone : Try.prog.cellsOf 48 = 1 := by kernel_rfl
    have hone' : Try.prog.cellsOf 28 = 1 := by kernel_rfl
    rw [h2] at hx
    obtain ⟨V, hV⟩ := Go.Deep.choose_lt (α := Int × Int) (n := len) (p := fun i q => w.cell? ⟨ab, aof + 2 * i, none⟩ = some (.int .u64 q.1) ∧ w.cell? ⟨ab, aof + (2 * i + 1), none⟩ = some (.int .u64 q.2) ∧ U64 q.1 ∧ U64 q.2) (fun i hi => by
      obtain ⟨cs', h1, h3⟩ := hx i (by omega)
      obtain ⟨xs, n1, _, _, hl, hxl, hfl⟩ := DataW.trod_struct Try.underlying56 h3
      rw [h2] at hl
      obtain ⟨c0, c1, rfl⟩ : ∃ c0 c1, cs' = [c0, c1] := by
        match cs', hl with
        | [c0, c1], _ => exact ⟨c0, c1, rfl⟩
      obtain ⟨y0, y1, rfl⟩ : ∃ y0 y1, xs = [y0, y1] := by
        match xs, hxl with
        | [y0, y1], _ => exact ⟨y0, y1, rfl⟩
      have f0 := hfl 0 _ rfl
      have f1 := hfl 1 _ rfl
      obtain ⟨n0, e0, _, w0⟩ := DataW.trod_int Try.underlying48 f0
      obtain ⟨n2, e2, _, w2⟩ := DataW.trod_int Try.underlying28 f1
      cases e0
      cases e2
      simp [World.cells?, List.range_succ, addr_add] at h1
      have u0 := wf_u64 w0
      have u2 := wf_u64 w2
      refine ⟨(n0, n2), ?_, ?_, u0, u2⟩
      · rw [Nat.mul_comm 2 i]
        cases q0 : w.cell? ⟨ab, aof + i * 2, none⟩ with
        | none => rw [q0] at h1; simp at h1
        | some x0 =>
          rw [q0] at h1
          cases q1 : w.cell? ⟨ab, aof + i * 2 + 1, none⟩ with
          | none => rw [q1] at h1; simp at h1
          | some x1 => rw [q1] at h1; simp at h1; rw [h1.1]
      · rw [Nat.mul_comm 2 i, ← Nat.add_assoc]
        cases q0 : w.cell? ⟨ab, aof + i * 2, none⟩ with
        | none => rw [q0] at h1; simp at h1
        | some x0 =>
          rw [q0] at h1
          cases q1 : w.cell? ⟨ab, aof + i * 2 + 1, none⟩ with
          | none => rw [q1] at h1; simp at h1
          | some x1 => rw [q1] at h1; simp at h1; rw [h1.2])
    refine ⟨(List.range len).map V, .inr ⟨⟨ab, aof, none⟩, cap, by simp, rfl, fun j u hj => ?_⟩, fun q hq => ?_, ?_⟩
    · obtain ⟨i, p, hp, hh⟩ := flat_inv _ hj
      have hi : i < len := by have := (List.getElem?_eq_some_iff.1 hp).1; simpa using this
      have hpV : p = V i := by
        rw [List.getElem?_map, List.getElem?_range hi] at hp
        exact (Option.some.inj hp).symm
      subst hpV
      rcases hh with ⟨rfl, rfl⟩ | ⟨rfl, rfl⟩
      · exact (hV i hi).1
      · exact (hV i hi).2.1
    · obtain ⟨i, hi, rfl⟩ := List.mem_map.1 hq
      exact (hV i (List.mem_range.1 hi)).2.2
    · simp only [List.length_map, List.length_range]
      unfold maxLen at hcm
      omega

set_option maxRecDepth 1000000 in
/-- A slice of integers that came in: what is read of it. -/
theorem ints_open {H : Type} {enc : TypeId × Value → H} {w : World} {v : Value} {d : DataW H} {ps : List MemPlace} {b0 : Nat} (hv : Value.okWide Try.prog w .any b0 26 v) (h : DataW.Trod enc Try.prog w 0 (fun _ => true) true 26 v d ps) :
    ∃ qs : List Int, Reads w v qs.length (qs.map (Value.int .i64)) ∧ (∀ q ∈ qs, -9223372036854775808 ≤ q ∧ q ≤ 9223372036854775807) := by
  obtain ⟨a0, len, cap, rfl⟩ := okWide_slice Try.underlying26 hv
  obtain ⟨fuel, hf⟩ := h
  rcases Go.Deep.open_slice Try.underlying26 hf with ⟨hcs, _⟩ | ⟨a, len', cap', m, nn, D, Pl, hcs, _, hlc, hcm, hm, _, hx⟩
  · cases hcs
    exact ⟨[], .inl ⟨rfl, rfl, rfl⟩, by simp⟩
  · cases hcs
    have hsp : a.spot = none := by
      have := hv
      simp only [Value.okWide, Cell.okWide, Cell.ok, Try.underlying26, World.has] at this
      exact this.2.2.2.1
    obtain ⟨ab, aof, asp⟩ := a
    cases hsp
    simp only [if_true] at hm
    have h2 : Try.prog.cellsOf 3 = 1 := by kernel_rfl
    rw [h2] at hx
    obtain ⟨V, hV⟩ := Go.Deep.choose_lt (α := Int) (n := len) (p := fun i q => w.cell? ⟨ab, aof + i, none⟩ = some (.int .i64 q) ∧ -9223372036854775808 ≤ q ∧ q ≤ 9223372036854775807) (fun i hi => by
      obtain ⟨cs', h1, h3⟩ := hx i (by omega)
      obtain ⟨n0, e0, _, w0⟩ := DataW.trod_int Try.underlying3 h3
      subst e0
      simp [World.cells?, List.range_succ, addr_add] at h1
      refine ⟨n0, ?_, ?_⟩
      · cases q0 : w.cell? ⟨ab, aof + i, none⟩ with
        | none => rw [q0] at h1; simp at h1
        | some x0 => rw [q0] at h1; simp at h1; rw [h1]
      · simp only [Lit.wf, Bool.and_eq_true, decide_eq_true_eq] at w0
        exact w0)
    refine ⟨(List.range len).map V, .inr ⟨⟨ab, aof, none⟩, cap, by simp, rfl, fun j u hj => ?_⟩, fun q hq => ?_⟩
    · rw [List.map_map, List.getElem?_map] at hj
      obtain ⟨i, hi, rfl⟩ := Option.map_eq_some_iff.1 hj
      obtain ⟨hi2, rfl⟩ := List.getElem?_eq_some_iff.1 hi
      rw [List.length_range] at hi2
      rw [List.getElem_range]
      exact (hV j hi2).1
    · obtain ⟨i, hi, rfl⟩ := List.mem_map.1 hq
      exact (hV i (List.mem_range.1 hi)).2

/-- the walk -/
theorem walk (w : World) (ln at_ : Int) (hnb : -9223372036854775808 ≤ ln ∧ ln ≤ 9223372036854775807) {v tv : Value} {ps : List (Int × Int)} {ks : List Int} (h : Reads w v ps.length (flat ps)) (hp : ∀ p ∈ ps, U64 p.1 ∧ U64 p.2) (hlen : ps.length ≤ 9223372036854775807)
    (hk : Reads w tv ks.length (ks.map (Value.int .i64))) (hku : ∀ k ∈ ks, -9223372036854775808 ≤ k ∧ k ≤ 9223372036854775807) :
    Calls Try.prog 4 #[.int .i64 ln, v, .int .i64 at_, tv] w fun e W' => e = .returned (.bool true) ∧ KB w W' :=
  images_any ln at_ hnb h hp hlen hk hku fun w => (tearKnown_any w).mono fun e w' ⟨h1, h2⟩ => ⟨h1, KB.of_but h2⟩

theorem KB.same {w w' : World} (h : KB w w') {p : MemPlace} (hp : p.block < w.heap.size) : w.sameAt w' p := by
  cases p with
  | cell b o => exact World.cell?_of_block (w := w) (h.2.2 b hp)
  | map b => exact h.2.2 b hp

theorem wf_i64 {n : Int} (h : (Lit.int .i64 n).wf = true) : -9223372036854775808 ≤ n ∧ n ≤ 9223372036854775807 := by
  simp only [Lit.wf, Bool.and_eq_true, decide_eq_true_eq] at h
  exact h
set_option maxRecDepth 1000000 in
theorem readInt : Try.prog.readableRec 3 = true := by kernel_rfl
set_option maxRecDepth 1000000 in
theorem readPuts : Try.prog.readableRec 22 = true := by kernel_rfl
set_option maxRecDepth 1000000 in
theorem readInts : Try.prog.readableRec 26 = true := by kernel_rfl
set_option maxRecDepth 1000000 in
theorem rowInts : 26 < Try.prog.types.size := of_decide_eq_true (by kernel_rfl)
set_option maxRecDepth 1000000 in
theorem rowInt : 3 < Try.prog.types.size := of_decide_eq_true (by kernel_rfl)
set_option maxRecDepth 1000000 in
theorem rowPuts : 22 < Try.prog.types.size := of_decide_eq_true (by kernel_rfl)
/-! ### THE ROW's STEP -/
set_option maxRecDepth 100000 in
theorem lifted (os : Os) (started : os.Started) (H : Type) (enc : TypeId × Value → H) :
    ReturnsInHanded {} Try.checked os 4 .any (Rows.tearImagesSpec.pre6 enc Try.prog Try.f4 Rows.tearImagesRow.domain false) (Rows.tearImagesSpec.post enc Try.prog Try.f4 false true false false) := by
  refine returnsInHanded_of_change (C := Try.checked) own started (by kernel_rfl) Try.func4
    (ChangeSpec.witness6 (enc := enc) (C := Try.checked) false ⟨#[], #[.int .i64 0, .slice none 0 0, .int .i64 0, .slice none 0 0], []⟩ 8 (by kernel_rfl) (by kernel_rfl) (by kernel_rfl) (by kernel_rfl)) ?_
  intro W base args ds gs before hval0 hW hcnd _
  have hval : ∀ (j : Nat) t v, Try.f4.params[j]? = some t → args[j]? = some v → Value.okWide Try.prog W .any base t v := hval0
  have hW' := hW
  obtain ⟨p, q, hA0, hV, rfl, hfz, hnd⟩ := hW
  have hA : DataW.TrodAll enc Try.prog W 0 (fun _ => true) true Try.f4.params.toList args.toList ds p := hA0
  rw [Try.params4] at hA hval
  obtain ⟨v0, v1, v2, v3, d0, d1, d2, d3, p0, p1, p2, p3, rfl, rfl, rfl, h0, h1, h2, h3⟩ := trodAll_four hA
  obtain ⟨rfl, rfl⟩ := trodVars_none hV
  clear hA0 hval0
  simp only [List.append_nil] at hW'
  have hlt : ∀ x ∈ p0 ++ p1 ++ p2 ++ p3, x.block < W.heap.size := fun x hx => hW'.lt x hx
  have k0 := h0
  have k1 := h1
  have k2 := h2
  have k3 := h3
  obtain ⟨ln, rfl, _, _, wl⟩ := open_int Try.underlying3 (hval 0 _ _ rfl rfl) h0
  obtain ⟨qs, hr, hq, hl⟩ := puts_open (hval 1 _ _ rfl rfl) h1
  obtain ⟨at_, rfl, _, _, wa⟩ := open_int Try.underlying3 (hval 2 _ _ rfl rfl) h2
  obtain ⟨ks, hkr, hku⟩ := ints_open (hval 3 _ _ rfl rfl) h3
  refine (walk W ln at_ (wf_i64 wl) hr hq hl hkr hku).mono fun e W' ⟨he, hg⟩ => ?_
  subst he
  have rd : ∀ {t : TypeId} {v : Value} {d : DataW H} {ps : List MemPlace} (hr : Try.prog.readableRec t = true) (hrow : t < Try.prog.types.size), DataW.Trod enc Try.prog W 0 (fun _ => true) true t v d ps → (∀ x ∈ ps, x.block < W.heap.size) → DataW.Trod enc Try.prog W' 0 (fun b => decide (b < W.heap.size)) true t v d ps :=
    fun hr hrow h hx => WideElems.Trod_stays laidOut hr hrow h (fun x hxm => KB.same hg (hx x hxm)) (fun x hxm => by simpa using hx x hxm)
  exact ⟨_, rfl, ⟨_, _, _, [], _, [], hW', trodAll_cons_mk (shut_bool Try.underlying4 _) trodAll_mk0,
    trodAll_mk4 (rd readInt rowInt k0 fun x hx => hlt x (by simp [hx])) (rd readPuts rowPuts k1 fun x hx => hlt x (by simp [hx])) (rd readInt rowInt k2 fun x hx => hlt x (by simp [hx])) (rd readInts rowInts k3 fun x hx => hlt x (by simp [hx])),
    rfl, World.keptBut_mono (fun _ h => h.elim) hg.but, fun h => Bool.noConfusion h⟩⟩

theorem over : Rows.tearImagesRow.holds Try.pinned (OpenSpec.ofChange Rows.tearImagesSpec) :=
  OpenClaim.holds_of_wide 4 Try.f4 rfl rfl rfl rfl rfl rfl rfl ⟨rfl, rfl, rfl, rfl, rfl⟩ rfl rfl rfl rfl rfl (by kernel_rfl) Try.func4 (by kernel_rfl)
    (of_decide_eq_true (by kernel_rfl)) (by unfold Func.isWrapper; first | (rw [if_pos (by decide +kernel)]; kernel_rfl) | (rw [if_neg (by decide +kernel)]; exact ⟨rfl, rfl⟩))
    (fun os started H enc _ => lifted os started H enc)

/-- ████ THE STATEMENT ████ -/
theorem proved : Rows.TearImagesSaid :=
  over
end Go.Proofs.Ytfjjiohclokohaa.tearImages
