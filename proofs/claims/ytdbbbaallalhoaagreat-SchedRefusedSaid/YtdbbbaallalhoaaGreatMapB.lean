/-
  PROVED HERE: stores into, deletes from, and walks over a map with keys of an unsigned 64-bit kind, said of the list of its entries. Conditions: as XMapA.
-/
import Derived.Test.YtdbbbaallalhoaaGreatMapA
import Derived.ChangeMaps5
import Derived.Maps.Range
namespace Go.Proofs.YtdbbbaallalhoaaGreat.pm
open Go.RowKit Go.ChangeMaps

/-- The world with block b turned. -/
abbrev putB (w : World) (b : Nat) (o : Obj) : World := setBlock w b o

theorem putB_same {w : World} {b : Nat} {o : Obj} (h : b < w.heap.size) : (putB w b o).heap[b]? = some o := by
  simp [setBlock, h]
theorem putB_other {w : World} {b i : Nat} {o : Obj} (h : i ≠ b) : (putB w b o).heap[i]? = w.heap[i]? := by
  simp [setBlock, Ne.symm h]
theorem putB_size {w : World} {b : Nat} {o : Obj} : (putB w b o).heap.size = w.heap.size := by simp [setBlock]

section
variable {P : Program} {w : World} {T K E : TypeId} {mb : Nat} {L : List (Int × Value)}

theorem idx_some {L : List (Int × Value)} {k : Int} {i : Nat} (h : idx L k = some i) : i < L.length ∧ ∃ v, L[i]? = some (k, v) := by
  obtain ⟨hlt, hp, _⟩ := List.findIdx?_eq_some_iff_getElem.1 h
  refine ⟨hlt, (L[i]).2, ?_⟩
  rw [List.getElem?_eq_getElem hlt]
  simp only [beq_iff_eq] at hp
  rw [← hp]

theorem ents_get {es : List MapEntry} {L : List (Int × Value)} (h : Ents es L) {i : Nat} {k : Int} {v : Value} (hi : L[i]? = some (k, v)) : ∃ e, es[i]? = some e ∧ e.key = .int .u64 k ∧ e.val = v := by
  have h' := congrArg (fun l => l[i]?) h
  simp only [List.getElem?_map, hi, Option.map_some] at h'
  cases c : es[i]? with
  | none => simp [c] at h'
  | some e =>
    simp [c] at h'
    exact ⟨e, rfl, h'.1, h'.2⟩

theorem run_update_u64 (h : MapIs w mb L) (ht : P.underlying T = some (.map K E)) (hk : P.underlying K = some (.int .u64)) (k : Int) (v : Value) :
    ∃ es clock, (Instr.mapUpdate T (.map (some mb)) (.int .u64 k) v).run P w = .ok () (putB w mb (.map es clock)) ∧ MapIs (putB w mb (.map es clock)) mb (put L k v) := by
  have hlt := h.lt
  obtain ⟨es, clock, hb, he, hc, hn⟩ := h
  cases c : idx L k with
  | none =>
    refine ⟨es.push { key := .int .u64 k, val := v, born := clock }, clock + 1, ?_, _, _, putB_same hlt, ?_, ?_, ?_⟩
    · simp [Instr.mapUpdate, run_underlying ht, MapKept.run_getObj_map hb, run_checkKey_u64 hk, run_findKey_ents hk he, c, MapKept.run_setObj_map _ hb, setBlock]
    · simp only [Ents, put, c, Array.toList_push, List.map_append, List.map_cons, List.map_nil] at he ⊢
      rw [he]
    · intro e hm
      simp only [Array.toList_push, List.mem_append, List.mem_singleton] at hm
      rcases hm with hm | rfl
      · have := hc e hm; omega
      · simp
    · simp only [Array.toList_push, List.map_append, List.map_cons, List.map_nil]
      rw [List.nodup_append]
      refine ⟨hn, by simp, ?_⟩
      intro a ha b' hb' hab
      simp only [List.mem_singleton] at hb'
      obtain ⟨e, hm, rfl⟩ := List.mem_map.1 ha
      have := hc e hm
      omega
  | some i =>
    obtain ⟨hi, v0, hv0⟩ := idx_some c
    obtain ⟨e0, h0, hk0, _⟩ := ents_get he hv0
    have h0' : es[i]? = some e0 := by rw [← Array.getElem?_toList]; exact h0
    refine ⟨es.modify i (fun e => { e with key := .int .u64 k, val := v }), clock, ?_, _, _, putB_same hlt, ?_, ?_, ?_⟩
    · simp [Instr.mapUpdate, run_underlying ht, MapKept.run_getObj_map hb, run_checkKey_u64 hk, run_findKey_ents hk he, c, h0', hk0, Instr.keyThatStays, Instr.sameBits, MapKept.run_setObj_map _ hb, setBlock]
    · simp only [Ents, put, c, Array.toList_modify] at he ⊢
      rw [List.map_set, ← he]
      apply List.ext_getElem?
      intro j
      by_cases hj : i = j
      · subst hj
        have hl : i < es.toList.length := by rw [ents_length he]; exact hi
        simp only [List.getElem?_map, List.getElem?_modify, List.getElem?_set, h0]
        simp at hl
        simp [hl]
      · simp [hj]
    · intro e hm
      rw [Array.toList_modify] at hm
      obtain ⟨j, hj⟩ := List.getElem?_of_mem hm
      rw [List.getElem?_modify] at hj
      cases q : es.toList[j]? with
      | none => simp [q] at hj
      | some e' =>
        have hq := hc e' (List.mem_of_getElem? q)
        simp only [q, Option.map_eq_map, Option.map_some, Option.some.injEq] at hj
        rw [← hj]
        split <;> exact hq
    · have : (es.modify i (fun e => { e with key := .int .u64 k, val := v })).toList.map (·.born) = es.toList.map (·.born) := by
        apply List.ext_getElem?
        intro j
        simp only [Array.toList_modify, List.getElem?_map, List.getElem?_modify]
        cases es.toList[j]? with
        | none => rfl
        | some e => simp only [Option.map_some]; split <;> rfl
      rw [this]; exact hn

theorem run_delete_u64 (h : MapIs w mb L) (ht : P.underlying T = some (.map K E)) (hk : P.underlying K = some (.int .u64)) (k : Int) :
    ∃ es clock, (∀ ty : TypeId, (Builtin.delete_ #[T, K] ty #[.map (some mb), .int .u64 k]).run P w = .ok (.tuple #[]) (putB w mb (.map es clock))) ∧ MapIs (putB w mb (.map es clock)) mb (del L k) := by
  have hlt := h.lt
  obtain ⟨es, clock, hb, he, hc, hn⟩ := h
  cases c : idx L k with
  | none =>
    refine ⟨es, clock, fun ty => ?_, _, _, putB_same hlt, ?_, hc, hn⟩
    · simp [Builtin.delete_, run_underlying ht, MapKept.run_getObj_map hb, run_checkKey_u64 hk, run_findKey_ents hk he, c, MapKept.run_setObj_map _ hb, setBlock]
    · simp only [del, c]; exact he
  | some i =>
    obtain ⟨hi, v0, hv0⟩ := idx_some c
    refine ⟨es.eraseIdxIfInBounds i, clock, fun ty => ?_, _, _, putB_same hlt, ?_, ?_, ?_⟩
    · simp [Builtin.delete_, run_underlying ht, MapKept.run_getObj_map hb, run_checkKey_u64 hk, run_findKey_ents hk he, c, MapKept.run_setObj_map _ hb, setBlock]
    · simp only [Ents, del, c, Array.toList_eraseIdxIfInBounds, map_eraseIdx] at he ⊢
      rw [he]
    · intro e hm
      rw [Array.toList_eraseIdxIfInBounds] at hm
      exact hc e ((List.eraseIdx_sublist _ _).mem hm)
    · rw [Array.toList_eraseIdxIfInBounds, map_eraseIdx]
      exact hn.sublist (List.eraseIdx_sublist _ _)

theorem run_clear_map (h : MapIs w mb L) (ht : P.underlying T = some (.map K E)) :
    ∃ es clock, (∀ ty : TypeId, (Builtin.clear_ #[T] ty #[.map (some mb)]).run P w = .ok (.tuple #[]) (putB w mb (.map es clock))) ∧ MapIs (putB w mb (.map es clock)) mb [] := by
  have hlt := h.lt
  obtain ⟨es, clock, hb, he, hc, hn⟩ := h
  refine ⟨#[], clock, fun ty => ?_, _, _, putB_same hlt, rfl, by simp, by simp⟩
  simp [Builtin.clear_, run_underlying ht, MapKept.run_getObj_map hb, MapKept.run_setObj_map _ hb, setBlock]

theorem filter_keep {α : Type} (p : α → Bool) : ∀ (l : List α), (∀ x ∈ l, p x = true) → l.filter p = l
  | [], _ => rfl
  | a :: r, h => by rw [List.filter_cons_of_pos (h a (by simp)), filter_keep p r (fun x hx => h x (by simp [hx]))]
theorem filter_drop {α : Type} (p : α → Bool) : ∀ (l : List α), (∀ x ∈ l, p x = false) → l.filter p = []
  | [], _ => rfl
  | a :: r, h => by rw [List.filter_cons_of_neg (by simp [h a (by simp)]), filter_drop p r (fun x hx => h x (by simp [hx]))]

/-- A walk over the map in block mb, by the iterator in block r: R is still to come. -/
def Iter (w : World) (r mb : Nat) (L R : List (Int × Value)) : Prop :=
  ∃ es clock seen, w.heap[mb]? = some (.map es clock) ∧ w.heap[r]? = some (.mapIter (some mb) clock seen clock) ∧ Ents es.toList L ∧ (∀ e ∈ es.toList, e.born < clock) ∧ (es.toList.map (·.born)).Nodup
    ∧ Ents (es.toList.filter fun e => !seen.contains e.born) R

theorem run_range_map (h : MapIs w mb L) (ht : P.underlying T = some (.map K E)) :
    ∃ w', (Instr.range T (.map (some mb))).run P w = .ok (.pointer (some ⟨w.heap.size, 0, none⟩)) w' ∧ (∃ o, w' = w.alloc o) ∧ Iter w' w.heap.size mb L L := by
  obtain ⟨es, clock, hb, he, hc, hn⟩ := h
  refine ⟨w.alloc (.mapIter (some mb) clock #[] clock), ?_, ⟨_, rfl⟩, es, clock, #[], ?_, (MapKept.heap_alloc w _).1, he, hc, hn, ?_⟩
  · simp [Instr.range, run_underlying ht, MapKept.run_getObj_map hb]
  · have hlt := (Array.getElem?_eq_some_iff.1 hb).1
    rw [(MapKept.heap_alloc w _).2 mb (by omega)]; exact hb
  · rw [filter_keep _ _ (fun x _ => by simp)]; exact he

theorem Iter.mapIs {r : Nat} {R : List (Int × Value)} (h : Iter w r mb L R) : MapIs w mb L := by
  obtain ⟨es, clock, seen, h1, _, h3, h4, h5, _⟩ := h
  exact ⟨es, clock, h1, h3, h4, h5⟩

theorem filter_seen (seen : Array Nat) (e : MapEntry) : ∀ (l : List MapEntry), (l.map (·.born)).Nodup → ∀ i : Nat, (l.filter fun x => !seen.contains x.born)[i]? = some e →
    (l.filter fun x => !(seen.push e.born).contains x.born) = (l.filter fun x => !seen.contains x.born).eraseIdx i := by
  intro l hn i hi
  have h1 : (l.filter fun x => !(seen.push e.born).contains x.born) = (l.filter fun x => !seen.contains x.born).filter (fun x => x.born != e.born) := by
    rw [List.filter_filter]
    congr 1
    funext x
    by_cases hx : x.born = e.born <;> simp [hx]
  rw [h1]
  have hn' : ((l.filter fun x => !seen.contains x.born).map (·.born)).Nodup := hn.sublist (List.Sublist.map _ List.filter_sublist)
  generalize (l.filter fun x => !seen.contains x.born) = m at hi hn'
  clear h1 hn
  induction m generalizing i with
  | nil => simp at hi
  | cons a r ih =>
    simp only [List.map_cons, List.nodup_cons, List.mem_map, not_exists, not_and] at hn'
    cases i with
    | zero =>
      simp only [List.getElem?_cons_zero, Option.some.injEq] at hi
      subst hi
      rw [List.filter_cons_of_neg (by simp)]
      exact filter_keep _ _ (fun x hx => by simpa using hn'.1 x hx)
    | succ i =>
      simp only [List.getElem?_cons_succ] at hi
      have hne : a.born ≠ e.born := fun he => hn'.1 e (List.mem_of_getElem? hi) he.symm
      rw [List.filter_cons_of_pos (by simpa using hne), ih i hi hn'.2]
      rfl

theorem run_next_over {r : Nat} (h : Iter w r mb L []) (ty : TypeId) :
    (Instr.next (.pointer (some ⟨r, 0, none⟩)) false ty).run P w = .ok (.tuple #[.bool false]) w := by
  obtain ⟨es, clock, seen, hb, hr, he, hc, hn, hR⟩ := h
  have hz : (es.filter fun e => !seen.contains e.born) = #[] := by
    apply Array.toList_inj.1
    rw [Array.toList_filter]
    cases q : (es.toList.filter fun e => !seen.contains e.born) with
    | nil => rfl
    | cons _ _ => rw [q] at hR; simp [Ents] at hR
  have hall : (!seen.isEmpty && !es.isEmpty && es.all (·.born ≥ clock)) = false := by
    cases hq : es.toList with
    | nil => have : es = #[] := Array.toList_inj.1 hq; subst this; simp
    | cons e r =>
      have hm : e ∈ es.toList := by rw [hq]; simp
      have := hc e hm
      have : es.all (·.born ≥ clock) = false := by
        rw [← Array.all_toList, hq]
        simp; intro; omega
      rw [this]; simp
  simp only [Instr.next, Sem.run_bind, getObj, Sem.run, hr, hb, Result.andThen, hall, hz]
  simp [Question.forced]

theorem run_next_some {r : Nat} {R : List (Int × Value)} (h : Iter w r mb L R) (hne : R ≠ []) :
    ∃ (i : Nat) (k : Int) (v : Value) (w' : World) (d : Nat), R[i]? = some (k, v) ∧ (∀ ty : TypeId, (Instr.next (.pointer (some ⟨r, 0, none⟩)) false ty).run P w = .ok (.tuple #[.bool true, .int .u64 k, v]) w')
      ∧ (∃ o, w' = { putB w r o with drawn := w.drawn + d }) ∧ Iter w' r mb L (R.eraseIdx i) ∧ (Instr.entry (.pointer (some ⟨r, 0, none⟩))).run P w' = .ok (.tuple #[.int .u64 k, v]) w' := by
  obtain ⟨es, clock, seen, hb, hr, he, hc, hn, hR⟩ := h
  have hrm : r ≠ mb := by
    intro e
    subst e
    rw [hb] at hr
    cases hr
  have hltr : r < w.heap.size := (Array.getElem?_eq_some_iff.1 hr).1
  -- what is left
  obtain ⟨left, hl⟩ : ∃ left : Array MapEntry, left = es.filter fun e => !seen.contains e.born := ⟨_, rfl⟩
  have hleft : left.toList = es.toList.filter fun e => !seen.contains e.born := by rw [hl, Array.toList_filter]
  have hpos : 0 < left.size := by
    have := ents_length hR
    rw [← hleft] at this
    cases R with
    | nil => exact absurd rfl hne
    | cons _ _ => simp at this; omega
  have hold : left.filter (fun e => decide (e.born < clock)) = left := by
    apply Array.toList_inj.1
    rw [Array.toList_filter]
    refine filter_keep _ _ fun x hx => ?_
    rw [hleft] at hx
    simpa using hc x (List.mem_filter.1 hx).1
  have hnew : left.filter (fun e => decide (e.born ≥ clock)) = #[] := by
    apply Array.toList_inj.1
    rw [Array.toList_filter]
    refine filter_drop _ _ fun x hx => ?_
    rw [hleft] at hx
    have := hc x (List.mem_filter.1 hx).1
    simp; omega
  have hemp : left.isEmpty = false := by
    rw [Array.isEmpty_eq_false_iff]; intro h0; rw [h0] at hpos; simp at hpos
  have hall : (!seen.isEmpty && !es.isEmpty && es.all (·.born ≥ clock)) = false := by
    cases hq : es.toList with
    | nil => have : es = #[] := Array.toList_inj.1 hq; subst this; simp
    | cons e r =>
      have hm : e ∈ es.toList := by rw [hq]; simp
      have := hc e hm
      have : es.all (·.born ≥ clock) = false := by
        rw [← Array.all_toList, hq]
        simp; intro; omega
      rw [this]; simp
  -- which one is picked
  obtain ⟨i, d, hi, hch⟩ : ∃ (i d : Nat), i < left.size ∧ (choose (.mapNext left.size)).run P w = .ok i { w with drawn := w.drawn + d } := by
    by_cases q : left.size ≤ 1
    · exact ⟨0, 0, hpos, by simp [Question.forced, q]⟩
    · refine ⟨w.tape w.drawn (.mapNext left.size) % left.size, 1, Nat.mod_lt _ hpos, ?_⟩
      simp [Question.forced, q, Question.cut]
  have hge : left[i]? = some left[i] := Array.getElem?_eq_getElem hi
  obtain ⟨e, hee⟩ : ∃ e, left[i] = e := ⟨_, rfl⟩
  rw [hee] at hge
  have hgl : (es.toList.filter fun e => !seen.contains e.born)[i]? = some e := by rw [← hleft, Array.getElem?_toList]; exact hge
  have hil : i < R.length := by rw [← ents_length hR, ← hleft]; simpa using hi
  obtain ⟨k, v, hR'⟩ : ∃ k v, R[i]? = some (k, v) := ⟨(R[i]).1, (R[i]).2, List.getElem?_eq_getElem hil⟩
  obtain ⟨e', he', hk, hv⟩ := ents_get hR hR'
  rw [hgl] at he'
  cases he'
  obtain ⟨w', hw'⟩ : ∃ w', w' = { putB w r (.mapIter (some mb) clock (seen.push e.born) clock) with drawn := w.drawn + d } := ⟨_, rfl⟩
  have hb' : w'.heap[mb]? = some (.map es clock) := by rw [hw']; exact (putB_other (Ne.symm hrm)).trans hb
  have hr' : w'.heap[r]? = some (.mapIter (some mb) clock (seen.push e.born) clock) := by rw [hw']; exact putB_same hltr
  have hmem : e ∈ es.toList := (List.mem_filter.1 (List.mem_of_getElem? hgl)).1
  refine ⟨i, k, v, w', d, hR', fun ty => ?_, ⟨_, hw'⟩, ⟨es, clock, seen.push e.born, hb', hr', he, hc, hn, ?_⟩, ?_⟩
  · have h1 : ({ w with drawn := w.drawn + d } : World).heap[r]? = some (.mapIter (some mb) clock seen clock) := hr
    simp only [Instr.next, Sem.run_bind, getObj, Sem.run, hr, hb, Result.andThen, hall, ← hl, hold, hnew, hemp]
    simp [-run_choose_drew, -run_choose, hch, hge, setObj, Sem.run, h1, hk, hv, hw', setBlock]
  · rw [filter_seen seen e es.toList hn i hgl]
    have hE := hR
    unfold Ents at hE ⊢
    rw [map_eraseIdx, map_eraseIdx, hE]
  · have hf : es.find? (fun x => x.born == e.born) = some e := by
      rw [← Array.find?_toList]
      generalize es.toList = l at hn hmem
      clear hR hgl hold hnew hleft hall he hc
      induction l with
      | nil => cases hmem
      | cons a l ih =>
        simp only [List.map_cons, List.nodup_cons, List.mem_map, not_exists, not_and] at hn
        rcases List.mem_cons.1 hmem with rfl | hm
        · simp
        · have : (a.born == e.born) = false := by
            simp only [beq_eq_false_iff_ne]; intro q; exact hn.1 e hm q.symm
          rw [List.find?_cons, this]
          exact ih hn.2 hm
    simp [Instr.entry, getObj, Sem.run, hr', hb', hf, hk, hv, Result.andThen]
end
end Go.Proofs.YtdbbbaallalhoaaGreat.pm
