/-
  PROVED HERE: a map with keys of a signed 64-bit kind: its stores and look-ups, said of the list of its entries. Conditions: the block is a map whose entries have such keys.
-/
import Derived.Test.YtdbbbaallalhoaaGreatMapB
namespace Go.Proofs.YtdbbbaallalhoaaGreat.mi
open Go.RowKit Go.ChangeMaps
open Go.Proofs.YtdbbbaallalhoaaGreat.pm (putB putB_same putB_other putB_size)

/-- The entries, as keys and values. -/
def Ents (es : List MapEntry) (L : List (Int × Value)) : Prop := es.map (fun e => (e.key, e.val)) = L.map (fun p => (Value.int .i64 p.1, p.2))
def idx {α : Type} (L : List (Int × α)) (k : Int) : Option Nat := L.findIdx? (fun p => p.1 == k)
def get {α : Type} (L : List (Int × α)) (k : Int) : Option α := (L.find? (fun p => p.1 == k)).map (·.2)
def put {α : Type} (L : List (Int × α)) (k : Int) (v : α) : List (Int × α) := match idx L k with
  | some i => L.set i (k, v)
  | none => L ++ [(k, v)]
def del {α : Type} (L : List (Int × α)) (k : Int) : List (Int × α) := match idx L k with
  | some i => L.eraseIdx i
  | none => L

/-- Block mb is a map with the entries L. -/
def MapIs (w : World) (mb : Nat) (L : List (Int × Value)) : Prop :=
  ∃ es clock, w.heap[mb]? = some (.map es clock) ∧ Ents es.toList L ∧ (∀ e ∈ es.toList, e.born < clock) ∧ (es.toList.map (·.born)).Nodup

section
variable {P : Program} {w : World} {T K E : TypeId} {mb : Nat} {L : List (Int × Value)}

theorem MapIs.lt (h : MapIs w mb L) : mb < w.heap.size := by
  obtain ⟨es, clock, hb, _⟩ := h
  exact (Array.getElem?_eq_some_iff.1 hb).1
theorem MapIs.same {w' : World} (h : MapIs w mb L) (hs : w'.heap[mb]? = w.heap[mb]?) : MapIs w' mb L := by
  obtain ⟨es, clock, hb, r⟩ := h
  exact ⟨es, clock, hs.trans hb, r⟩

theorem ents_cons {e : MapEntry} {es : List MapEntry} {L : List (Int × Value)} (h : Ents (e :: es) L) :
    ∃ k v R, L = (k, v) :: R ∧ e.key = .int .i64 k ∧ e.val = v ∧ Ents es R := by
  cases L with
  | nil => simp [Ents] at h
  | cons p R =>
    simp only [Ents, List.map_cons, List.cons.injEq, Prod.mk.injEq] at h
    exact ⟨p.1, p.2, R, rfl, h.1.1, h.1.2, h.2⟩
theorem ents_length {es : List MapEntry} {L : List (Int × Value)} (h : Ents es L) : es.length = L.length := by
  have := congrArg List.length h
  simpa using this

theorem findNow_ents (k : Int) : ∀ (es : List MapEntry) (L : List (Int × Value)) (i : Nat), Ents es L →
    Instr.findNow (.int .i64) (.int .i64 k) es i = some ((idx L k).map fun j => (i + j, ((L[j]?).map (·.2)).getD undef))
  | [], L, i, h => by
    have : L = [] := by cases L with | nil => rfl | cons _ _ => simp [Ents] at h
    subst this
    rfl
  | e :: es, L, i, h => by
    obtain ⟨k', v, R, rfl, hk, hv, hR⟩ := ents_cons h
    simp only [Instr.findNow, Instr.sameNow, hk, if_true]
    by_cases c : k = k'
    · subst c
      simp [idx, List.findIdx?_cons, hv]
    · have c1 : (k == k') = false := by simpa using c
      have c2 : (k' == k) = false := by simpa using fun h => c h.symm
      simp only [c1, findNow_ents k es R (i + 1) hR, idx, List.findIdx?_cons, c2]
      cases R.findIdx? (fun p => p.1 == k) with
      | none => rfl
      | some j => simp [Nat.add_assoc, Nat.add_comm 1 j]

theorem run_findKey_ents (hk : P.underlying K = some (.int .i64)) {es : List MapEntry} (h : Ents es L) (k : Int) :
    (Instr.findKey K (.int .i64 k) es).run P w = .ok ((idx L k).map fun j => (j, ((L[j]?).map (·.2)).getD undef)) w := by
  simp [Instr.findKey, run_underlying hk, findNow_ents k es L 0 h]

theorem run_checkKey_i64 (hk : P.underlying K = some (.int .i64)) (e : Bool) (n : Nat) (k : Int) : (Instr.checkKey e (n + 1) K (.int .i64 k)).run P w = .ok () w := by
  simp [Instr.checkKey, run_underlying hk]

theorem idx_get (L : List (Int × Value)) (k : Int) : get L k = (idx L k).map fun j => ((L[j]?).map (·.2)).getD undef := by
  induction L with
  | nil => rfl
  | cons p R ih =>
    simp only [get, idx, List.find?_cons, List.findIdx?_cons] at ih ⊢
    cases c : (p.1 == k) with
    | true => rfl
    | false =>
      simp only [ih]
      cases R.findIdx? (fun p => p.1 == k) <;> rfl

theorem run_lookup_i64 (h : MapIs w mb L) (ht : P.underlying T = some (.map K E)) (hk : P.underlying K = some (.int .i64)) {z : Value} (hz : (zeroValue E).run P w = .ok z w) (k : Int) :
    (Instr.lookup T (.map (some mb)) (.int .i64 k) false).run P w = .ok ((get L k).getD z) w := by
  obtain ⟨es, clock, hb, he, _⟩ := h
  rw [idx_get]
  cases c : idx L k <;>
    simp [Instr.lookup, run_underlying ht, MapKept.run_getObj_map hb, run_checkKey_i64 hk, run_findKey_ents hk he, c, hz]

theorem run_lookup2_i64 (h : MapIs w mb L) (ht : P.underlying T = some (.map K E)) (hk : P.underlying K = some (.int .i64)) {z : Value} (hz : (zeroValue E).run P w = .ok z w) (k : Int) :
    (Instr.lookup T (.map (some mb)) (.int .i64 k) true).run P w = .ok (.tuple #[(get L k).getD z, .bool (get L k).isSome]) w := by
  obtain ⟨es, clock, hb, he, _⟩ := h
  rw [idx_get]
  cases c : idx L k <;>
    simp [Instr.lookup, run_underlying ht, MapKept.run_getObj_map hb, run_checkKey_i64 hk, run_findKey_ents hk he, c, hz]

end
section
variable {P : Program} {w : World} {T K E : TypeId} {mb : Nat} {L : List (Int × Value)}

theorem idx_some {L : List (Int × Value)} {k : Int} {i : Nat} (h : idx L k = some i) : i < L.length ∧ ∃ v, L[i]? = some (k, v) := by
  obtain ⟨hlt, hp, _⟩ := List.findIdx?_eq_some_iff_getElem.1 h
  refine ⟨hlt, (L[i]).2, ?_⟩
  rw [List.getElem?_eq_getElem hlt]
  simp only [beq_iff_eq] at hp
  rw [← hp]

theorem ents_get {es : List MapEntry} {L : List (Int × Value)} (h : Ents es L) {i : Nat} {k : Int} {v : Value} (hi : L[i]? = some (k, v)) : ∃ e, es[i]? = some e ∧ e.key = .int .i64 k ∧ e.val = v := by
  have h' := congrArg (fun l => l[i]?) h
  simp only [List.getElem?_map, hi, Option.map_some] at h'
  cases c : es[i]? with
  | none => simp [c] at h'
  | some e =>
    simp [c] at h'
    exact ⟨e, rfl, h'.1, h'.2⟩

theorem run_update_i64 (h : MapIs w mb L) (ht : P.underlying T = some (.map K E)) (hk : P.underlying K = some (.int .i64)) (k : Int) (v : Value) :
    ∃ es clock, (Instr.mapUpdate T (.map (some mb)) (.int .i64 k) v).run P w = .ok () (putB w mb (.map es clock)) ∧ MapIs (putB w mb (.map es clock)) mb (put L k v) := by
  have hlt := h.lt
  obtain ⟨es, clock, hb, he, hc, hn⟩ := h
  cases c : idx L k with
  | none =>
    refine ⟨es.push { key := .int .i64 k, val := v, born := clock }, clock + 1, ?_, _, _, putB_same hlt, ?_, ?_, ?_⟩
    · simp [Instr.mapUpdate, run_underlying ht, MapKept.run_getObj_map hb, run_checkKey_i64 hk, run_findKey_ents hk he, c, MapKept.run_setObj_map _ hb, setBlock]
    · simp only [Ents, put, c, Array.toList_push, List.map_append, List.map_cons, List.map_nil] at he ⊢
      rw [he]
    · intro e hm
      simp only [Array.toList_push, List.mem_append, List.mem_singleton] at hm
      rcases hm with hm | rfl
      · have := hc e hm; omega
      · simp
    · simp only [Array.toList_push, List.map_append, List.map_cons, List.map_nil]
      rw [List.nodup_append]
      refine ⟨hn, by simp, ?_⟩
      intro a ha b' hb' hab
      simp only [List.mem_singleton] at hb'
      obtain ⟨e, hm, rfl⟩ := List.mem_map.1 ha
      have := hc e hm
      omega
  | some i =>
    obtain ⟨hi, v0, hv0⟩ := idx_some c
    obtain ⟨e0, h0, hk0, _⟩ := ents_get he hv0
    have h0' : es[i]? = some e0 := by rw [← Array.getElem?_toList]; exact h0
    refine ⟨es.modify i (fun e => { e with key := .int .i64 k, val := v }), clock, ?_, _, _, putB_same hlt, ?_, ?_, ?_⟩
    · simp [Instr.mapUpdate, run_underlying ht, MapKept.run_getObj_map hb, run_checkKey_i64 hk, run_findKey_ents hk he, c, h0', hk0, Instr.keyThatStays, Instr.sameBits, MapKept.run_setObj_map _ hb, setBlock]
    · simp only [Ents, put, c, Array.toList_modify] at he ⊢
      rw [List.map_set, ← he]
      apply List.ext_getElem?
      intro j
      by_cases hj : i = j
      · subst hj
        have hl : i < es.toList.length := by rw [ents_length he]; exact hi
        simp only [List.getElem?_map, List.getElem?_modify, List.getElem?_set, h0]
        simp at hl
        simp [hl]
      · simp [hj]
    · intro e hm
      rw [Array.toList_modify] at hm
      obtain ⟨j, hj⟩ := List.getElem?_of_mem hm
      rw [List.getElem?_modify] at hj
      cases q : es.toList[j]? with
      | none => simp [q] at hj
      | some e' =>
        have hq := hc e' (List.mem_of_getElem? q)
        simp only [q, Option.map_eq_map, Option.map_some, Option.some.injEq] at hj
        rw [← hj]
        split <;> exact hq
    · have : (es.modify i (fun e => { e with key := .int .i64 k, val := v })).toList.map (·.born) = es.toList.map (·.born) := by
        apply List.ext_getElem?
        intro j
        simp only [Array.toList_modify, List.getElem?_map, List.getElem?_modify]
        cases es.toList[j]? with
        | none => rfl
        | some e => simp only [Option.map_some]; split <;> rfl
      rw [this]; exact hn

end
end Go.Proofs.YtdbbbaallalhoaaGreat.mi
