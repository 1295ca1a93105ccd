/-
  PROVED HERE: what the operations on a map with keys of an unsigned 64-bit kind do, said of the list of its entries in the order of their coming. Conditions: the block is a map whose entries have such keys.
-/
import Derived.Test.YtdbbbaallalhoaaGreatChecked
import Derived.WalkKit
import Derived.Carry
import Derived.Maps.Own
namespace Go.Proofs.YtdbbbaallalhoaaGreat.pm
open Go.RowKit

/-- The entries, as keys and values. -/
def Ents (es : List MapEntry) (L : List (Int × Value)) : Prop := es.map (fun e => (e.key, e.val)) = L.map (fun p => (Value.int .u64 p.1, p.2))
def idx {α : Type} (L : List (Int × α)) (k : Int) : Option Nat := L.findIdx? (fun p => p.1 == k)
def get {α : Type} (L : List (Int × α)) (k : Int) : Option α := (L.find? (fun p => p.1 == k)).map (·.2)
def put {α : Type} (L : List (Int × α)) (k : Int) (v : α) : List (Int × α) := match idx L k with
  | some i => L.set i (k, v)
  | none => L ++ [(k, v)]
def del {α : Type} (L : List (Int × α)) (k : Int) : List (Int × α) := match idx L k with
  | some i => L.eraseIdx i
  | none => L

/-- Block mb is a map with the entries L. -/
def MapIs (w : World) (mb : Nat) (L : List (Int × Value)) : Prop :=
  ∃ es clock, w.heap[mb]? = some (.map es clock) ∧ Ents es.toList L ∧ (∀ e ∈ es.toList, e.born < clock) ∧ (es.toList.map (·.born)).Nodup

section
variable {P : Program} {w : World} {T K E : TypeId} {mb : Nat} {L : List (Int × Value)}

theorem MapIs.lt (h : MapIs w mb L) : mb < w.heap.size := by
  obtain ⟨es, clock, hb, _⟩ := h
  exact (Array.getElem?_eq_some_iff.1 hb).1
theorem MapIs.same {w' : World} (h : MapIs w mb L) (hs : w'.heap[mb]? = w.heap[mb]?) : MapIs w' mb L := by
  obtain ⟨es, clock, hb, r⟩ := h
  exact ⟨es, clock, hs.trans hb, r⟩

theorem ents_cons {e : MapEntry} {es : List MapEntry} {L : List (Int × Value)} (h : Ents (e :: es) L) :
    ∃ k v R, L = (k, v) :: R ∧ e.key = .int .u64 k ∧ e.val = v ∧ Ents es R := by
  cases L with
  | nil => simp [Ents] at h
  | cons p R =>
    simp only [Ents, List.map_cons, List.cons.injEq, Prod.mk.injEq] at h
    exact ⟨p.1, p.2, R, rfl, h.1.1, h.1.2, h.2⟩
theorem ents_length {es : List MapEntry} {L : List (Int × Value)} (h : Ents es L) : es.length = L.length := by
  have := congrArg List.length h
  simpa using this

theorem findNow_ents (k : Int) : ∀ (es : List MapEntry) (L : List (Int × Value)) (i : Nat), Ents es L →
    Instr.findNow (.int .u64) (.int .u64 k) es i = some ((idx L k).map fun j => (i + j, ((L[j]?).map (·.2)).getD undef))
  | [], L, i, h => by
    have : L = [] := by cases L with | nil => rfl | cons _ _ => simp [Ents] at h
    subst this
    rfl
  | e :: es, L, i, h => by
    obtain ⟨k', v, R, rfl, hk, hv, hR⟩ := ents_cons h
    simp only [Instr.findNow, Instr.sameNow, hk, if_true]
    by_cases c : k = k'
    · subst c
      simp [idx, List.findIdx?_cons, hv]
    · have c1 : (k == k') = false := by simpa using c
      have c2 : (k' == k) = false := by simpa using fun h => c h.symm
      simp only [c1, findNow_ents k es R (i + 1) hR, idx, List.findIdx?_cons, c2]
      cases R.findIdx? (fun p => p.1 == k) with
      | none => rfl
      | some j => simp [Nat.add_assoc, Nat.add_comm 1 j]

theorem run_findKey_ents (hk : P.underlying K = some (.int .u64)) {es : List MapEntry} (h : Ents es L) (k : Int) :
    (Instr.findKey K (.int .u64 k) es).run P w = .ok ((idx L k).map fun j => (j, ((L[j]?).map (·.2)).getD undef)) w := by
  simp [Instr.findKey, run_underlying hk, findNow_ents k es L 0 h]

theorem run_checkKey_u64 (hk : P.underlying K = some (.int .u64)) (e : Bool) (n : Nat) (k : Int) : (Instr.checkKey e (n + 1) K (.int .u64 k)).run P w = .ok () w := by
  simp [Instr.checkKey, run_underlying hk]

theorem idx_get (L : List (Int × Value)) (k : Int) : get L k = (idx L k).map fun j => ((L[j]?).map (·.2)).getD undef := by
  induction L with
  | nil => rfl
  | cons p R ih =>
    simp only [get, idx, List.find?_cons, List.findIdx?_cons] at ih ⊢
    cases c : (p.1 == k) with
    | true => rfl
    | false =>
      simp only [ih]
      cases R.findIdx? (fun p => p.1 == k) <;> rfl

theorem run_lookup_u64 (h : MapIs w mb L) (ht : P.underlying T = some (.map K E)) (hk : P.underlying K = some (.int .u64)) {z : Value} (hz : (zeroValue E).run P w = .ok z w) (k : Int) :
    (Instr.lookup T (.map (some mb)) (.int .u64 k) false).run P w = .ok ((get L k).getD z) w := by
  obtain ⟨es, clock, hb, he, _⟩ := h
  rw [idx_get]
  cases c : idx L k <;>
    simp [Instr.lookup, run_underlying ht, MapKept.run_getObj_map hb, run_checkKey_u64 hk, run_findKey_ents hk he, c, hz]

theorem run_lookup2_u64 (h : MapIs w mb L) (ht : P.underlying T = some (.map K E)) (hk : P.underlying K = some (.int .u64)) {z : Value} (hz : (zeroValue E).run P w = .ok z w) (k : Int) :
    (Instr.lookup T (.map (some mb)) (.int .u64 k) true).run P w = .ok (.tuple #[(get L k).getD z, .bool (get L k).isSome]) w := by
  obtain ⟨es, clock, hb, he, _⟩ := h
  rw [idx_get]
  cases c : idx L k <;>
    simp [Instr.lookup, run_underlying ht, MapKept.run_getObj_map hb, run_checkKey_u64 hk, run_findKey_ents hk he, c, hz]

end
end Go.Proofs.YtdbbbaallalhoaaGreat.pm
