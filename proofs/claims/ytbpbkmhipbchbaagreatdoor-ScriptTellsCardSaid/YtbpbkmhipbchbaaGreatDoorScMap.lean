/-
  PROVED HERE: a map literal with keys of kind string: its inserts and a look-up with two results, as run equations. Conditions: the block is a map with such keys.
-/
import Derived.Test.YtbpbkmhipbchbaaGreatDoorScMem
import Derived.Carry
import Derived.Maps.Own
import Derived.ChangeMaps5
namespace Go.Proofs.YtbpbkmhipbchbaaGreatDoor.sc
open Go.RowKit Go.ChangeMaps
set_option linter.unusedVariables false

def EntsS (es : List MapEntry) (L : List (Bs × Value)) : Prop := es.map (fun e => (e.key, e.val)) = L.map (fun p => (Value.string (mk p.1), p.2))
def getS (L : List (Bs × Value)) (k : Bs) : Option Value := (L.find? (fun p => p.1 == k)).map (·.2)
/-- Block mb is a map with the entries L. -/
def MapS (w : World) (mb : Nat) (L : List (Bs × Value)) : Prop := ∃ es clock, w.heap[mb]? = some (.map es clock) ∧ EntsS es.toList L

section
variable {P : Program} {w : World} {T K E : TypeId} {mb : Nat} {L : List (Bs × Value)}
theorem MapS.lt (h : MapS w mb L) : mb < w.heap.size := by
  obtain ⟨es, clock, hb, _⟩ := h
  exact (Array.getElem?_eq_some_iff.1 hb).1
theorem MapS.same {w' : World} (h : MapS w mb L) (hs : w'.heap[mb]? = w.heap[mb]?) : MapS w' mb L := by
  obtain ⟨es, clock, hb, r⟩ := h
  exact ⟨es, clock, hs.trans hb, r⟩
theorem MapS.new (w : World) : MapS (w.alloc (.map #[] 0)) w.heap.size [] := ⟨#[], 0, heap_alloc_new w _, rfl⟩

theorem entsS_cons {e : MapEntry} {es : List MapEntry} {L : List (Bs × Value)} (h : EntsS (e :: es) L) :
    ∃ k v R, L = (k, v) :: R ∧ e.key = .string (mk k) ∧ e.val = v ∧ EntsS es R := by
  cases L with
  | nil => simp [EntsS] at h
  | cons p R =>
    simp only [EntsS, List.map_cons, List.cons.injEq, Prod.mk.injEq] at h
    exact ⟨p.1, p.2, R, rfl, h.1.1, h.1.2, h.2⟩

theorem ba_beq (a b : ByteArray) : (a == b) = (a.data == b.data) := by cases a; cases b; rfl
theorem mk_beq_no {a b : Bs} (h : a ≠ b) : (mk a == mk b) = false := by
  rw [ba_beq, Bool.eq_false_iff]
  intro e
  exact h (by simpa using eq_of_beq e)
theorem mk_beq_yes (a : Bs) : (mk a == mk a) = true := by rw [ba_beq]; exact beq_self_eq_true _

theorem findNow_none (k : Bs) : ∀ (es : List MapEntry) (L : List (Bs × Value)) (i : Nat), EntsS es L → getS L k = none →
    Instr.findNow .string (.string (mk k)) es i = some none
  | [], L, i, h, _ => rfl
  | e :: es, L, i, h, hg => by
    obtain ⟨k', v, R, rfl, hk, hv, hR⟩ := entsS_cons h
    by_cases c : k' = k
    · subst c; simp [getS] at hg
    · have c1 : (k' == k) = false := by simpa using c
      have hg' : getS R k = none := by
        simp only [getS, List.find?_cons, c1] at hg
        exact hg
      have c2 : (mk k == mk k') = false := mk_beq_no fun e => c e.symm
      simp only [Instr.findNow, Instr.sameNow, hk, c2, findNow_none k es R (i + 1) hR hg']
theorem findNow_some (k : Bs) (v : Value) : ∀ (es : List MapEntry) (L : List (Bs × Value)) (i : Nat), EntsS es L → getS L k = some v →
    ∃ j, Instr.findNow .string (.string (mk k)) es i = some (some (j, v))
  | [], L, i, h, hg => by
    have : L = [] := by cases L with | nil => rfl | cons _ _ => simp [EntsS] at h
    subst this; simp [getS] at hg
  | e :: es, L, i, h, hg => by
    obtain ⟨k', v', R, rfl, hk, hv, hR⟩ := entsS_cons h
    by_cases c : k' = k
    · subst c
      simp [getS] at hg
      subst hg
      exact ⟨i, by simp only [Instr.findNow, Instr.sameNow, hk, mk_beq_yes, hv]⟩
    · have c1 : (k' == k) = false := by simpa using c
      have hg' : getS R k = some v := by
        simp only [getS, List.find?_cons, c1] at hg
        exact hg
      have c2 : (mk k == mk k') = false := mk_beq_no fun e => c e.symm
      obtain ⟨j, hj⟩ := findNow_some k v es R (i + 1) hR hg'
      exact ⟨j, by simp only [Instr.findNow, Instr.sameNow, hk, c2, hj]⟩

theorem run_checkKey_str (hk : P.underlying K = some .string) (e : Bool) (n : Nat) (k : ByteArray) : (Instr.checkKey e (n + 1) K (.string k)).run P w = .ok () w := by
  simp [Instr.checkKey, run_underlying hk]

theorem run_insert_str (h : MapS w mb L) (ht : P.underlying T = some (.map K E)) (hk : P.underlying K = some .string) (k : Bs) (hg : getS L k = none) (v : Value) :
    ∃ w', (Instr.mapUpdate T (.map (some mb)) (.string (mk k)) v).run P w = .ok () w' ∧ MapS w' mb (L ++ [(k, v)]) ∧ (∀ B, B ≤ mb → Below B w w') := by
  have hlt := h.lt
  obtain ⟨es, clock, hb, he⟩ := h
  refine ⟨setBlock w mb (.map (es.push { key := .string (mk k), val := v, born := clock }) (clock + 1)), ?_, ⟨_, _, by simp [setBlock, hlt]; exact ⟨rfl, rfl⟩, ?_⟩, fun B hB => ?_⟩
  · simp [Instr.mapUpdate, run_underlying ht, MapKept.run_getObj_map hb, run_checkKey_str hk, Instr.findKey, run_underlying hk, findNow_none k _ L 0 he hg, MapKept.run_setObj_map _ hb, setBlock]
  · simp only [EntsS, Array.toList_push, List.map_append, List.map_cons, List.map_nil] at he ⊢
    rw [he]
  · exact ⟨rfl, rfl, rfl, by simp [setBlock], fun b hb' => by simp [setBlock, show ¬ mb = b by omega]⟩

theorem run_lookup2_str (h : MapS w mb L) (ht : P.underlying T = some (.map K E)) (hk : P.underlying K = some .string) {z : Value} (hz : (zeroValue E).run P w = .ok z w) (k : Bs) :
    (Instr.lookup T (.map (some mb)) (.string (mk k)) true).run P w = .ok (.tuple #[(getS L k).getD z, .bool (getS L k).isSome]) w := by
  obtain ⟨es, clock, hb, he⟩ := h
  cases hg : getS L k with
  | none => simp [Instr.lookup, run_underlying ht, MapKept.run_getObj_map hb, run_checkKey_str hk, Instr.findKey, run_underlying hk, findNow_none k _ L 0 he hg, hz]
  | some v =>
    obtain ⟨j, hj⟩ := findNow_some k v _ L 0 he hg
    simp [Instr.lookup, run_underlying ht, MapKept.run_getObj_map hb, run_checkKey_str hk, Instr.findKey, run_underlying hk, hj]
end

end Go.Proofs.YtbpbkmhipbchbaaGreatDoor.sc
