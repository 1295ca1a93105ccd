/-
  PROVED HERE: the law's known answers come true, in any memory; what of it was there stands as it stood. No condition.
-/
import Derived.Test.YtdbbbaallalhoaaGreatSiL
import Derived.Test.YtdbbbaallalhoaaGreatKnown26Run
namespace Go.Proofs.YtdbbbaallalhoaaGreat.si
open Go.RowKit Go.Proofs.YtdbbbaallalhoaaGreat.pm
set_option linter.unusedVariables false

/-- Of what was there nothing is turned. -/
def KB (w w' : World) : Prop := w'.os = w.os ∧ w'.output = w.output ∧ ∀ i, i < w.heap.size → w'.heap[i]? = w.heap[i]?
theorem KB.of_keeps {w w' : World} (h : Keeps [] w w') : KB w w' := ⟨h.os, h.output, fun i hi => h.block i hi (by simp)⟩
theorem KB.size {w w' : World} (h : KB w w') : w.heap.size ≤ w'.heap.size := by
  by_cases h0 : w.heap.size = 0
  · omega
  · have := h.2.2 (w.heap.size - 1) (by omega)
    rw [Array.getElem?_eq_getElem (show w.heap.size - 1 < w.heap.size by omega)] at this
    have := (Array.getElem?_eq_some_iff.1 this).1
    omega
theorem KB.of_but {w w' : World} (h : w.keptBut w' (fun _ => False)) : KB w w' := by
  refine ⟨h.1, h.2.1, fun i hi => ?_⟩
  have := h.2.2 i hi
  rw [Array.getElem?_eq_getElem hi] at this ⊢
  cases e : w.heap[i] with
  | cells c t fr =>
    rw [e] at this
    cases e2 : w'.heap[i]? with
    | none => rw [e2] at this; cases this
    | some o =>
      rw [e2] at this
      cases o with
      | cells c' t' fr' =>
        obtain ⟨h1, h2, h3, h4⟩ := this
        rw [h1, h2]
        have : c' = c := Array.ext_getElem? fun j => h4 j (fun h => h)
        rw [this]
      | _ => cases this
  | map es clock =>
    rw [e] at this
    cases e2 : w'.heap[i]? with
    | none => rw [e2] at this; cases this
    | some o =>
      rw [e2] at this
      cases o with
      | map es' clock' =>
        rcases this with h | ⟨h1, h2⟩
        · exact h.elim
        · rw [h1, h2]
      | _ => cases this
  | _ => rw [e] at this; exact this
theorem KB.but {w w' : World} (h : KB w w') : w.keptBut w' (fun _ => False) := by
  refine ⟨h.1, h.2.1, fun i hi => ?_⟩
  rw [h.2.2 i hi, Array.getElem?_eq_getElem hi]
  cases w.heap[i] with
  | cells c t fr => exact ⟨rfl, rfl, rfl, fun j _ => rfl⟩
  | map es clock => exact .inr ⟨rfl, rfl⟩
  | _ => rfl
theorem known_any (w : World) : Calls Tryz.prog 5 #[] w fun e w' => e = .returned (.bool true) ∧ Keeps [] w w' :=
  (Go.Proofs.YtdbbbaallalhoaaGreat.known26.walk w).mono fun e w' ⟨h1, h2, h3⟩ =>
    have k := KB.of_but h2
    ⟨h1, k.size, fun i hi _ => k.2.2 i hi, k.1, h3, k.2.1⟩
end Go.Proofs.YtdbbbaallalhoaaGreat.si
