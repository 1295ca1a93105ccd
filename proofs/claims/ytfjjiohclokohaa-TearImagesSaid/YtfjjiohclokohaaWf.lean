/-
  PROVED HERE: what holds of every memory (its lines are of its words, the marks are numbers of what is pending), and that Store, Flush and last keep it. No condition.
-/
import Derived.Test.YtfjjiohclokohaaLast
namespace Go.Proofs.Ytfjjiohclokohaa.pm
open Go.RowKit

/-- A line's puts and marks, of a memory of n words. -/
def U64 (x : Int) : Prop := 0 ≤ x ∧ x ≤ 18446744073709551615
def LineWf (n : Nat) (k : Int) (l : Line) : Prop :=
  0 ≤ k ∧ k % 64 = 0 ∧ k / 8 < n ∧ l.puts ≠ [] ∧ (∀ p ∈ l.puts, (0 ≤ p.1 ∧ p.1 / 8 < n) ∧ U64 p.2) ∧ ∀ m ∈ l.marks, 0 ≤ m ∧ m ≤ l.puts.length

structure WF (M : Mod) : Prop where
  len : M.image.length = M.view.length
  pos : 0 < M.view.length
  small : M.view.length ≤ 131072
  lines : ∀ q ∈ M.lines, LineWf M.view.length q.1 q.2
  view : ∀ x ∈ M.view, U64 x
  image : ∀ x ∈ M.image, U64 x

variable {M : Mod}

theorem WF.putsIn (h : WF M) : PutsIn M := fun q hq p hp => by have := ((h.lines q hq).2.2.2.2.1 p hp).1; rw [h.len]; exact this
theorem WF.marksIn (h : WF M) : MarksIn M := fun q hq m hm => (h.lines q hq).2.2.2.2.2 m hm

theorem WF.get (h : WF M) {k : Int} : (∀ p ∈ ((get M.lines k).getD noLine).puts, (0 ≤ p.1 ∧ p.1 / 8 < M.view.length) ∧ U64 p.2) ∧ (∀ m ∈ ((get M.lines k).getD noLine).marks, 0 ≤ m ∧ m ≤ ((get M.lines k).getD noLine).puts.length) := by
  cases c : pm.get M.lines k with
  | none =>
    refine ⟨fun p hp => ?_, fun m hm => ?_⟩
    · simp [noLine] at hp
    · have := List.eq_of_mem_replicate hm; subst this; simp
  | some l =>
    have := h.lines (k, l) (get_mem c)
    exact ⟨this.2.2.2.2.1, this.2.2.2.2.2⟩

theorem WF.store (h : WF M) {a x : Int} (h0 : 0 ≤ a) (h1 : a / 8 < M.view.length) (hx : U64 x) : WF (M.store a x) := by
  refine ⟨by simp [Mod.store, h.len], by simpa [Mod.store] using h.pos, by simpa [Mod.store] using h.small, fun q hq => ?_, fun y hy => ?_, h.image⟩
  case refine_2 =>
    rcases List.mem_or_eq_of_mem_set hy with h2 | rfl
    · exact h.view y h2
    · exact hx
  have hv : (M.store a x).view.length = M.view.length := by simp [Mod.store]
  rw [hv]
  rcases mem_put hq with h2 | rfl
  · exact h.lines q h2
  · obtain ⟨g1, g2⟩ := h.get (k := a - a % 64)
    refine ⟨by simp only []; omega, by simp only []; omega, by simp only []; omega, by simp, ?_, ?_⟩
    · intro p hp
      simp only [List.mem_append, List.mem_singleton] at hp
      rcases hp with hp | rfl
      · exact g1 p hp
      · exact ⟨⟨h0, h1⟩, hx⟩
    · intro m hm
      have := g2 m hm
      simp only [List.length_append, List.length_cons, List.length_nil]
      omega

theorem WF.flush (h : WF M) {c : Nat} {a : Int} : WF (M.flush c a) := by
  refine ⟨h.len, h.pos, h.small, fun q hq => ?_, h.view, h.image⟩
  unfold Mod.flush at hq
  cases e : pm.get M.lines (a - a % 64) with
  | none => rw [e] at hq; exact h.lines q hq
  | some l =>
    rw [e] at hq
    rcases mem_put hq with h2 | rfl
    · exact h.lines q h2
    · obtain ⟨a1, a2, a3, a4, a5, a6⟩ := h.lines _ (get_mem e)
      refine ⟨a1, a2, a3, a4, a5, fun m hm => ?_⟩
      rcases List.mem_or_eq_of_mem_set hm with h3 | rfl
      · exact a6 m h3
      · exact ⟨by omega, Int.le_refl _⟩

theorem lasts_mem : ∀ (ps : List (Int × Int)) (V : List Int), (∀ x ∈ V, U64 x) → (∀ p ∈ ps, U64 p.2) → ∀ x ∈ lasts V ps, U64 x
  | [], _, h, _ => h
  | p :: r, V, h, hp => lasts_mem r _ (fun x hx => by
      rcases List.mem_or_eq_of_mem_set hx with h2 | rfl
      · exact h x h2
      · exact hp p (by simp)) (fun q hq => hp q (by simp [hq]))

theorem WF.last (h : WF M) {k : Int} {n : Nat} : WF (M.last k n) := by
  refine ⟨by simp [Mod.last, lasts_length, h.len], h.pos, h.small, fun q hq => ?_, h.view, fun x hx => ?_⟩
  case refine_2 => exact lasts_mem _ _ h.image (fun p hp => (h.get.1 p (List.mem_of_mem_take hp)).2) x hx
  simp only [Mod.last] at hq
  cases e : pm.get M.lines k with
  | none =>
    rw [e] at hq
    simp only [Option.getD_none, noLine, List.length_nil, Nat.zero_le, if_true] at hq
    exact h.lines q (mem_del hq)
  | some l =>
    rw [e] at hq
    simp only [Option.getD_some] at hq
    split at hq
    · exact h.lines q (mem_del hq)
    · rename_i hlt
      rcases mem_put hq with h2 | rfl
      · exact h.lines q h2
      · obtain ⟨a1, a2, a3, a4, a5, a6⟩ := h.lines _ (get_mem e)
        refine ⟨a1, a2, a3, ?_, fun p hp => a5 p (List.mem_of_mem_drop hp), fun m hm => ?_⟩
        · intro h0
          have := congrArg List.length h0
          simp at this; omega
        · obtain ⟨m0, hm0, rfl⟩ := List.mem_map.1 hm
          have h3 := a6 m0 hm0
          simp only [List.length_drop, lower]
          simp only [] at h3
          omega
end Go.Proofs.Ytfjjiohclokohaa.pm
