/-
  PLAIN: how long numbers, digits and joined words are. Conditions: as each says.
-/
import Derived.Test.YtbpbkmhipbchbaaGreatDoorScDefs
namespace Go.Proofs.YtbpbkmhipbchbaaGreatDoor.sc
open Go.Lib

theorem nDigits_le : ∀ (k u : Nat), u < 10 ^ (k + 1) → nDigits u ≤ k + 1
  | 0, u, h => by rw [nDigits_small (by simpa using h)]; exact Nat.le_refl _
  | k + 1, u, h => by
    by_cases hs : u < 10
    · rw [nDigits_small hs]; omega
    · rw [nDigits_big hs]
      have := nDigits_le k (u / 10) (by rw [Nat.pow_succ] at h; omega)
      omega
theorem decDigits_le (u : Nat) (h : u < 18446744073709551616) : (decDigits u).length ≤ 20 := by
  rw [decDigits_length]; exact nDigits_le 19 u (by omega)
theorem num_le (n : Int) (h0 : -9223372036854775808 ≤ n) (h1 : n < 18446744073709551616) : (num n).length ≤ 21 := by
  unfold num itoa
  split
  · rw [List.length_cons]; have := decDigits_le n.natAbs (by omega); omega
  · have := decDigits_le n.toNat (by omega); omega
theorem digits_le (l : Bs) : (digits l).length ≤ 2 * l.length + 1 := by
  unfold digits
  split
  · simp
  · have : ∀ l : Bs, (l.flatMap hex2).length = 2 * l.length := fun l => by
      induction l with
      | nil => rfl
      | cons a r ih => simp [hex2, ih]; omega
    rw [this]; omega
theorem joinTail_le (M : Nat) : ∀ l : List Bs, (∀ x ∈ l, x.length ≤ M) → (joinTail [32] l).length ≤ l.length * (M + 1)
  | [], _ => by simp [joinTail]
  | x :: r, h => by
    have h1 := joinTail_le M r (fun y hy => h y (List.mem_cons_of_mem _ hy))
    have h2 := h x List.mem_cons_self
    simp only [joinTail, List.map_cons, List.flatten_cons, List.length_append, List.length_cons, List.length_nil] at h1 ⊢
    rw [Nat.add_mul]; omega
theorem joinB_le (l : List Bs) (M : Nat) (h : ∀ x ∈ l, x.length ≤ M) : (joinB l).length ≤ l.length * (M + 1) := by
  cases l with
  | nil => simp [joinB, join, List.intercalate]
  | cons x r =>
    rw [joinB, join_cons, List.length_append]
    have h1 := joinTail_le M r (fun y hy => h y (List.mem_cons_of_mem _ hy))
    have h2 := h x List.mem_cons_self
    rw [List.length_cons, Nat.add_mul]; omega

end Go.Proofs.YtbpbkmhipbchbaaGreatDoor.sc
