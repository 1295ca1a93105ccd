/-
  PROVED HERE (plain): the tear behind one, how many there are, and that going from one to the next reaches each once. Conditions: none.
-/
import Derived.RowKit
namespace Go.Proofs.Ytfjjiohclokohaa.tp
set_option linter.unusedVariables false

/-- The tear behind one; false: there is none (then all are 0). -/
def nextT : List Nat → List Nat → List Nat × Bool
  | t :: ts, n :: ns =>
    match nextT ts ns with
    | (r, true) => (n :: r, true)
    | (r, false) => if n < t then ((n + 1) :: r, true) else (0 :: r, false)
  | _, _ => ([], false)
/-- How many there are. -/
def prodT : List Nat → Nat
  | [] => 1
  | t :: ts => (t + 1) * prodT ts
/-- Which one it is. -/
def valT : List Nat → List Nat → Nat
  | _ :: ts, n :: ns => n * prodT ts + valT ts ns
  | _, _ => 0
/-- It is one. -/
def isT : List Nat → List Nat → Prop
  | [], [] => True
  | t :: ts, n :: ns => n ≤ t ∧ isT ts ns
  | _, _ => False
theorem isT.length : ∀ {ts ns : List Nat}, isT ts ns → ns.length = ts.length
  | [], [], _ => rfl
  | t :: ts, n :: ns, h => by simp [isT.length h.2]
  | [], _ :: _, h => h.elim
  | _ :: _, [], h => h.elim
theorem prodT_pos : ∀ ts : List Nat, 0 < prodT ts
  | [] => by decide
  | t :: ts => Nat.mul_pos (by omega) (prodT_pos ts)
theorem isT_zero : ∀ ts : List Nat, isT ts (List.replicate ts.length 0)
  | [] => trivial
  | t :: ts => ⟨Nat.zero_le _, isT_zero ts⟩
theorem valT_zero : ∀ ts : List Nat, valT ts (List.replicate ts.length 0) = 0
  | [] => rfl
  | t :: ts => by
    have := valT_zero ts
    simp only [List.length_cons, List.replicate_succ, valT, this, Nat.zero_mul]
theorem valT_lt : ∀ {ts ns : List Nat}, isT ts ns → valT ts ns < prodT ts
  | [], [], _ => by decide
  | t :: ts, n :: ns, h => by
    have h1 := valT_lt h.2
    have h2 : n * prodT ts ≤ t * prodT ts := Nat.mul_le_mul_right _ h.1
    simp only [valT, prodT, Nat.add_mul, Nat.one_mul]
    omega
  | [], _ :: _, h => h.elim
  | _ :: _, [], h => h.elim
theorem nextT_length : ∀ {ts ns : List Nat}, isT ts ns → (nextT ts ns).1.length = ts.length
  | [], [], _ => rfl
  | t :: ts, n :: ns, h => by
    have ih := nextT_length h.2
    rw [nextT]
    cases e : nextT ts ns with
    | mk r b =>
      rw [e] at ih
      cases b
      · dsimp only
        split <;> simpa using ih
      · simpa using ih
  | [], _ :: _, h => h.elim
  | _ :: _, [], h => h.elim
theorem nextT_spec : ∀ {ts ns : List Nat}, isT ts ns →
    ((nextT ts ns).2 = true → isT ts (nextT ts ns).1 ∧ valT ts (nextT ts ns).1 = valT ts ns + 1) ∧
    ((nextT ts ns).2 = false → (nextT ts ns).1 = List.replicate ts.length 0 ∧ valT ts ns + 1 = prodT ts)
  | [], [], _ => ⟨fun h => (by cases h), fun _ => ⟨rfl, rfl⟩⟩
  | t :: ts, n :: ns, h => by
    have ih := nextT_spec h.2
    have hn := h.1
    rw [nextT]
    cases e : nextT ts ns with
    | mk r b =>
      rw [e] at ih
      cases b
      · obtain ⟨e1, e2⟩ := ih.2 rfl
        dsimp only at e1 e2 ⊢
        subst e1
        split
        · rename_i hlt
          refine ⟨fun _ => ⟨⟨hlt, isT_zero ts⟩, ?_⟩, fun h => (by cases h)⟩
          simp only [valT, valT_zero, Nat.add_mul, Nat.one_mul]
          omega
        · rename_i hlt
          refine ⟨fun h => (by cases h), fun _ => ⟨rfl, ?_⟩⟩
          obtain rfl : n = t := by omega
          simp only [valT, prodT, Nat.add_mul, Nat.one_mul]
          omega
      · obtain ⟨e1, e2⟩ := ih.1 rfl
        dsimp only at e1 e2 ⊢
        refine ⟨fun _ => ⟨⟨hn, e1⟩, ?_⟩, fun h => (by cases h)⟩
        simp only [valT, e2]
        omega
  | [], _ :: _, h => h.elim
  | _ :: _, [], h => h.elim
theorem nextT_snoc : ∀ {ts ns : List Nat} (t n : Nat), ns.length = ts.length → nextT (ts ++ [t]) (ns ++ [n]) = if n < t then (ns ++ [n + 1], true) else ((nextT ts ns).1 ++ [0], (nextT ts ns).2)
  | [], [], t, n, _ => by
    simp only [List.nil_append, nextT]
  | t0 :: ts, n0 :: ns, t, n, h => by
    have ih := nextT_snoc (ts := ts) (ns := ns) t n (by simpa using h)
    simp only [List.cons_append]
    rw [nextT, ih]
    by_cases hlt : n < t
    · simp only [if_pos hlt]
    · simp only [if_neg hlt]
      rw [nextT]
      cases e : nextT ts ns with
      | mk r b =>
        cases b
        · dsimp only
          split <;> rfl
        · rfl
  | [], _ :: _, _, _, h => by simp at h
  | _ :: _, [], _, _, h => by simp at h

/-- WHAT A LOOP FROM THE LAST PLACE DOWN HAS LEFT TO DO, the places from i on being 0. -/
theorem nextT_at {ts ns : List Nat} (h : ns.length = ts.length) {i t n : Nat} (ht : ts[i]? = some t) (hn : ns[i]? = some n) :
    nextT (ts.take (i + 1)) (ns.take (i + 1)) = if n < t then (ns.take i ++ [n + 1], true) else ((nextT (ts.take i) (ns.take i)).1 ++ [0], (nextT (ts.take i) (ns.take i)).2) := by
  rw [List.take_add_one, List.take_add_one, ht, hn]
  exact nextT_snoc t n (by simp [h])
theorem isT_get : ∀ {ts ns : List Nat}, isT ts ns → ∀ {i t n : Nat}, ts[i]? = some t → ns[i]? = some n → n ≤ t
  | [], [], _, i, t, n, h, _ => by simp at h
  | t0 :: ts, n0 :: ns, hT, 0, t, n, h, h' => by
    simp at h h'; subst h; subst h'; exact hT.1
  | t0 :: ts, n0 :: ns, hT, i + 1, t, n, h, h' => isT_get hT.2 (by simpa using h) (by simpa using h')
  | [], _ :: _, hT, _, _, _, _, _ => hT.elim
  | _ :: _, [], hT, _, _, _, _, _ => hT.elim
theorem isT_of : ∀ {ts ns : List Nat}, ns.length = ts.length → (∀ (i t n : Nat), ts[i]? = some t → ns[i]? = some n → n ≤ t) → isT ts ns
  | [], [], _, _ => trivial
  | t0 :: ts, n0 :: ns, hl, h => ⟨h 0 t0 n0 rfl rfl, isT_of (by simpa using hl) fun i t n h1 h2 => h (i + 1) t n (by simpa using h1) (by simpa using h2)⟩
  | [], _ :: _, hl, _ => by simp at hl
  | _ :: _, [], hl, _ => by simp at hl

/-- What is counted: from n on, so far as 2^63. -/
def cntT (n : Nat) : List Nat → Nat
  | [] => n
  | t :: ts => if n > 9223372036854775808 / (t + 1) then 9223372036854775808 else cntT (n * (t + 1)) ts
/-- What the reference counts: from n on, 0 where it is above 2^52. -/
def refT (n : Nat) : List Nat → Nat
  | [] => n
  | t :: ts => if n * (t + 1) > 4503599627370496 then 0 else refT (n * (t + 1)) ts
theorem cntT_ge : ∀ (ts : List Nat) (n : Nat), 4503599627370496 ≤ n → 4503599627370496 ≤ cntT n ts
  | [], n, h => h
  | t :: ts, n, h => by
    rw [cntT]
    split
    · decide
    · exact cntT_ge ts _ (Nat.le_trans h (Nat.le_mul_of_pos_right n (by omega)))
theorem refT_ok : ∀ (ts : List Nat) (n : Nat), 0 < n → n ≤ 4503599627370496 → (refT n ts ≠ 0 → cntT n ts = refT n ts ∧ cntT n ts = n * prodT ts) ∧ (refT n ts = 0 → 4503599627370496 ≤ cntT n ts)
  | [], n, h0, h => ⟨fun _ => ⟨rfl, by simp [cntT, prodT]⟩, fun e => by simp only [refT] at e; omega⟩
  | t :: ts, n, h0, h => by
    have hp : 0 < n * (t + 1) := Nat.mul_pos h0 (by omega)
    rw [refT, cntT]
    by_cases hb : n * (t + 1) > 4503599627370496
    · rw [if_pos hb]
      refine ⟨fun e => absurd rfl e, fun _ => ?_⟩
      split
      · decide
      · exact cntT_ge ts _ (by omega)
    · rw [if_neg hb]
      have hle : ¬ n > 9223372036854775808 / (t + 1) := by
        have : n ≤ 9223372036854775808 / (t + 1) := (Nat.le_div_iff_mul_le (by omega)).2 (by omega)
        omega
      rw [if_neg hle]
      have ih := refT_ok ts _ hp (by omega)
      refine ⟨fun e => ⟨(ih.1 e).1, ?_⟩, ih.2⟩
      rw [(ih.1 e).2, prodT, Nat.mul_assoc]
/-- Where few are counted they are all. -/
theorem cntT_exact : ∀ (ts : List Nat) (n : Nat), 0 < n → cntT n ts ≤ 3000 → cntT n ts = n * prodT ts
  | [], n, _, _ => by simp [cntT, prodT]
  | t :: ts, n, h0, h => by
    rw [cntT] at h ⊢
    by_cases hb : n > 9223372036854775808 / (t + 1)
    · rw [if_pos hb] at h; omega
    · rw [if_neg hb] at h ⊢
      rw [cntT_exact ts _ (Nat.mul_pos h0 (by omega)) h, prodT, Nat.mul_assoc]
end Go.Proofs.Ytfjjiohclokohaa.tp
