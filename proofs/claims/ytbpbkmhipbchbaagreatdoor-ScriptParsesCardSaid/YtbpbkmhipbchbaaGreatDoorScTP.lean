/-
  PROVED HERE (plain): how long the lines of a text are, and the acts of a text that is read. Conditions: none.
-/
import Derived.Test.YtbpbkmhipbchbaaGreatDoorScRP
import Derived.Test.YtbpbkmhipbchbaaGreatDoorScKnown
namespace Go.Proofs.YtbpbkmhipbchbaaGreatDoor.sc
open Go.RowKit
set_option linter.unusedVariables false

theorem flat_mem {l : List Bs} {y : Bs} (h : y ∈ l) : y.length ≤ (l.flatMap fun y => 32 :: y).length := by
  induction l with
  | nil => cases h
  | cons z r ih =>
    rw [List.flatMap_cons, List.length_append, List.length_cons]
    rcases List.mem_cons.1 h with rfl | h
    · omega
    · have := ih h; omega
theorem joinB_mem {l : List Bs} {y : Bs} (h : y ∈ l) : y.length ≤ (joinB l).length := by
  cases l with
  | nil => cases h
  | cons x r =>
    rw [joinB_cons, List.length_append]
    rcases List.mem_cons.1 h with rfl | h
    · omega
    · have := flat_mem h; omega
theorem flat_count (l : List Bs) : l.length ≤ (l.flatMap fun y => 32 :: y).length := by
  induction l with
  | nil => simp
  | cons z r ih => rw [List.flatMap_cons, List.length_append, List.length_cons, List.length_cons]; omega
theorem hex_len (l : Bs) : l.length ≤ (l.flatMap hex2).length := by
  induction l with
  | nil => simp
  | cons z r ih =>
    rw [List.flatMap_cons, List.length_append, List.length_cons]
    have : (hex2 z).length = 2 := rfl
    omega
theorem digits_ge (l : Bs) : l.length ≤ (digits l).length := by
  unfold digits
  split
  · next h => subst h; simp
  · exact hex_len l
theorem val_le {a : Ac} (h : May a) (n : Int) : a.call.val.length ≤ (lineL a n).length := by
  unfold lineL
  rcases may_forms h with ⟨c, op, key, hi, lim, val, rfl, h1⟩ | ⟨c, rfl⟩ | ⟨p, m, rfl⟩ | ⟨t, rfl⟩ | ⟨k, hk, rfl⟩
  · rcases h1 with ⟨rfl, _⟩ | ⟨_, _, _, rfl⟩ | ⟨_, _, _, rfl⟩ | ⟨_, rfl⟩
    · refine Nat.le_trans (digits_ge val) (joinB_mem ?_)
      simp [wordsL, callW]
    · simp
    · simp
    · simp
  all_goals simp [Cl.zero]
theorem keep_le {a : Ac} (h : May a) (n : Int) : a.keep.length ≤ (lineL a n).length := by
  unfold lineL
  rcases may_forms h with ⟨c, op, key, hi, lim, val, rfl, h1⟩ | ⟨c, rfl⟩ | ⟨p, m, rfl⟩ | ⟨t, rfl⟩ | ⟨k, hk, rfl⟩
  · simp
  · simp
  · simp
  · have : wordsL ⟨4, 0, Cl.zero, 0, 0, t⟩ n = sCrash :: (t : List Int).map num := by simp [wordsL]
    rw [this, joinB_cons, List.length_append]
    have := flat_count ((t : List Int).map num)
    rw [List.length_map] at this
    show t.length ≤ _
    omega
  · simp
theorem may_ok {a : Ac} (h : May a) (T : Typed a) (hv : a.call.val.length ≤ 4000) (hk : a.keep.length ≤ 4000) : AcOk a := by
  have hkp := h
  obtain ⟨k1, k7, hc, hn, hl, same, hop, hks⟩ := h
  refine ⟨⟨by omega, by omega⟩, ⟨by omega, by omega⟩, ⟨?_, T.key, T.hi, ⟨by omega, by omega⟩, by omega⟩, T.at_, ⟨by omega, by omega⟩, by omega, fun k hm => ?_⟩
  · rcases may_forms hkp with ⟨c, op, key, hi, lim, val, rfl, h1⟩ | ⟨c, rfl⟩ | ⟨p, m, rfl⟩ | ⟨t, rfl⟩ | ⟨k, hk, rfl⟩
    · rcases h1 with ⟨rfl, _⟩ | ⟨rfl, _⟩ | ⟨rfl, _⟩ | ⟨rfl, _⟩ <;> (constructor <;> simp)
    all_goals (constructor <;> simp [Cl.zero])
  · have := hks k hm
    exact ⟨by omega, by omega⟩
theorem may_short {a : Ac} (h : May a) (T : Typed a) (hv : a.call.val.length ≤ 4000) (hk : a.keep.length ≤ 4000) (n : Int) (hn : I64 n) : (lineL a n).length ≤ 100000 := by
  have hb := line_le a n (may_ok h T hv hk) hn
  have he : a.keep.length = 0 ∨ a.call.val.length = 0 := by
    rcases may_forms h with ⟨c, op, key, hi, lim, val, rfl, h1⟩ | ⟨c, rfl⟩ | ⟨p, m, rfl⟩ | ⟨t, rfl⟩ | ⟨k, hk, rfl⟩
    · exact .inl rfl
    · exact .inl rfl
    · exact .inl rfl
    · exact .inr rfl
    · exact .inl rfl
  rcases he with he | he
  · rw [he] at hb
    have : (0 + 6) * (2 * a.call.val.length + 23) ≤ 6 * 8023 := Nat.mul_le_mul (by omega) (by omega)
    omega
  · rw [he] at hb
    have : (a.keep.length + 6) * (2 * 0 + 23) ≤ 4006 * 23 := Nat.mul_le_mul (by omega) (by omega)
    omega

/-! ### Rows and their acts -/
theorem rowsL_mem : ∀ (n : Nat) (l : List Ac), l.length ≤ n → (∀ p ∈ rowsL l, p.1 ∈ l ∧ 1 ≤ p.2 ∧ p.2 ≤ (l.length : Int)) ∧ ∀ a ∈ l, ∃ m, (a, m) ∈ rowsL l
  | _, [], _ => by rw [rowsL_nil]; exact ⟨fun p h => (by cases h), fun a h => (by cases h)⟩
  | 0, a :: r, h => by simp at h
  | n + 1, a :: r, h => by
    have hrl := runLen_le a r
    have hd : (r.drop (runLen a r)).length = r.length - runLen a r := List.length_drop ..
    simp only [List.length_cons] at h
    obtain ⟨h1, h2⟩ := rowsL_mem n (r.drop (runLen a r)) (by omega)
    rw [rowsL_cons]
    refine ⟨fun p hp => ?_, fun b hb => ?_⟩
    · rcases List.mem_cons.1 hp with rfl | hp
      · refine ⟨by simp, by simp only; omega, by simp only [List.length_cons]; omega⟩
      · obtain ⟨g1, g2, g3⟩ := h1 p hp
        exact ⟨List.mem_cons_of_mem _ (List.mem_of_mem_drop g1), g2, by rw [hd] at g3; simp only [List.length_cons]; omega⟩
    · rcases List.mem_cons.1 hb with rfl | hb
      · exact ⟨_, List.mem_cons_self ..⟩
      · rw [← List.take_append_drop (runLen a r) r] at hb
        rcases List.mem_append.1 hb with hb | hb
        · rw [runLen_take] at hb
          obtain rfl := (List.mem_replicate.1 hb).2
          exact ⟨_, List.mem_cons_self ..⟩
        · obtain ⟨m, hm⟩ := h2 b hb
          exact ⟨m, List.mem_cons_of_mem _ hm⟩
theorem lines_body : ∀ rows : List (Ac × Int), (∀ p ∈ rows, ∀ b ∈ lineL p.1 p.2, b ≠ 10) → linesL (bodyL rows) = rows.map fun p => lineL p.1 p.2 ++ [10]
  | [], _ => rfl
  | p :: r, h => by
    have hb : bodyL (p :: r) = lineL p.1 p.2 ++ 10 :: bodyL r := by simp [bodyL]
    rw [hb, linesL_line _ _ (h p (by simp)), lines_body r (fun q hq => h q (List.mem_cons_of_mem _ hq)), List.map_cons]
theorem body_mem {rows : List (Ac × Int)} {p : Ac × Int} (h : p ∈ rows) : (lineL p.1 p.2).length ≤ (bodyL rows).length := by
  induction rows with
  | nil => cases h
  | cons q r ih =>
    have hb : bodyL (q :: r) = lineL q.1 q.2 ++ 10 :: bodyL r := by simp [bodyL]
    rw [hb, List.length_append, List.length_cons]
    rcases List.mem_cons.1 h with rfl | h
    · omega
    · have := ih h; omega
/-- An act of a text: it is no longer than the text. -/
theorem act_le {s : Sc} {t : Bs} (ht : textL s = t) (hM : ∀ a ∈ s.acts, May a ∧ Typed a) {a : Ac} (ha : a ∈ s.acts) : a.call.val.length ≤ t.length ∧ a.keep.length ≤ t.length := by
  obtain ⟨m, hm⟩ := (rowsL_mem _ s.acts (Nat.le_refl _)).2 a ha
  have h1 := body_mem hm
  have h2 : (bodyL (rowsL s.acts)).length ≤ t.length := by rw [← ht, textL, List.length_append]; omega
  have h3 := val_le (hM a ha).1 m
  have h4 := keep_le (hM a ha).1 m
  simp only at h1
  exact ⟨by omega, by omega⟩
/-- The lines of a text of short acts. -/
theorem text_lines {s : Sc} {B : Nat} (h : mayS s = true) (hM : ∀ a ∈ s.acts, May a ∧ Typed a) (hL : ∀ a ∈ s.acts, ∀ n : Int, I64 n → (lineL a n).length ≤ B) (hN : s.acts.length ≤ 100000) (hB : 100 ≤ B) : ∀ x ∈ linesL (textL s), x.length ≤ B + 1 := by
  obtain ⟨x, y, l⟩ := s
  unfold mayS at h
  simp only [Bool.and_eq_true, decide_eq_true_eq] at h
  obtain ⟨⟨⟨⟨⟨h1, h2⟩, h3⟩, h4⟩, h5⟩, h6⟩ := h
  have ht : textL ⟨x, y, l⟩ = joinB [sLevee, num x, num y] ++ 10 :: bodyL (rowsL l) := by simp [textL, headL]
  have hr := (rowsL_mem _ l (Nat.le_refl _)).1
  dsimp only at hM hL hN
  rw [ht, linesL_line _ _ (head_plain (by omega) (by omega)), lines_body _ (fun p hp => line_plain (hM _ (hr p hp).1).1 (hM _ (hr p hp).1).2 _ (hr p hp).2.1)]
  intro z hz
  rcases List.mem_cons.1 hz with rfl | hz
  · have q1 : (num x).length ≤ 21 := num_le x (by omega) (by omega)
    have q2 : (num y).length ≤ 21 := num_le y (by omega) (by omega)
    rw [joinB_cons2, joinB_cons2, joinB_one]
    simp [sLevee]; omega
  · obtain ⟨p, hp, rfl⟩ := List.mem_map.1 hz
    have := hL _ (hr p hp).1 p.2 ⟨by have := (hr p hp).2.1; omega, by have := (hr p hp).2.2; omega⟩
    simp; omega
theorem text_len {s : Sc} {B : Nat} (h : mayS s = true) (hL : ∀ a ∈ s.acts, ∀ n : Int, I64 n → (lineL a n).length ≤ B) (hN : s.acts.length ≤ 200) : (textL s).length ≤ 200 + 200 * (B + 1) := by
  obtain ⟨x, y, l⟩ := s
  unfold mayS at h
  simp only [Bool.and_eq_true, decide_eq_true_eq] at h
  obtain ⟨⟨⟨⟨⟨h1, h2⟩, h3⟩, h4⟩, h5⟩, h6⟩ := h
  have ht : textL ⟨x, y, l⟩ = joinB [sLevee, num x, num y] ++ 10 :: bodyL (rowsL l) := by simp [textL, headL]
  have hr := (rowsL_mem _ l (Nat.le_refl _)).1
  dsimp only at hL hN
  have hb : ∀ rows : List (Ac × Int), (∀ p ∈ rows, (lineL p.1 p.2).length ≤ B) → (bodyL rows).length ≤ rows.length * (B + 1) := by
    intro rows
    induction rows with
    | nil => intro _; simp [bodyL]
    | cons q r ih =>
      intro hq
      have hb : bodyL (q :: r) = lineL q.1 q.2 ++ 10 :: bodyL r := by simp [bodyL]
      have g1 := hq q (by simp)
      have g2 := ih (fun p hp => hq p (List.mem_cons_of_mem _ hp))
      rw [hb, List.length_append, List.length_cons, List.length_cons, Nat.add_mul]
      omega
  have h7 := hb (rowsL l) (fun p hp => hL _ (hr p hp).1 p.2 ⟨by have := (hr p hp).2.1; omega, by have := (hr p hp).2.2; omega⟩)
  have h8 := rowsL_length _ l (Nat.le_refl _)
  have h9 : (rowsL l).length * (B + 1) ≤ 200 * (B + 1) := Nat.mul_le_mul_right _ (by omega)
  have q1 : (num x).length ≤ 21 := num_le x (by omega) (by omega)
  have q2 : (num y).length ≤ 21 := num_le y (by omega) (by omega)
  rw [ht, joinB_cons2, joinB_cons2, joinB_one]
  simp [sLevee]; omega
end Go.Proofs.YtbpbkmhipbchbaaGreatDoor.sc
