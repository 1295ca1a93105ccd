/-
  PROVED HERE (plain): the text of a script that may be is read back as that script (parse_text). Conditions: the acts may be, their numbers are of their kinds.
-/
import Derived.Test.YtnnahodajiolmaaGreatDoorScParP
namespace Go.Proofs.YtnnahodajiolmaaGreatDoor.sc
open Go.RowKit
set_option linter.unusedVariables false

theorem linesL_line : ∀ (x rest : Bs), (∀ b ∈ x, b ≠ 10) → linesL (x ++ 10 :: rest) = (x ++ [10]) :: linesL rest
  | [], rest, _ => by
    show linesL (10 :: rest) = _
    rw [linesL, if_pos rfl]; rfl
  | b :: x, rest, h => by
    show linesL (b :: (x ++ 10 :: rest)) = _
    rw [linesL, if_neg (h b (by simp)), linesL_line x rest (fun c hc => h c (by simp [hc]))]
    rfl
theorem has_nl (x : Bs) : Go.Lib.hasSuffix (x ++ [10]) [10] = true := by
  unfold Go.Lib.hasSuffix
  rw [List.isSuffixOf_iff_suffix]
  exact ⟨x, rfl⟩
theorem trim_nl (x : Bs) : Go.Lib.trimSuffix (x ++ [10]) [10] = x := by
  unfold Go.Lib.trimSuffix
  rw [if_pos (has_nl x)]
  simp
theorem join_plain : ∀ l : List Bs, (∀ x ∈ l, ∀ b ∈ x, b ≠ 10) → ∀ b ∈ joinB l, b ≠ 10
  | [], _, b, hb => by rw [show joinB [] = [] from rfl] at hb; cases hb
  | [x], h, b, hb => by rw [joinB_one] at hb; exact h x (by simp) b hb
  | x :: y :: r, h, b, hb => by
    rw [joinB_cons2] at hb
    rcases List.mem_append.1 hb with hb | hb
    · exact h x (by simp) b hb
    · rcases List.mem_cons.1 hb with rfl | hb
      · decide
      · exact join_plain (y :: r) (fun z hz => h z (by simp [hz])) b hb
theorem line_plain {a : Ac} (h : May a) (T : Typed a) (n : Int) (hn : 1 ≤ n) : ∀ b ∈ lineL a n, b ≠ 10 :=
  join_plain _ fun x hx b hb => (wordsL_plain h T n hn x hx b hb).2
theorem first_head {a b : Int} (ha : 1 ≤ a ∧ a ≤ 64) (hb : 1 ≤ b ∧ b ≤ 64) : firstP (joinB [sLevee, num a, num b]) = some (a, b) := by
  have hp : ∀ x ∈ [sLevee, num a, num b], ∀ c ∈ x, c ≠ 32 := by
    intro x hx c hc
    simp only [List.mem_cons, List.not_mem_nil, or_false] at hx
    rcases hx with rfl | rfl | rfl
    · revert c; decide
    · exact (num_plain a (by omega) c hc).1
    · exact (num_plain b (by omega) c hc).1
  rw [firstP_three (split_join _ (by simp) hp), if_pos rfl, whole_num a 1 64 (by omega) (by omega) (by omega) (by omega), whole_num b 1 64 (by omega) (by omega) (by omega) (by omega)]
theorem head_plain {a b : Int} (ha : 0 ≤ a) (hb : 0 ≤ b) : ∀ c ∈ joinB [sLevee, num a, num b], c ≠ 10 := by
  refine join_plain _ ?_
  intro x hx c hc
  simp only [List.mem_cons, List.not_mem_nil, or_false] at hx
  rcases hx with rfl | rfl | rfl
  · revert c; decide
  · exact (num_plain a ha c hc).2
  · exact (num_plain b hb c hc).2

/-! ### Rows -/
theorem runN_take (a : Ac) : ∀ r : List Ac, r.take (runN a r) = List.replicate (runN a r) a
  | [] => by simp [runN]
  | b :: r => by
    rw [runN]
    split
    · next h => subst h; rw [List.take_succ_cons, runN_take a r, List.replicate_succ]
    · simp
theorem runN_stop (a : Ac) : ∀ (r : List Ac) (b : Ac) (t : List Ac), r.drop (runN a r) = b :: t → a ≠ b
  | [], b, t, h => by simp at h
  | c :: r, b, t, h => by
    rw [runN] at h
    split at h
    · next hc => rw [List.drop_succ_cons] at h; exact runN_stop a r b t h
    · next hc =>
      rw [List.drop_zero] at h
      injection h with h1 _
      rw [← h1]; exact hc
theorem runLen_take (a : Ac) (r : List Ac) : r.take (runLen a r) = List.replicate (runLen a r) a := by
  unfold runLen; split
  · exact runN_take a r
  · simp
theorem runLen_next (a : Ac) (r : List Ac) (b : Ac) (t : List Ac) (h : r.drop (runLen a r) = b :: t) : ¬ (again b = true ∧ b = a) := by
  rintro ⟨h1, rfl⟩
  unfold runLen at h
  rw [if_pos h1] at h
  exact runN_stop b r b t h rfl
theorem runLen_again {a : Ac} (r : List Ac) (h : again a = false) : runLen a r = 0 := by unfold runLen; rw [if_neg (by simp [h])]

theorem fold_one {k : Nat} {x y : Int} {acc : List Ac} {last a : Ac} {n : Nat} (hk : 1 ≤ k) (h1 : May a) (h2 : Typed a) (hT : Times a (n : Int)) (hN : acc.length + n ≤ 100000) (hD : 2 ≤ k → ¬ (again a = true ∧ a = last)) :
    stepP k (⟨x, y, acc⟩, last) (lineL a (n : Int) ++ [10]) = .ok (⟨x, y, acc ++ List.replicate n a⟩, a) := by
  have h := stepP_go (k := k) (st := (⟨x, y, acc⟩, last)) (line := lineL a (n : Int) ++ [10]) (by omega) (trim_nl _).symm (lineOf_line h1 h2 _ hT)
    (by rw [has_nl]; rintro (h | ⟨h3, h4, h5⟩)
        · cases h
        · exact hD h3 ⟨h4, h5⟩)
    (by show ¬ (100000 : Int) - (acc.length : Int) < (n : Int); omega)
  rw [h, Int.toNat_natCast]
theorem fold_rows : ∀ (m : Nat) (l : List Ac) (k : Nat) (x y : Int) (acc : List Ac) (last : Ac), l.length ≤ m → 1 ≤ k → (∀ a ∈ l, May a ∧ Typed a) → acc.length + l.length ≤ 100000 → (2 ≤ k → ∀ b t, l = b :: t → ¬ (again b = true ∧ b = last)) →
    ∃ last', foldP k (⟨x, y, acc⟩, last) (linesL (bodyL (rowsL l))) = .ok (⟨x, y, acc ++ l⟩, last') := by
  intro m
  induction m with
  | zero =>
    intro l k x y acc last hm _ _ _ _
    have : l = [] := List.eq_nil_of_length_eq_zero (by omega)
    subst this
    refine ⟨last, ?_⟩
    rw [rowsL_nil, List.append_nil]
    rfl
  | succ m ih =>
    intro l k x y acc last hm hk hM hN hD
    cases l with
    | nil =>
      refine ⟨last, ?_⟩
      rw [rowsL_nil, List.append_nil]
      rfl
    | cons a r =>
      obtain ⟨h1, h2⟩ := hM a (by simp)
      have hrl := runLen_le a r
      simp only [List.length_cons] at hm hN
      obtain ⟨n, hn⟩ : ∃ n, n = runLen a r + 1 := ⟨_, rfl⟩
      have hT : Times a (n : Int) := ⟨by omega, by omega, fun h => by rw [hn, runLen_again r h]; rfl⟩
      have hs : (a :: r) = List.replicate n a ++ r.drop (runLen a r) := by
        rw [hn, List.replicate_succ, List.cons_append, ← runLen_take, List.take_append_drop]
      have hl : (r.drop (runLen a r)).length = r.length - runLen a r := List.length_drop ..
      have hb : bodyL (rowsL (a :: r)) = lineL a (n : Int) ++ 10 :: bodyL (rowsL (r.drop (runLen a r))) := by rw [rowsL_cons, ← hn]; simp [bodyL]
      obtain ⟨last', h⟩ := ih (r.drop (runLen a r)) (k + 1) x y (acc ++ List.replicate n a) a (by omega) (by omega) (fun b hb => hM b (List.mem_cons_of_mem _ (List.mem_of_mem_drop hb)))
        (by rw [List.length_append, List.length_replicate]; omega) (fun _ b t e => runLen_next a r b t e)
      refine ⟨last', ?_⟩
      rw [hb, linesL_line _ _ (line_plain h1 h2 _ (by omega)), foldP, fold_one hk h1 h2 hT (by omega) (fun h3 => hD h3 a r rfl)]
      show foldP (k + 1) (⟨x, y, acc ++ List.replicate n a⟩, a) _ = _
      rw [h, List.append_assoc, ← hs]

theorem parse_text {s : Sc} (h : mayS s = true) (hM : ∀ a ∈ s.acts, May a ∧ Typed a) : parseP (textL s) = (s, 0, 0) := by
  obtain ⟨x, y, l⟩ := s
  unfold mayS at h
  simp only [Bool.and_eq_true, decide_eq_true_eq] at h
  obtain ⟨⟨⟨⟨⟨h1, h2⟩, h3⟩, h4⟩, h5⟩, h6⟩ := h
  have ht : textL ⟨x, y, l⟩ = joinB [sLevee, num x, num y] ++ 10 :: bodyL (rowsL l) := by simp [textL, headL]
  obtain ⟨last, hf⟩ := fold_rows l.length l 1 x y [] Ac.zero (Nat.le_refl _) (Nat.le_refl _) hM (by simp; omega) (fun h => by omega)
  unfold parseP
  rw [if_neg (by rw [ht]; simp), ht, linesL_line _ _ (head_plain (by omega) (by omega)), foldP, stepP, if_pos rfl, trim_nl, first_head ⟨h1, h2⟩ ⟨h3, h4⟩]
  dsimp only
  rw [has_nl, if_pos rfl]
  dsimp only
  rw [hf]
  rfl

/-! ### Back: what is read is a script that may be, and its text -/
theorem nl_has {x : Bs} (h : Go.Lib.hasSuffix x [10] = true) : x = Go.Lib.trimSuffix x [10] ++ [10] := by
  have h2 := h
  unfold Go.Lib.hasSuffix at h2
  rw [List.isSuffixOf_iff_suffix] at h2
  obtain ⟨p, rfl⟩ := h2
  rw [trim_nl]
theorem first_back {l : Bs} {a b : Int} (h : firstP l = some (a, b)) : l = joinB [sLevee, num a, num b] ∧ (1 ≤ a ∧ a ≤ 64) ∧ 1 ≤ b ∧ b ≤ 64 := by
  by_cases h3 : (splitC 32 l).length = 3
  · obtain ⟨x, y, z, hx⟩ := lenThree h3
    rw [firstP_three hx] at h
    split at h
    · next hl =>
      cases hy : whole y 1 64 with
      | none => rw [hy] at h; cases h
      | some v1 =>
        cases hz : whole z 1 64 with
        | none => rw [hy, hz] at h; cases h
        | some v2 =>
          rw [hy, hz] at h
          injection h with h
          injection h with h1 h2
          subst h1; subst h2
          obtain ⟨e1, e2, e3, _⟩ := whole_some hy
          obtain ⟨f1, f2, f3, _⟩ := whole_some hz
          refine ⟨?_, ⟨e2, e3⟩, f2, f3⟩
          rw [e1, f1, ← hl, ← hx, join_split]
    · cases h
  · rw [firstP_len h3] at h; cases h
theorem rows_rep {a : Ac} {n : Nat} {l : List Ac} (hT : Times a (n : Int)) (hl : ∀ b t, l = b :: t → ¬ (again b = true ∧ b = a)) : rowsL (List.replicate n a ++ l) = (a, (n : Int)) :: rowsL l := by
  obtain ⟨h1, h2, h3⟩ := hT
  obtain ⟨m, rfl⟩ : ∃ m, n = m + 1 := ⟨n - 1, by omega⟩
  have hr : runLen a (List.replicate m a ++ l) = m := by
    refine runLen_stop (fun j hj => ?_) (by simp) (fun h0 => ?_) ?_
    · rw [List.getElem?_append_left (by simpa using hj)]; simp [hj]
    · cases hg : again a with
      | true => rfl
      | false => have := h3 hg; omega
    · cases l with
      | nil => left; simp
      | cons b t =>
        right
        cases hg : again a with
        | false => exact .inl rfl
        | true =>
          right
          refine ⟨b, by rw [List.getElem?_append_right (by simp)]; simp, ?_⟩
          rintro rfl
          exact hl _ _ rfl ⟨hg, rfl⟩
  rw [List.replicate_succ, List.cons_append, rowsL_cons, hr]
  congr 1
  rw [List.drop_append_of_le_length (by simp)]
  simp
theorem fold_back : ∀ (ls : List Bs) (k : Nat) (x y : Int) (acc : List Ac) (last : Ac) (st : Sc × Ac), 1 ≤ k → acc.length ≤ 100000 → foldP k (⟨x, y, acc⟩, last) ls = .ok st →
    ∃ l, st.1 = ⟨x, y, acc ++ l⟩ ∧ (∀ a ∈ l, May a ∧ Typed a) ∧ acc.length + l.length ≤ 100000 ∧ bodyL (rowsL l) = ls.flatten ∧ (2 ≤ k → ∀ b t, l = b :: t → ¬ (again b = true ∧ b = last)) := by
  intro ls
  induction ls with
  | nil =>
    intro k x y acc last st hk hN h
    rw [foldP] at h
    injection h with h
    subst h
    exact ⟨[], by simp, by simp, by simpa using hN, by rw [rowsL_nil]; rfl, fun _ b t e => by cases e⟩
  | cons line ls ih =>
    intro k x y acc last st hk hN h
    rw [foldP] at h
    cases hs : stepP k (⟨x, y, acc⟩, last) line with
    | error e => rw [hs] at h; cases h
    | ok st2 =>
      rw [hs] at h
      dsimp only at h
      rw [stepP, if_neg (by omega)] at hs
      cases hf : lineOf (Go.Lib.trimSuffix line [10]) with
      | none => rw [hf] at hs; cases hs
      | some p =>
        obtain ⟨a, n⟩ := p
        rw [hf] at hs
        dsimp only at hs
        split at hs
        · cases hs
        · next hd =>
          split at hs
          · cases hs
          · next hn =>
            injection hs with hs
            subst hs
            obtain ⟨h1, h2, h3, h4⟩ := lineOf_some hf
            obtain ⟨m, rfl⟩ : ∃ m : Nat, n = m := ⟨n.toNat, by have := h3.1; omega⟩
            have hen : Go.Lib.hasSuffix line [10] = true := by
              cases he : Go.Lib.hasSuffix line [10] with
              | true => rfl
              | false => exact absurd (Or.inl he) hd
            have hline := nl_has hen
            rw [Int.toNat_natCast] at h
            have hlen : acc.length + m ≤ 100000 := by omega
            obtain ⟨l, g1, g2, g3, g4, g5⟩ := ih (k + 1) x y (acc ++ List.replicate m a) a st (by omega) (by rw [List.length_append, List.length_replicate]; exact hlen) h
            refine ⟨List.replicate m a ++ l, by rw [g1, List.append_assoc], ?_, ?_, ?_, ?_⟩
            · intro b hb
              rcases List.mem_append.1 hb with hb | hb
              · rw [(List.mem_replicate.1 hb).2]; exact ⟨h1, h2⟩
              · exact g2 b hb
            · rw [List.length_append, List.length_replicate] at g3 ⊢; omega
            · rw [rows_rep h3 (g5 (by omega)), List.flatten_cons, ← g4, hline, ← h4]
              simp [bodyL]
            · intro hk2 b t e
              obtain ⟨m', rfl⟩ : ∃ m', m = m' + 1 := ⟨m - 1, by have := h3.1; omega⟩
              rw [List.replicate_succ, List.cons_append] at e
              injection e with e1 _
              subst e1
              rintro ⟨e2, e3⟩
              exact hd (.inr ⟨hk2, e2, e3⟩)
theorem foldP_pos : ∀ (ls : List Bs) (k : Nat) (st : Sc × Ac) (p : Nat × Int), foldP k st ls = .error p → k < p.1
  | [], k, st, p, h => by rw [foldP] at h; cases h
  | x :: r, k, st, p, h => by
    rw [foldP] at h
    cases hs : stepP k st x with
    | error e => rw [hs] at h; injection h with h; subst h; exact Nat.lt_succ_self k
    | ok s2 => rw [hs] at h; have := foldP_pos r (k + 1) s2 p h; omega
theorem parse_back {t : Bs} {s : Sc} (h : parseP t = (s, 0, 0)) : mayS s = true ∧ textL s = t ∧ ∀ a ∈ s.acts, May a ∧ Typed a := by
  unfold parseP at h
  split at h
  · injection h with _ h; injection h with h _; cases h
  · next ht =>
    cases hf : foldP 0 (Sc.zero, Ac.zero) (linesL t) with
    | error p =>
      rw [hf] at h
      injection h with _ h
      injection h with h1 h2
      have := foldP_pos _ _ _ _ hf
      omega
    | ok st =>
      rw [hf] at h
      injection h with h _
      have hne := linesL_ne ht
      have hfl := linesL_flat t
      cases hl : linesL t with
      | nil => exact absurd hl hne
      | cons x r =>
        rw [hl] at hf hfl
        rw [foldP, stepP, if_pos rfl] at hf
        cases hp : firstP (Go.Lib.trimSuffix x [10]) with
        | none => rw [hp] at hf; cases hf
        | some p =>
          obtain ⟨a, b⟩ := p
          rw [hp] at hf
          dsimp only at hf
          cases he : Go.Lib.hasSuffix x [10] with
          | false => rw [he] at hf; cases hf
          | true =>
            rw [he, if_pos rfl] at hf
            dsimp only at hf
            obtain ⟨e1, e2, e3⟩ := first_back hp
            obtain ⟨l, g1, g2, g3, g4, _⟩ := fold_back r 1 a b [] Ac.zero st (Nat.le_refl _) (by decide) hf
            have hs : s = ⟨a, b, l⟩ := by rw [← h, g1]; rfl
            subst hs
            refine ⟨?_, ?_, g2⟩
            · unfold mayS
              simp only [Bool.and_eq_true, decide_eq_true_eq, Bool.not_eq_true', List.any_eq_false]
              refine ⟨⟨⟨⟨⟨e2.1, e2.2⟩, e3.1⟩, e3.2⟩, by simp at g3; omega⟩, fun c hc => ?_⟩
              obtain ⟨q1, q2⟩ := g2 c hc
              rw [may_iff q2, (mayAct_iff c).2 q1]; simp
            · rw [← hfl, List.flatten_cons, ← g4, nl_has he, e1]
              rfl
end Go.Proofs.YtnnahodajiolmaaGreatDoor.sc
