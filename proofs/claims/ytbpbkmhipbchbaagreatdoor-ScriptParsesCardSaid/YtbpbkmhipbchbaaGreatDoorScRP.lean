/-
  PROVED HERE (plain): what the reference's Parse decides at each line is what parseP decides. Conditions: none.
-/
import Derived.Test.YtbpbkmhipbchbaaGreatDoorScR1
import Derived.Test.YtbpbkmhipbchbaaGreatDoorScQ7
namespace Go.Proofs.YtbpbkmhipbchbaaGreatDoor.sc
open Go.RowKit
set_option linter.unusedVariables false

theorem lines_end : ∀ x : Bs, (∀ b ∈ x, b ≠ 10) → x ≠ [] → linesL x = [x]
  | [], _, h => absurd rfl h
  | [b], h, _ => by rw [linesL, if_neg (h b (by simp))]; rfl
  | b :: c :: r, h, _ => by
    rw [linesL, if_neg (h b (by simp)), lines_end (c :: r) (fun d hd => h d (List.mem_cons_of_mem _ hd)) (by simp)]
theorem no_nl {x : Bs} (h : ∀ b ∈ x, b ≠ 10) : Go.Lib.hasSuffix x [10] = false := by
  cases hs : Go.Lib.hasSuffix x [10] with
  | false => rfl
  | true =>
    have h2 := nl_has hs
    exact absurd rfl (h 10 (by rw [h2]; simp))

def finP : Except (Nat × Int) (Sc × Ac) → Sc × Int × Int
  | .error p => (Sc.zero, (p.1 : Int), p.2)
  | .ok st => (st.1, 0, 0)
theorem parseP_fin {t : Bs} (h : t ≠ []) : parseP t = finP (foldP 0 (Sc.zero, Ac.zero) (linesL t)) := by
  rw [parseP, if_neg h]
  cases foldP 0 (Sc.zero, Ac.zero) (linesL t) <;> rfl
/-- k lines are read, up to place p; what is left is read on from st. -/
structure PI (t : Bs) (k p : Nat) (st : Sc × Ac) : Prop where
  le : p ≤ t.length
  ne : k ≠ 0 → t ≠ []
  z : k = 0 → p = 0 ∧ st = (Sc.zero, Ac.zero)
  one : k = 1 → st.2 = Ac.zero
  eq : t ≠ [] → parseP t = finP (foldP k st (linesL (t.drop p)))
theorem PI.start (t : Bs) : PI t 0 0 (Sc.zero, Ac.zero) := ⟨Nat.zero_le _, fun h => absurd rfl h, fun _ => ⟨rfl, rfl⟩, fun h => absurd h (by decide), fun h => by rw [parseP_fin h, List.drop_zero]⟩
section
variable {t line rest : Bs} {k p : Nat} {st st' : Sc × Ac}
theorem PI.done (h : PI t k t.length st) (hk : k ≠ 0) : parseP t = (st.1, 0, 0) := by
  rw [h.eq (h.ne hk), List.drop_length]; rfl
theorem PI.cut (h : PI t k p st) (hn : ∀ b ∈ t.drop p, b ≠ 10) (hp : p < t.length ∨ k = 0) : parseP t = (Sc.zero, ((k : Int) + 1), 11) := by
  by_cases ht : t = []
  · have hk : k = 0 := by
      rcases Nat.eq_zero_or_pos k with h0 | h0
      · exact h0
      · exact absurd ht (h.ne (by omega))
    subst hk
    rw [parseP, if_pos ht]; rfl
  · have hx : t.drop p ≠ [] := by
      intro e
      have hl : (t.drop p).length = t.length - p := List.length_drop ..
      rw [e] at hl
      have h0 : t.length ≠ 0 := fun e => ht (List.eq_nil_of_length_eq_zero e)
      rcases hp with hp | hp
      · simp at hl; omega
      · have := (h.z hp).1; simp at hl; omega
    have hs : stepP k st (t.drop p) = .error 11 := by
      rw [stepP]
      split
      · split
        · rfl
        · rw [no_nl hn, if_neg (by decide)]
      · split
        · rfl
        · exact if_pos (.inl (no_nl hn))
    rw [h.eq ht, lines_end _ hn hx, foldP, hs]
    show (Sc.zero, (((k + 1 : Nat)) : Int), (11 : Int)) = _
    rw [Int.natCast_succ]
theorem PI.tne (h : PI t k p st) (hd : t.drop p = line ++ 10 :: rest) : t ≠ [] := by
  rintro rfl
  rw [List.drop_nil] at hd
  simp at hd
theorem PI.err (h : PI t k p st) (hd : t.drop p = line ++ 10 :: rest) (hl : ∀ b ∈ line, b ≠ 10) {e : Int} (hs : stepP k st (line ++ [10]) = .error e) : parseP t = (Sc.zero, ((k : Int) + 1), e) := by
  rw [h.eq (h.tne hd), hd, linesL_line _ _ hl, foldP, hs]
  show (Sc.zero, (((k + 1 : Nat)) : Int), e) = _
  rw [Int.natCast_succ]
theorem PI.go (h : PI t k p st) (hd : t.drop p = line ++ 10 :: rest) (hl : ∀ b ∈ line, b ≠ 10) (hs : stepP k st (line ++ [10]) = .ok st') (h0 : k = 0 → st'.2 = Ac.zero) : PI t (k + 1) (p + line.length + 1) st' := by
  have hlen : (t.drop p).length = t.length - p := List.length_drop ..
  rw [hd] at hlen
  simp at hlen
  refine ⟨by have := h.le; omega, fun _ => h.tne hd, fun e => by omega, fun e => h0 (by omega), fun ht => ?_⟩
  rw [h.eq ht, hd, linesL_line _ _ hl, foldP, hs]
  show finP (foldP (k + 1) st' (linesL rest)) = _
  have hr : t.drop (p + line.length + 1) = rest := by
    rw [show p + line.length + 1 = p + (line.length + 1) by omega, ← List.drop_drop, hd]
    rw [show line ++ 10 :: rest = (line ++ [10]) ++ rest by simp, List.drop_left' (by simp)]
  rw [hr]
theorem PI.two (h : PI t k p st) (hk : k ≠ 0) {a : Ac} {n : Int} (hf : lineOf line = some (a, n)) (e : a = st.2) : 2 ≤ k := by
  by_cases h1 : k = 1
  · have h2 := h.one h1
    have h3 := (lineOf_some hf).1.k1
    rw [e, h2] at h3
    exact absurd h3 (by decide)
  · omega
end

/-! ### The first line -/
theorem text_head (x y : Int) : textL ⟨x, y, []⟩ = joinB [sLevee, num x, num y] ++ [10] := by
  unfold textL headL
  rw [show (⟨x, y, []⟩ : Sc).acts = [] from rfl, rowsL_nil]
  simp [bodyL]
theorem first_yes {line : Bs} {x y : Int} (hM : mayR ⟨x, y, []⟩ = true) (ht : textL ⟨x, y, []⟩ = line ++ [10]) : firstP line = some (x, y) := by
  rw [text_head] at ht
  have hl := List.append_cancel_right ht
  unfold mayR at hM
  simp only [Bool.and_eq_true, decide_eq_true_eq] at hM
  obtain ⟨⟨⟨⟨⟨h1, h2⟩, h3⟩, h4⟩, _⟩, _⟩ := hM
  rw [← hl]
  exact first_head ⟨h1, h2⟩ ⟨h3, h4⟩
theorem first_no {line : Bs} (h : mayR ⟨smallR (wd line 1), smallR (wd line 2), []⟩ = false ∨ textL ⟨smallR (wd line 1), smallR (wd line 2), []⟩ ≠ line ++ [10]) : firstP line = none := by
  cases hf : firstP line with
  | none => rfl
  | some q =>
    obtain ⟨a, b⟩ := q
    obtain ⟨hl, ha, hb⟩ := first_back hf
    have hp : ∀ x ∈ [sLevee, num a, num b], ∀ c ∈ x, c ≠ 32 := by
      intro x hx c hc
      simp only [List.mem_cons, List.not_mem_nil, or_false] at hx
      rcases hx with rfl | rfl | rfl
      · revert c; decide
      · exact (num_plain a (by omega) c hc).1
      · exact (num_plain b (by omega) c hc).1
    have hs : splitC 32 line = [sLevee, num a, num b] := by rw [hl]; exact split_join _ (by simp) hp
    have w1 : wd line 1 = num a := by unfold wd; rw [hs]; rfl
    have w2 : wd line 2 = num b := by unfold wd; rw [hs]; rfl
    rw [w1, w2, smallR_num a (by omega) (by omega), smallR_num b (by omega) (by omega)] at h
    rcases h with h | h
    · exfalso
      unfold mayR at h
      rw [decide_eq_true ha.1, decide_eq_true ha.2, decide_eq_true hb.1, decide_eq_true hb.2] at h
      simp at h
    · exact absurd (by rw [text_head, ← hl]) h
theorem step0_ok {st : Sc × Ac} {line : Bs} {x y : Int} (h : firstP line = some (x, y)) : stepP 0 st (line ++ [10]) = .ok (⟨x, y, []⟩, Ac.zero) := by
  rw [stepP, if_pos rfl, trim_nl, h]
  exact if_pos (has_nl line)
theorem step0_bad {st : Sc × Ac} {line : Bs} (h : firstP line = none) : stepP 0 st (line ++ [10]) = .error 11 := by
  rw [stepP, if_pos rfl, trim_nl, h]

/-! ### Where a line ends -/
theorem cut_at {x : Bs} {m : Nat} (h1 : ∀ j, j < m → ∃ b, x[j]? = some b ∧ b ≠ 10) (h2 : x[m]? = some 10) : x = x.take m ++ 10 :: x.drop (m + 1) ∧ (∀ b ∈ x.take m, b ≠ 10) ∧ (x.take m).length = m := by
  have hl : m < x.length := (List.getElem?_eq_some_iff.1 h2).1
  refine ⟨?_, fun b hb => ?_, by rw [List.length_take]; omega⟩
  · have h3 : x.drop m = 10 :: x.drop (m + 1) := by
      rw [List.drop_eq_getElem_cons hl]
      congr 1
      rw [List.getElem?_eq_getElem hl] at h2; injection h2
    rw [← h3, List.take_append_drop]
  · obtain ⟨j, hj, e⟩ := List.mem_iff_getElem.1 hb
    rw [List.length_take] at hj
    obtain ⟨c, hc, hne⟩ := h1 j (by omega)
    rw [List.getElem_take] at e
    rw [List.getElem?_eq_getElem (by omega), e] at hc
    injection hc with hc
    rw [hc]; exact hne
end Go.Proofs.YtbpbkmhipbchbaaGreatDoor.sc
