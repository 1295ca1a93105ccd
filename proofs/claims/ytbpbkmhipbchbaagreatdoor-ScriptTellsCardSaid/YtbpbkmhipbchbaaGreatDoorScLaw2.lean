/-
  PLAIN LAWS: an act's words are read as the act, and what is read is an act that may be, whose words these are; the reference's reading is the same. Conditions: numbers of their kinds.
-/
import Derived.Test.YtbpbkmhipbchbaaGreatDoorScLaw1
import Derived.Test.YtbpbkmhipbchbaaGreatDoorScLen
namespace Go.Proofs.YtbpbkmhipbchbaaGreatDoor.sc
open Go.Lib
set_option linter.unusedVariables false

/-! ### Which acts may be -/
def fits (n : Int) : Bool := decide (0 ≤ n) && decide (n ≤ big)
def clear (a : Ac) : Ac :=
  ⟨a.kind, if a.kind = 1 ∨ a.kind = 2 then a.client else 0,
    if a.kind = 1 then ⟨a.call.op, a.call.key, if a.call.op = 4 then a.call.hi else 0, if a.call.op = 4 then a.call.lim else 0, if a.call.op = 1 then a.call.val else []⟩ else Cl.zero,
    if a.kind = 3 then a.at_ else 0, if a.kind = 3 then a.n else 0, if a.kind = 4 then a.keep else []⟩
def mayAct (a : Ac) : Bool :=
  decide (1 ≤ a.kind) && decide (a.kind ≤ 7) && fits a.client && fits a.n && fits a.call.lim && decide (a = clear a)
    && (if a.kind = 1 then decide (1 ≤ a.call.op) && decide (a.call.op ≤ 4) else true) && a.keep.all fits
theorem fits_iff {n : Int} : fits n = true ↔ 0 ≤ n ∧ n ≤ 1099511627776 := by
  unfold fits big
  rw [Bool.and_eq_true, decide_eq_true_eq, decide_eq_true_eq]
structure May (a : Ac) : Prop where
  k1 : 1 ≤ a.kind
  k7 : a.kind ≤ 7
  client : 0 ≤ a.client ∧ a.client ≤ 1099511627776
  n : 0 ≤ a.n ∧ a.n ≤ 1099511627776
  lim : 0 ≤ a.call.lim ∧ a.call.lim ≤ 1099511627776
  same : a = clear a
  op : a.kind = 1 → 1 ≤ a.call.op ∧ a.call.op ≤ 4
  keep : ∀ k ∈ a.keep, 0 ≤ k ∧ k ≤ 1099511627776
theorem mayAct_iff (a : Ac) : mayAct a = true ↔ May a := by
  unfold mayAct
  simp only [Bool.and_eq_true, decide_eq_true_eq, fits_iff, List.all_eq_true]
  constructor
  · rintro ⟨⟨⟨⟨⟨⟨⟨h1, h2⟩, h3⟩, h4⟩, h5⟩, h6⟩, h7⟩, h8⟩
    exact ⟨h1, h2, h3, h4, h5, h6, fun hk => by rw [if_pos hk] at h7; simpa using h7, h8⟩
  · intro ⟨h1, h2, h3, h4, h5, h6, h7, h8⟩
    refine ⟨⟨⟨⟨⟨⟨⟨h1, h2⟩, h3⟩, h4⟩, h5⟩, h6⟩, ?_⟩, h8⟩
    split
    · simpa using h7 (by assumption)
    · rfl
/-- The unsigned numbers are of 64 bits. -/
structure Typed (a : Ac) : Prop where
  key : 0 ≤ a.call.key ∧ a.call.key < 18446744073709551616
  hi : 0 ≤ a.call.hi ∧ a.call.hi < 18446744073709551616
  at_ : 0 ≤ a.at_ ∧ a.at_ < 18446744073709551616

/-! ### The forms of an act that may be -/
theorem may_forms {a : Ac} (h : May a) :
    (∃ c op key hi lim val, a = ⟨1, c, ⟨op, key, hi, lim, val⟩, 0, 0, []⟩ ∧ (op = 1 ∧ hi = 0 ∧ lim = 0 ∨ op = 2 ∧ hi = 0 ∧ lim = 0 ∧ val = [] ∨ op = 3 ∧ hi = 0 ∧ lim = 0 ∧ val = [] ∨ op = 4 ∧ val = []))
    ∨ (∃ c, a = ⟨2, c, Cl.zero, 0, 0, []⟩) ∨ (∃ p n, a = ⟨3, 0, Cl.zero, p, n, []⟩) ∨ (∃ t, a = ⟨4, 0, Cl.zero, 0, 0, t⟩) ∨ (∃ k, (k = 5 ∨ k = 6 ∨ k = 7) ∧ a = ⟨k, 0, Cl.zero, 0, 0, []⟩) := by
  obtain ⟨k1, k7, _, _, _, same, op, _⟩ := h
  obtain ⟨kind, client, ⟨o, key, hi, lim, val⟩, at_, n, keep⟩ := a
  simp only at k1 k7 op
  simp only [clear, Ac.mk.injEq, true_and] at same
  obtain ⟨s1, s2, s3, s4, s5⟩ := same
  have : kind = 1 ∨ kind = 2 ∨ kind = 3 ∨ kind = 4 ∨ kind = 5 ∨ kind = 6 ∨ kind = 7 := by omega
  rcases this with rfl | rfl | rfl | rfl | rfl | rfl | rfl
  · simp at s1 s2 s3 s4 s5
    obtain ⟨o1, o4⟩ := op rfl
    refine .inl ⟨client, o, key, hi, lim, val, by rw [s3, s4, s5], ?_⟩
    have : o = 1 ∨ o = 2 ∨ o = 3 ∨ o = 4 := by omega
    rcases this with rfl | rfl | rfl | rfl <;> simp at s2 <;> simp [s2]
  · simp at s2 s3 s4 s5
    exact .inr (.inl ⟨client, by rw [s2, s3, s4, s5]⟩)
  · simp at s1 s2 s5
    exact .inr (.inr (.inl ⟨at_, n, by rw [s1, s2, s5]⟩))
  · simp at s1 s2 s3 s4
    exact .inr (.inr (.inr (.inl ⟨keep, by rw [s1, s2, s3, s4]⟩)))
  · simp at s1 s2 s3 s4 s5
    exact .inr (.inr (.inr (.inr ⟨5, by omega, by rw [s1, s2, s3, s4, s5]⟩)))
  · simp at s1 s2 s3 s4 s5
    exact .inr (.inr (.inr (.inr ⟨6, by omega, by rw [s1, s2, s3, s4, s5]⟩)))
  · simp at s1 s2 s3 s4 s5
    exact .inr (.inr (.inr (.inr ⟨7, by omega, by rw [s1, s2, s3, s4, s5]⟩)))

/-! ### Words that are read again -/
theorem keeps_num : ∀ t : List Int, (∀ k ∈ t, 0 ≤ k ∧ k ≤ 1099511627776) → keeps (t.map num) = some t
  | [], _ => rfl
  | k :: t, h => by
    obtain ⟨h1, h2⟩ := h k List.mem_cons_self
    rw [List.map_cons, keeps, whole_num k 0 big h1 h1 (by unfold big; omega) (by omega), keeps_num t fun x hx => h x (List.mem_cons_of_mem _ hx)]
theorem keeps_some : ∀ (l : List Bs) (t : List Int), keeps l = some t → t.map num = l ∧ ∀ k ∈ t, 0 ≤ k ∧ k ≤ 1099511627776
  | [], t, h => by simp [keeps] at h; subst h; simp
  | x :: r, t, h => by
    rw [keeps] at h
    cases hw : whole x 0 big with
    | none => rw [hw] at h; cases h
    | some k =>
      cases hk : keeps r with
      | none => rw [hw, hk] at h; cases h
      | some t' =>
        rw [hw, hk] at h
        injection h with h
        subst h
        obtain ⟨h1, h2, h3, _⟩ := whole_some hw
        obtain ⟨g1, g2⟩ := keeps_some r t' hk
        refine ⟨by rw [List.map_cons, h1, g1], fun y hy => ?_⟩
        rcases List.mem_cons.1 hy with rfl | hy
        · exact ⟨h2, h3⟩
        · exact g2 y hy
theorem idx_get {x : Bs} : ∀ (l : List Bs) (i j : Nat), idx x l i = (j : Int) → i ≤ j ∧ l[j - i]? = some x
  | [], i, j, h => by rw [idx] at h; omega
  | y :: r, i, j, h => by
    rw [idx] at h
    split at h
    · rename_i hy
      have : i = j := by omega
      subst this
      exact ⟨Nat.le_refl _, by rw [Nat.sub_self, List.getElem?_cons_zero, hy]⟩
    · obtain ⟨h1, h2⟩ := idx_get r (i + 1) j h
      refine ⟨by omega, ?_⟩
      rw [show j - i = (j - (i + 1)) + 1 by omega, List.getElem?_cons_succ]
      exact h2
theorem kind_name {o : Bs} (j : Nat) (h : idx o kindsL 0 = (j : Int)) : kindsL[j]? = some o := (idx_get kindsL 0 j h).2
theorem op_name {o : Bs} (j : Nat) (h : idx o opsL 0 = (j : Int)) : opsL[j]? = some o := (idx_get opsL 0 j h).2

theorem len1 {l : List Bs} (h : l.length = 1) : ∃ x, l = [x] := List.length_eq_one_iff.1 h
theorem len2 {l : List Bs} (h : l.length = 2) : ∃ x y, l = [x, y] := by
  match l, h with
  | [x, y], _ => exact ⟨x, y, rfl⟩

theorem ofCall_words (c : Cl) (h : c.op = 1 ∧ c.hi = 0 ∧ c.lim = 0 ∨ c.op = 2 ∧ c.hi = 0 ∧ c.lim = 0 ∧ c.val = [] ∨ c.op = 3 ∧ c.hi = 0 ∧ c.lim = 0 ∧ c.val = [] ∨ c.op = 4 ∧ c.val = [])
    (hk : 0 ≤ c.key ∧ c.key < 18446744073709551616) (hh : 0 ≤ c.hi ∧ c.hi < 18446744073709551616) (hl : 0 ≤ c.lim ∧ c.lim ≤ 1099511627776) : ofCall (callW c) = some c := by
  obtain ⟨op, key, hi, lim, val⟩ := c
  simp only at h hk hh hl
  have e := any64_num key hk.1 hk.2
  have ek : ((key.toNat : Nat) : Int) = key := Int.toNat_of_nonneg hk.1
  rcases h with ⟨rfl, rfl, rfl⟩ | ⟨rfl, rfl, rfl, rfl⟩ | ⟨rfl, rfl, rfl, rfl⟩ | ⟨rfl, rfl⟩
  · simp [callW, ofCall, e, ek, show idx sPut opsL 0 = 1 by decide, value_digits]
  · simp [callW, ofCall, e, ek, show idx sGet opsL 0 = 2 by decide]
  · simp [callW, ofCall, e, ek, show idx sDelete opsL 0 = 3 by decide]
  · simp [callW, ofCall, e, ek, show idx sScan opsL 0 = 4 by decide, any64_num hi hh.1 hh.2, whole_num lim 0 big hl.1 hl.1 (by unfold big; omega) (by omega), Int.toNat_of_nonneg hh.1]
theorem ofCall_some {l : List Bs} {c : Cl} (h : ofCall l = some c) :
    callW c = l ∧ (c.op = 1 ∧ c.hi = 0 ∧ c.lim = 0 ∨ c.op = 2 ∧ c.hi = 0 ∧ c.lim = 0 ∧ c.val = [] ∨ c.op = 3 ∧ c.hi = 0 ∧ c.lim = 0 ∧ c.val = [] ∨ c.op = 4 ∧ c.val = [])
    ∧ (0 ≤ c.key ∧ c.key < 18446744073709551616) ∧ (0 ≤ c.hi ∧ c.hi < 18446744073709551616) ∧ (0 ≤ c.lim ∧ c.lim ≤ 1099511627776) := by
  match l with
  | [] => simp [ofCall] at h
  | [_] => simp [ofCall] at h
  | o :: k :: r =>
    rw [ofCall] at h
    cases ha : any64 k with
    | none => rw [ha] at h; cases h
    | some key =>
      rw [ha] at h
      simp only at h
      obtain ⟨n1, n2⟩ := any64_some ha
      split at h
      · rename_i hc
        obtain ⟨x, rfl⟩ := len1 hc.2
        have ho := op_name 1 hc.1
        simp only [opsL, List.getElem?_cons_succ, List.getElem?_cons_zero, Option.some.injEq] at ho
        subst ho
        simp only [List.getD_cons_zero] at h
        cases hv : valueP x with
        | none => rw [hv] at h; cases h
        | some v =>
          rw [hv] at h
          simp only [Option.map_some, Option.some.injEq] at h
          subst h
          exact ⟨by simp [callW, n1, digits_value hv], .inl ⟨rfl, rfl, rfl⟩, by simp only; omega, by simp only; omega, by simp only; omega⟩
      · split at h
        · rename_i hc
          obtain ⟨x, y, rfl⟩ := len2 hc.2
          have ho := op_name 4 hc.1
          simp only [opsL, List.getElem?_cons_succ, List.getElem?_cons_zero, Option.some.injEq] at ho
          subst ho
          simp only [List.getD_cons_zero, List.getD_cons_succ] at h
          cases hx : any64 x with
          | none => rw [hx] at h; cases h
          | some hi =>
            cases hy : whole y 0 big with
            | none => rw [hx, hy] at h; cases h
            | some m =>
              rw [hx, hy] at h
              simp only [Option.some.injEq] at h
              subst h
              obtain ⟨x1, x2⟩ := any64_some hx
              obtain ⟨y1, y2, y3, _⟩ := whole_some hy
              unfold big at y3
              exact ⟨by simp [callW, n1, x1, y1], .inr (.inr (.inr ⟨rfl, rfl⟩)), by simp only; omega, by simp only; omega, by simp only; omega⟩
        · split at h
          · rename_i hc
            obtain ⟨hc1, hc2⟩ := hc
            have hr : r = [] := List.eq_nil_of_length_eq_zero hc2
            subst hr
            simp only [Option.some.injEq] at h
            rcases hc1 with h2 | h3
            · have ho := op_name 2 h2
              simp only [opsL, List.getElem?_cons_succ, List.getElem?_cons_zero, Option.some.injEq] at ho
              rw [h2] at h
              subst ho; subst h
              exact ⟨by simp [callW, n1], .inr (.inl ⟨rfl, rfl, rfl, rfl⟩), by simp only; omega, by simp only; omega, by simp only; omega⟩
            · have ho := op_name 3 h3
              simp only [opsL, List.getElem?_cons_succ, List.getElem?_cons_zero, Option.some.injEq] at ho
              rw [h3] at h
              subst ho; subst h
              exact ⟨by simp [callW, n1], .inr (.inr (.inl ⟨rfl, rfl, rfl, rfl⟩)), by simp only; omega, by simp only; omega, by simp only; omega⟩
          · cases h

/-- How many times an act may stand in a line. -/
def Times (a : Ac) (n : Int) : Prop := 1 ≤ n ∧ n ≤ 100000 ∧ (again a = false → n = 1)

theorem ofL_words {a : Ac} (h : May a) (T : Typed a) (n : Int) (hn : Times a n) : ofL (wordsL a n) = some (a, n) := by
  obtain ⟨n1, n2, n3⟩ := hn
  rcases may_forms h with ⟨c, op, key, hi, lim, val, rfl, hop⟩ | ⟨c, rfl⟩ | ⟨p, m, rfl⟩ | ⟨t, rfl⟩ | ⟨k, hk, rfl⟩
  · have := n3 rfl
    subst this
    have e := whole_num c 0 big h.client.1 h.client.1 (by unfold big; exact h.client.2) (by have := h.client.2; simp only at this; omega)
    have e2 := ofCall_words ⟨op, key, hi, lim, val⟩ hop T.key T.hi h.lim
    simp [wordsL, ofL, show idx sInvoke kindsL 0 = 1 by decide, e, e2]
  · have e := whole_num c 0 big h.client.1 h.client.1 (by unfold big; exact h.client.2) (by have := h.client.2; simp only at this; omega)
    have e2 := whole_num n 1 maxScript (by omega) n1 (by unfold maxScript; omega) (by omega)
    simp [wordsL, ofL, show idx sPick kindsL 0 = 2 by decide, e, e2]
  · have := n3 rfl
    subst this
    have e := any64_num p T.at_.1 T.at_.2
    have e2 := whole_num m 0 big h.n.1 h.n.1 (by unfold big; exact h.n.2) (by have := h.n.2; simp only at this; omega)
    have e3 : ((p.toNat : Nat) : Int) = p := Int.toNat_of_nonneg T.at_.1
    simp [wordsL, ofL, show idx sEvict kindsL 0 = 3 by decide, e, e2, e3]
  · have := n3 rfl
    subst this
    have e := keeps_num t h.keep
    simp [wordsL, ofL, show idx sCrash kindsL 0 = 4 by decide, e]
  · rcases hk with rfl | rfl | rfl
    · have := n3 rfl
      subst this
      simp [wordsL, ofL, show idx sOpen kindsL 0 = 5 by decide]
    · have := n3 rfl
      subst this
      simp [wordsL, ofL, show idx sScavenge kindsL 0 = 6 by decide]
    · have e2 := whole_num n 1 maxScript (by omega) n1 (by unfold maxScript; omega) (by omega)
      simp [wordsL, ofL, show idx sBoot kindsL 0 = 7 by decide, e2]

theorem ofL_some {l : List Bs} {a : Ac} {n : Int} (h : ofL l = some (a, n)) : May a ∧ Typed a ∧ Times a n ∧ wordsL a n = l := by
  match l with
  | [] => simp [ofL] at h
  | o :: f =>
    unfold ofL at h
    simp only at h
    split at h
    · rename_i hk
      have ho := kind_name 1 hk
      simp only [kindsL, List.getElem?_cons_succ, List.getElem?_cons_zero, Option.some.injEq] at ho
      subst ho
      match f with
      | [] => simp at h
      | c :: r =>
        simp only at h
        cases hc : whole c 0 big with
        | none => rw [hc] at h; cases h
        | some ci =>
          cases hy : ofCall r with
          | none => rw [hc, hy] at h; cases h
          | some y =>
            rw [hc, hy] at h
            simp only [Option.some.injEq, Prod.mk.injEq] at h
            obtain ⟨rfl, rfl⟩ := h
            obtain ⟨c1, c2, c3, _⟩ := whole_some hc
            unfold big at c3
            obtain ⟨y1, y2, y3, y4, y5⟩ := ofCall_some hy
            refine ⟨⟨by simp, by simp, ⟨c2, c3⟩, by simp, y5, ?_, fun _ => by simp only; omega, by simp⟩, ⟨y3, y4, by simp⟩, ⟨by decide, by decide, fun _ => rfl⟩, by simp [wordsL, c1, y1]⟩
            obtain ⟨op, key, hi, lim, val⟩ := y
            simp only at y2
            rcases y2 with ⟨rfl, rfl, rfl⟩ | ⟨rfl, rfl, rfl, rfl⟩ | ⟨rfl, rfl, rfl, rfl⟩ | ⟨rfl, rfl⟩ <;> simp [clear]
    · split at h
      · rename_i hk
        obtain ⟨hk, hl⟩ := hk
        have ho := kind_name 2 hk
        simp only [kindsL, List.getElem?_cons_succ, List.getElem?_cons_zero, Option.some.injEq] at ho
        subst ho
        obtain ⟨x, y, rfl⟩ := len2 hl
        simp only [List.getD_cons_zero, List.getD_cons_succ] at h
        cases hx : whole x 0 big with
        | none => rw [hx] at h; cases h
        | some c =>
          cases hy : whole y 1 maxScript with
          | none => rw [hx, hy] at h; cases h
          | some m =>
            rw [hx, hy] at h
            simp only [Option.some.injEq, Prod.mk.injEq] at h
            obtain ⟨rfl, rfl⟩ := h
            obtain ⟨x1, x2, x3, _⟩ := whole_some hx
            obtain ⟨y1, y2, y3, _⟩ := whole_some hy
            unfold big at x3
            unfold maxScript at y3
            exact ⟨⟨by simp, by simp, ⟨x2, x3⟩, by simp, by simp [Cl.zero], by simp [clear, Cl.zero], by simp, by simp⟩, ⟨by simp [Cl.zero], by simp [Cl.zero], by simp⟩, ⟨y2, y3, by simp [again]⟩, by simp [wordsL, x1, y1]⟩
      · split at h
        · rename_i hk
          obtain ⟨hk, hl⟩ := hk
          have ho := kind_name 3 hk
          simp only [kindsL, List.getElem?_cons_succ, List.getElem?_cons_zero, Option.some.injEq] at ho
          subst ho
          obtain ⟨x, y, rfl⟩ := len2 hl
          simp only [List.getD_cons_zero, List.getD_cons_succ] at h
          cases hx : any64 x with
          | none => rw [hx] at h; cases h
          | some p =>
            cases hy : whole y 0 big with
            | none => rw [hx, hy] at h; cases h
            | some m =>
              rw [hx, hy] at h
              simp only [Option.some.injEq, Prod.mk.injEq] at h
              obtain ⟨rfl, rfl⟩ := h
              obtain ⟨x1, x2⟩ := any64_some hx
              obtain ⟨y1, y2, y3, _⟩ := whole_some hy
              unfold big at y3
              exact ⟨⟨by simp, by simp, by simp, ⟨y2, y3⟩, by simp [Cl.zero], by simp [clear, Cl.zero], by simp, by simp⟩, ⟨by simp [Cl.zero], by simp [Cl.zero], by simp only; omega⟩, ⟨by simp, by simp, by simp⟩, by simp [wordsL, x1, y1]⟩
        · split at h
          · rename_i hk
            have ho := kind_name 4 hk
            simp only [kindsL, List.getElem?_cons_succ, List.getElem?_cons_zero, Option.some.injEq] at ho
            subst ho
            cases hf : keeps f with
            | none => rw [hf] at h; cases h
            | some t =>
              rw [hf] at h
              simp only [Option.map_some, Option.some.injEq, Prod.mk.injEq] at h
              obtain ⟨rfl, rfl⟩ := h
              obtain ⟨f1, f2⟩ := keeps_some f t hf
              exact ⟨⟨by simp, by simp, by simp, by simp, by simp [Cl.zero], by simp [clear, Cl.zero], by simp, f2⟩, ⟨by simp [Cl.zero], by simp [Cl.zero], by simp⟩, ⟨by simp, by simp, by simp⟩, by simp [wordsL, f1]⟩
          · split at h
            · rename_i hk
              obtain ⟨hk, hl⟩ := hk
              have ho := kind_name 5 hk
              simp only [kindsL, List.getElem?_cons_succ, List.getElem?_cons_zero, Option.some.injEq] at ho
              subst ho
              have := List.eq_nil_of_length_eq_zero hl
              subst this
              simp only [Option.some.injEq, Prod.mk.injEq] at h
              obtain ⟨rfl, rfl⟩ := h
              exact ⟨⟨by simp, by simp, by simp, by simp, by simp [Cl.zero], by simp [clear, Cl.zero], by simp, by simp⟩, ⟨by simp [Cl.zero], by simp [Cl.zero], by simp⟩, ⟨by simp, by simp, by simp⟩, by simp [wordsL]⟩
            · split at h
              · rename_i hk
                obtain ⟨hk, hl⟩ := hk
                have ho := kind_name 6 hk
                simp only [kindsL, List.getElem?_cons_succ, List.getElem?_cons_zero, Option.some.injEq] at ho
                subst ho
                have := List.eq_nil_of_length_eq_zero hl
                subst this
                simp only [Option.some.injEq, Prod.mk.injEq] at h
                obtain ⟨rfl, rfl⟩ := h
                exact ⟨⟨by simp, by simp, by simp, by simp, by simp [Cl.zero], by simp [clear, Cl.zero], by simp, by simp⟩, ⟨by simp [Cl.zero], by simp [Cl.zero], by simp⟩, ⟨by simp, by simp, by simp⟩, by simp [wordsL]⟩
              · split at h
                · rename_i hk
                  obtain ⟨hk, hl⟩ := hk
                  have ho := kind_name 7 hk
                  simp only [kindsL, List.getElem?_cons_succ, List.getElem?_cons_zero, Option.some.injEq] at ho
                  subst ho
                  obtain ⟨x, rfl⟩ := len1 hl
                  simp only [List.getD_cons_zero] at h
                  cases hx : whole x 1 maxScript with
                  | none => rw [hx] at h; cases h
                  | some m =>
                    rw [hx] at h
                    simp only [Option.map_some, Option.some.injEq, Prod.mk.injEq] at h
                    obtain ⟨rfl, rfl⟩ := h
                    obtain ⟨y1, y2, y3, _⟩ := whole_some hx
                    unfold maxScript at y3
                    exact ⟨⟨by simp, by simp, by simp, by simp, by simp [Cl.zero], by simp [clear, Cl.zero], by simp, by simp⟩, ⟨by simp [Cl.zero], by simp [Cl.zero], by simp⟩, ⟨y2, y3, by simp [again]⟩, by simp [wordsL, y1]⟩
                · cases h

/-! ### Lines -/
theorem wordsL_ne (a : Ac) (n : Int) : wordsL a n ≠ [] := by
  unfold wordsL
  repeat' split
  all_goals simp
theorem names_plain : ∀ x ∈ [sInvoke, sPick, sEvict, sCrash, sOpen, sScavenge, sBoot, sNone, sPut, sGet, sDelete, sScan], ∀ b ∈ x, b ≠ 32 ∧ b ≠ 10 := by decide
theorem wordsL_plain {a : Ac} (h : May a) (T : Typed a) (n : Int) (hn : 1 ≤ n) : ∀ x ∈ wordsL a n, ∀ b ∈ x, b ≠ 32 ∧ b ≠ 10 := by
  have hN := names_plain
  intro x hx
  unfold wordsL at hx
  split at hx
  · rcases List.mem_cons.1 hx with rfl | hx
    · exact hN _ (by simp)
    rcases List.mem_cons.1 hx with rfl | hx
    · exact num_plain _ h.client.1
    · unfold callW at hx
      repeat' split at hx
      all_goals simp only [List.mem_cons, List.not_mem_nil, or_false] at hx
      · rcases hx with rfl | rfl | rfl
        · exact hN _ (by simp)
        · exact num_plain _ T.key.1
        · exact digits_plain _
      · rcases hx with rfl | rfl
        · exact hN _ (by simp)
        · exact num_plain _ T.key.1
      · rcases hx with rfl | rfl
        · exact hN _ (by simp)
        · exact num_plain _ T.key.1
      · rcases hx with rfl | rfl | rfl | rfl
        · exact hN _ (by simp)
        · exact num_plain _ T.key.1
        · exact num_plain _ T.hi.1
        · exact num_plain _ h.lim.1
      · rcases hx with rfl | rfl
        · exact hN _ (by simp)
        · exact num_plain _ T.key.1
  · split at hx
    · simp only [List.mem_cons, List.not_mem_nil, or_false] at hx
      rcases hx with rfl | rfl | rfl
      · exact hN _ (by simp)
      · exact num_plain _ h.client.1
      · exact num_plain _ (by omega)
    · split at hx
      · simp only [List.mem_cons, List.not_mem_nil, or_false] at hx
        rcases hx with rfl | rfl | rfl
        · exact hN _ (by simp)
        · exact num_plain _ T.at_.1
        · exact num_plain _ h.n.1
      · split at hx
        · rcases List.mem_cons.1 hx with rfl | hx
          · exact hN _ (by simp)
          · obtain ⟨k, hk, rfl⟩ := List.mem_map.1 hx
            exact num_plain _ (h.keep k hk).1
        · split at hx
          · simp only [List.mem_cons, List.not_mem_nil, or_false] at hx
            subst hx
            exact hN _ (by simp)
          · split at hx
            · simp only [List.mem_cons, List.not_mem_nil, or_false] at hx
              subst hx
              exact hN _ (by simp)
            · simp only [List.mem_cons, List.not_mem_nil, or_false] at hx
              rcases hx with rfl | rfl
              · exact hN _ (by simp)
              · exact num_plain _ (by omega)
theorem lineOf_line {a : Ac} (h : May a) (T : Typed a) (n : Int) (hn : Times a n) : lineOf (lineL a n) = some (a, n) := by
  unfold lineOf lineL
  rw [split_join _ (wordsL_ne a n) fun x hx b hb => (wordsL_plain h T n hn.1 x hx b hb).1]
  exact ofL_words h T n hn
theorem lineOf_some {s : Bs} {a : Ac} {n : Int} (h : lineOf s = some (a, n)) : May a ∧ Typed a ∧ Times a n ∧ lineL a n = s := by
  obtain ⟨h1, h2, h3, h4⟩ := ofL_some h
  exact ⟨h1, h2, h3, by rw [lineL, h4, join_split]⟩
theorem may_iff {a : Ac} (T : Typed a) : may a = mayAct a := by
  rw [Bool.eq_iff_iff, mayAct_iff]
  constructor
  · intro h
    unfold may at h
    split at h
    · cases h
    · cases hl : lineOf (lineL a 1) with
      | none => rw [hl] at h; cases h
      | some p =>
        obtain ⟨b, m⟩ := p
        rw [hl] at h
        simp only [decide_eq_true_eq] at h
        subst h
        exact (lineOf_some hl).1
  · intro h
    unfold may
    rw [if_neg, lineOf_line h T 1 ⟨by decide, by decide, fun _ => rfl⟩]
    · simp
    · have := h.k1
      have := h.k7
      have := h.op
      omega

end Go.Proofs.YtbpbkmhipbchbaaGreatDoor.sc
