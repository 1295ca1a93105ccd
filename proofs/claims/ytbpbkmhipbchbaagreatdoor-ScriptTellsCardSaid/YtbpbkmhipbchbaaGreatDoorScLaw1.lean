/-
  PLAIN LAWS (no program in sight): cutting and joining at blanks, decimal and hexadecimal texts and back. Conditions: as each says.
-/
import Derived.Test.YtbpbkmhipbchbaaGreatDoorScDefs
import Derived.Lib.ParseIntBCases
namespace Go.Proofs.YtbpbkmhipbchbaaGreatDoor.sc
open Go.Lib
set_option linter.unusedVariables false

/-! ### Cutting and joining -/
theorem splitC_ne (c : UInt8) : ∀ s : Bs, splitC c s ≠ []
  | [] => by simp [splitC]
  | x :: r => by
    rw [splitC]
    split
    · simp
    · split <;> simp
theorem joinB_one (x : Bs) : joinB [x] = x := by rw [joinB, join_one]
theorem joinB_cons2 (x y : Bs) (r : List Bs) : joinB (x :: y :: r) = x ++ 32 :: joinB (y :: r) := by
  rw [joinB, joinB, join_cons, join_cons]
  simp [joinTail]
theorem join_split : ∀ s : Bs, joinB (splitC 32 s) = s
  | [] => rfl
  | x :: r => by
    have ih := join_split r
    rw [splitC]
    split
    · rename_i h
      cases hs : splitC 32 r with
      | nil => exact absurd hs (splitC_ne 32 r)
      | cons y t => rw [joinB_cons2, ← hs, ih, h]; rfl
    · cases hs : splitC 32 r with
      | nil => exact absurd hs (splitC_ne 32 r)
      | cons y t =>
        rw [hs] at ih
        show joinB ((x :: y) :: t) = x :: r
        rw [← ih, joinB, joinB, join_cons, join_cons]; rfl
theorem split_word (c : UInt8) : ∀ x : Bs, (∀ b ∈ x, b ≠ c) → splitC c x = [x]
  | [], _ => rfl
  | b :: x, h => by
    rw [splitC, if_neg (h b List.mem_cons_self), split_word c x fun y hy => h y (List.mem_cons_of_mem _ hy)]
theorem split_word_cons (c : UInt8) (s : Bs) : ∀ x : Bs, (∀ b ∈ x, b ≠ c) → splitC c (x ++ c :: s) = x :: splitC c s
  | [], _ => by rw [List.nil_append, splitC, if_pos rfl]
  | b :: x, h => by
    rw [List.cons_append, splitC, if_neg (h b List.mem_cons_self), split_word_cons c s x fun y hy => h y (List.mem_cons_of_mem _ hy)]
theorem split_join : ∀ ws : List Bs, ws ≠ [] → (∀ x ∈ ws, ∀ b ∈ x, b ≠ 32) → splitC 32 (joinB ws) = ws
  | [], h, _ => absurd rfl h
  | [x], _, h => by rw [joinB_one, split_word 32 x (h x List.mem_cons_self)]
  | x :: y :: r, _, h => by
    rw [joinB_cons2, split_word_cons 32 _ x (h x List.mem_cons_self), split_join (y :: r) (by simp) fun z hz => h z (List.mem_cons_of_mem _ hz)]

/-! ### Decimal -/
theorem dec_digit : ∀ u : Nat, ∀ b ∈ decDigits u, 48 ≤ b.toNat ∧ b.toNat ≤ 57 := by
  intro u
  induction u using Nat.strongRecOn with
  | _ u ih =>
    intro b hb
    rw [decDigits] at hb
    split at hb
    · rename_i h
      simp only [List.mem_singleton] at hb
      subst hb
      have e : (UInt8.ofNat (48 + u)).toNat = 48 + u := by rw [UInt8.toNat_ofNat']; omega
      omega
    · rename_i h
      rcases List.mem_append.1 hb with hb | hb
      · exact ih (u / 10) (by omega) b hb
      · simp only [List.mem_singleton] at hb
        subst hb
        have e : (UInt8.ofNat (48 + u % 10)).toNat = 48 + u % 10 := by rw [UInt8.toNat_ofNat']; omega
        omega
theorem dec_ne (u : Nat) : decDigits u ≠ [] := by
  rw [decDigits]; split <;> simp
theorem parse_app (M : Nat) (c : UInt8) : ∀ (l : Bs) (acc a : Nat), parseUintM M acc l = .ok a → parseUintM M acc (l ++ [c]) = parseUintM M a [c]
  | [], acc, a, h => by
    simp only [parseUintM] at h
    injection h with h
    subst h; rfl
  | x :: r, acc, a, h => by
    rw [parseUintM] at h
    rw [List.cons_append, parseUintM]
    split at h
    · rename_i h1
      rw [if_pos h1]
      split at h
      · cases h
      · rename_i h2
        rw [if_neg h2]
        split at h
        · cases h
        · rename_i h3
          rw [if_neg h3]
          exact parse_app M c r _ a h
    · cases h
theorem parse_dec : ∀ u : Nat, u ≤ 18446744073709551615 → parseUintM 18446744073709551615 0 (decDigits u) = .ok u := by
  intro u
  induction u using Nat.strongRecOn with
  | _ u ih =>
    intro hu
    rw [decDigits]
    split
    · rename_i h
      have e : (UInt8.ofNat (48 + u)).toNat = 48 + u := by rw [UInt8.toNat_ofNat']; omega
      rw [parseUintM, e, if_pos (by omega), if_neg (by omega), if_neg (by omega), parseUintM]
      congr 1; omega
    · rename_i h
      have e : (UInt8.ofNat (48 + u % 10)).toNat = 48 + u % 10 := by rw [UInt8.toNat_ofNat']; omega
      rw [parse_app _ _ _ _ _ (ih (u / 10) (by omega) (by omega)), parseUintM, e, if_pos (by omega), if_neg (by omega), if_neg (by omega), parseUintM]
      congr 1; omega
theorem num_nat' (u : Nat) : num (u : Int) = decDigits u := by
  unfold num itoa
  rw [if_neg (by omega), Int.toNat_natCast]
theorem any64_num (n : Int) (h0 : 0 ≤ n) (h1 : n < 18446744073709551616) : any64 (num n) = some n.toNat := by
  obtain ⟨u, rfl⟩ : ∃ u : Nat, n = u := ⟨n.toNat, by omega⟩
  rw [num_nat', Int.toNat_natCast]
  unfold any64 parseUintB
  rw [if_neg (dec_ne u), show (2 ^ 64 - 1 : Nat) = 18446744073709551615 from rfl, parse_dec u (by omega)]
  exact if_pos rfl
theorem any64_some {l : Bs} {u : Nat} (h : any64 l = some u) : num (u : Int) = l ∧ u < 18446744073709551616 := by
  unfold any64 at h
  cases hp : parseUintB 64 l with
  | ok v =>
    rw [hp] at h
    simp only at h
    split at h
    · rename_i hd
      injection h with h
      subst h
      have := Go.Lib.parseUintB_le hp
      exact ⟨by rw [num_nat']; exact hd, by omega⟩
    · cases h
  | _ => rw [hp] at h; cases h
theorem whole_num (n lo hi : Int) (h0 : 0 ≤ n) (h1 : lo ≤ n) (h2 : n ≤ hi) (h3 : n < 18446744073709551616) : whole (num n) lo hi = some n := by
  unfold whole
  rw [any64_num n h0 h3]
  simp only
  rw [if_pos (by omega), Int.toNat_of_nonneg h0]
theorem whole_some {l : Bs} {lo hi n : Int} (h : whole l lo hi = some n) : num n = l ∧ lo ≤ n ∧ n ≤ hi ∧ 0 ≤ n := by
  unfold whole at h
  cases ha : any64 l with
  | none => rw [ha] at h; cases h
  | some u =>
    rw [ha] at h
    simp only at h
    split at h
    · rename_i hb
      injection h with h
      subst h
      exact ⟨(any64_some ha).1, hb.1, hb.2, by omega⟩
    · cases h
theorem num_digit (n : Int) (h : 0 ≤ n) : ∀ b ∈ num n, 48 ≤ b.toNat ∧ b.toNat ≤ 57 := by
  obtain ⟨u, rfl⟩ : ∃ u : Nat, n = u := ⟨n.toNat, by omega⟩
  rw [num_nat']; exact dec_digit u
theorem num_inj {a b : Int} (ha : 0 ≤ a) (hb : 0 ≤ b) (ha' : a < 18446744073709551616) (hb' : b < 18446744073709551616) (h : num a = num b) : a = b := by
  have h1 := any64_num a ha ha'
  have h2 := any64_num b hb hb'
  rw [h, h2] at h1
  injection h1 with h1
  omega

/-! ### Hexadecimal -/
theorem hexd_fin : ∀ i : Fin 16, Go.Lib.indexByte hexes (hexd i.val) = (i.val : Int) ∧ hexd i.val ≠ 32 ∧ hexd i.val ≠ 10 := by decide +kernel
theorem hexes_fin : ∀ n : Fin 256, 0 ≤ Go.Lib.indexByte hexes (UInt8.ofNat n.val) → (Go.Lib.indexByte hexes (UInt8.ofNat n.val)).toNat < 16 ∧ hexd (Go.Lib.indexByte hexes (UInt8.ofNat n.val)).toNat = UInt8.ofNat n.val := by decide +kernel
theorem hexd_idx {n : Nat} (h : n < 16) : Go.Lib.indexByte hexes (hexd n) = (n : Int) := (hexd_fin ⟨n, h⟩).1
theorem idx_hexd {b : UInt8} (h : 0 ≤ Go.Lib.indexByte hexes b) : (Go.Lib.indexByte hexes b).toNat < 16 ∧ hexd (Go.Lib.indexByte hexes b).toNat = b := by
  have := hexes_fin ⟨b.toNat, b.toNat_lt⟩
  simp only [UInt8.ofNat_toNat] at this
  exact this h
theorem unhex_hex : ∀ v : Bs, unhexP (v.flatMap hex2) = some v
  | [] => rfl
  | b :: r => by
    have hb := b.toNat_lt
    have h1 := hexd_idx (n := b.toNat / 16) (by omega)
    have h2 := hexd_idx (n := b.toNat % 16) (by omega)
    rw [List.flatMap_cons]
    show unhexP (hexd (b.toNat / 16) :: hexd (b.toNat % 16) :: r.flatMap hex2) = _
    rw [unhexP, h1, h2, if_neg (by omega), unhex_hex r]
    simp only [Option.map_some, Option.some.injEq, List.cons.injEq, and_true, Int.toNat_natCast]
    rw [show b.toNat / 16 * 16 + b.toNat % 16 = b.toNat by omega, UInt8.ofNat_toNat]
theorem hex_unhex : ∀ (n : Nat) (l v : Bs), l.length ≤ n → unhexP l = some v → v.flatMap hex2 = l
  | _, [], v, _, h => by simp [unhexP] at h; subst h; rfl
  | _, [x], v, _, h => by simp [unhexP] at h
  | n + 1, a :: b :: r, v, hn, h => by
    rw [unhexP] at h
    split at h
    · cases h
    · rename_i hi
      cases hr : unhexP r with
      | none => rw [hr] at h; cases h
      | some t =>
        rw [hr] at h
        simp only [Option.map_some, Option.some.injEq] at h
        subst h
        obtain ⟨a1, a2⟩ := idx_hexd (b := a) (by omega)
        obtain ⟨b1, b2⟩ := idx_hexd (b := b) (by omega)
        have e : (UInt8.ofNat ((Go.Lib.indexByte hexes a).toNat * 16 + (Go.Lib.indexByte hexes b).toNat)).toNat = (Go.Lib.indexByte hexes a).toNat * 16 + (Go.Lib.indexByte hexes b).toNat := by
          rw [UInt8.toNat_ofNat']; omega
        rw [List.flatMap_cons, hex2, e, hex_unhex n r t (by simp at hn; omega) hr]
        rw [show ((Go.Lib.indexByte hexes a).toNat * 16 + (Go.Lib.indexByte hexes b).toNat) / 16 = (Go.Lib.indexByte hexes a).toNat by omega,
          show ((Go.Lib.indexByte hexes a).toNat * 16 + (Go.Lib.indexByte hexes b).toNat) % 16 = (Go.Lib.indexByte hexes b).toNat by omega, a2, b2]
        rfl
theorem value_digits (v : Bs) : valueP (digits v) = some v := by
  unfold digits
  split
  · rename_i h; subst h; rfl
  · rename_i h
    unfold valueP
    cases v with
    | nil => exact absurd rfl h
    | cons b r =>
      rw [if_neg, if_neg, unhex_hex]
      · simp [hex2]
      · simp [hex2]
theorem digits_value {l v : Bs} (h : valueP l = some v) : digits v = l := by
  unfold valueP at h
  split at h
  · rename_i hl
    injection h with h
    subst h; subst hl; rfl
  · split at h
    · cases h
    · rename_i h1 h2
      have := hex_unhex l.length l v (Nat.le_refl _) h
      unfold digits
      rw [if_neg, this]
      rintro rfl
      exact h2 this.symm
theorem digits_plain (v : Bs) : ∀ b ∈ digits v, b ≠ 32 ∧ b ≠ 10 := by
  intro b hb
  unfold digits at hb
  split at hb
  · simp only [List.mem_singleton] at hb; subst hb; decide
  · obtain ⟨x, _, hx⟩ := List.mem_flatMap.1 hb
    have hlt := x.toNat_lt
    simp only [hex2, List.mem_cons, List.not_mem_nil, or_false] at hx
    rcases hx with rfl | rfl
    · exact (hexd_fin ⟨x.toNat / 16, by omega⟩).2
    · exact (hexd_fin ⟨x.toNat % 16, by omega⟩).2
theorem num_plain (n : Int) (h : 0 ≤ n) : ∀ b ∈ num n, b ≠ 32 ∧ b ≠ 10 := by
  intro b hb
  obtain ⟨h1, h2⟩ := num_digit n h b hb
  constructor <;> (rintro rfl; revert h1; decide)

end Go.Proofs.YtbpbkmhipbchbaaGreatDoor.sc
