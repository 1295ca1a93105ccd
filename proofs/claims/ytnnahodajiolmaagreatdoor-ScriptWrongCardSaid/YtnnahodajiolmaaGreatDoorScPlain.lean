/-
  ScDefs: PLAIN DEFINITIONS (no program in sight): what package script and its reference compute, on lists of bytes. Conditions: none.
  ScLen: PLAIN: how long numbers, digits and joined words are. Conditions: as each says.
  ScLaw1: PLAIN LAWS (no program in sight): cutting and joining at blanks, decimal and hexadecimal texts and back. Conditions: as each says.
  ScLaw2: PLAIN LAWS: an act's words are read as the act, and what is read is an act that may be, whose words these are; the reference's reading is the same. Conditions: numbers of their kinds.
  ScLaw3: PLAIN LAWS: what the reference's OfLine, Line, Num, unhex, words compute, and that its OfLine is the program's. Conditions: numbers of their kinds.
-/
import Derived.Lib.ItoaNum
import Derived.Lib.ParseIntB
import Derived.Lib.Split
import Derived.Lib.Join
import Derived.Lib.ParseIntBCases
namespace Go.Proofs.YtnnahodajiolmaaGreatDoor.sc

abbrev Bs := List UInt8
/-- A call: what, key, upper key, how many, value. -/
structure Cl where
  op : Int
  key : Int
  hi : Int
  lim : Int
  val : Bs
deriving DecidableEq
/-- An act. -/
structure Ac where
  kind : Int
  client : Int
  call : Cl
  at_ : Int
  n : Int
  keep : List Int
deriving DecidableEq

def Cl.zero : Cl := ⟨0, 0, 0, 0, []⟩
def Ac.zero : Ac := ⟨0, 0, Cl.zero, 0, 0, []⟩

/-! ### The names -/
def sNone : Bs := [110, 111, 110, 101]
def sInvoke : Bs := [105, 110, 118, 111, 107, 101]
def sPick : Bs := [112, 105, 99, 107]
def sEvict : Bs := [101, 118, 105, 99, 116]
def sCrash : Bs := [99, 114, 97, 115, 104]
def sOpen : Bs := [111, 112, 101, 110]
def sScavenge : Bs := [115, 99, 97, 118, 101, 110, 103, 101]
def sBoot : Bs := [98, 111, 111, 116]
def kindsL : List Bs := [sNone, sInvoke, sPick, sEvict, sCrash, sOpen, sScavenge, sBoot]
def sClosed : Bs := [99, 108, 111, 115, 101, 100]
def sOpening : Bs := [111, 112, 101, 110, 105, 110, 103]
def sOpened : Bs := [111, 112, 101, 110, 101, 100]
def sScavenging : Bs := [115, 99, 97, 118, 101, 110, 103, 105, 110, 103]
def sReady : Bs := [114, 101, 97, 100, 121]
def sReadonly : Bs := [114, 101, 97, 100, 111, 110, 108, 121]
def statesL : List Bs := [sNone, sClosed, sOpening, sOpened, sScavenging, sReady, sReadonly]
def sPut : Bs := [112, 117, 116]
def sGet : Bs := [103, 101, 116]
def sDelete : Bs := [100, 101, 108, 101, 116, 101]
def sScan : Bs := [115, 99, 97, 110]
def opsL : List Bs := [sNone, sPut, sGet, sDelete, sScan]
def sLevee : Bs := [108, 101, 118, 101, 101]

/-! ### Numbers and bytes -/
def num (n : Int) : Bs := Go.Lib.itoa n
/-- A hexadecimal digit. -/
def hexd (n : Nat) : UInt8 := if n < 10 then UInt8.ofNat (48 + n) else UInt8.ofNat (87 + n)
def hex2 (b : UInt8) : Bs := [hexd (b.toNat / 16), hexd (b.toNat % 16)]
def digits (l : Bs) : Bs := if l = [] then [45] else l.flatMap hex2
def hexes : Bs := [48, 49, 50, 51, 52, 53, 54, 55, 56, 57, 97, 98, 99, 100, 101, 102]
/-- Pairs of hexadecimal digits, as bytes. -/
def unhexP : Bs → Option Bs
  | [] => some []
  | [_] => none
  | a :: b :: r =>
    if Go.Lib.indexByte hexes a < 0 ∨ Go.Lib.indexByte hexes b < 0 then none
    else (unhexP r).map fun t => UInt8.ofNat ((Go.Lib.indexByte hexes a).toNat * 16 + (Go.Lib.indexByte hexes b).toNat) :: t
def valueP (l : Bs) : Option Bs := if l = [45] then some [] else if l = [] then none else unhexP l
/-- The number of digits, if they are a number's own. -/
def any64 (l : Bs) : Option Nat :=
  match Go.Lib.parseUintB 64 l with
  | .ok u => if Go.Lib.decDigits u = l then some u else none
  | _ => none
def whole (l : Bs) (lo hi : Int) : Option Int :=
  match any64 l with
  | some n => if lo ≤ n ∧ (n : Int) ≤ hi then some n else none
  | none => none
/-- The greatest number of a client, and so on. -/
def big : Int := 1099511627776
def maxScript : Int := 100000

/-! ### Words -/
def callW (c : Cl) : List Bs :=
  if c.op = 1 then [sPut, num c.key, digits c.val]
  else if c.op = 2 then [sGet, num c.key]
  else if c.op = 3 then [sDelete, num c.key]
  else if c.op = 4 then [sScan, num c.key, num c.hi, num c.lim]
  else [sNone, num c.key]
def wordsL (a : Ac) (n : Int) : List Bs :=
  if a.kind = 1 then sInvoke :: num a.client :: callW a.call
  else if a.kind = 2 then [sPick, num a.client, num n]
  else if a.kind = 3 then [sEvict, num a.at_, num a.n]
  else if a.kind = 4 then sCrash :: a.keep.map num
  else if a.kind = 5 then [sOpen]
  else if a.kind = 6 then [sScavenge]
  else [sBoot, num n]
/-- The first place of a word among some, or -1. -/
def idx (x : Bs) : List Bs → Nat → Int
  | [], _ => -1
  | y :: r, i => if y = x then i else idx x r (i + 1)
def ofCall (l : List Bs) : Option Cl :=
  match l with
  | o :: k :: r =>
    match any64 k with
    | none => none
    | some key =>
      if idx o opsL 0 = 1 ∧ r.length = 1 then (valueP (r.getD 0 [])).map fun v => ⟨1, key, 0, 0, v⟩
      else if idx o opsL 0 = 4 ∧ r.length = 2 then
        match any64 (r.getD 0 []), whole (r.getD 1 []) 0 big with
        | some h, some m => some ⟨4, key, h, m, []⟩
        | _, _ => none
      else if (idx o opsL 0 = 2 ∨ idx o opsL 0 = 3) ∧ r.length = 0 then some ⟨idx o opsL 0, key, 0, 0, []⟩
      else none
  | _ => none
def keeps : List Bs → Option (List Int)
  | [] => some []
  | x :: r =>
    match whole x 0 big, keeps r with
    | some k, some t => some (k :: t)
    | _, _ => none
def ofL (l : List Bs) : Option (Ac × Int) :=
  match l with
  | [] => none
  | o :: f =>
    let k := idx o kindsL 0
    if k = 1 then
      match f with
      | [] => none
      | c :: r =>
        match whole c 0 big, ofCall r with
        | some c, some y => some (⟨1, c, y, 0, 0, []⟩, 1)
        | _, _ => none
    else if k = 2 ∧ f.length = 2 then
      match whole (f.getD 0 []) 0 big, whole (f.getD 1 []) 1 maxScript with
      | some c, some n => some (⟨2, c, Cl.zero, 0, 0, []⟩, n)
      | _, _ => none
    else if k = 3 ∧ f.length = 2 then
      match any64 (f.getD 0 []), whole (f.getD 1 []) 0 big with
      | some p, some n => some (⟨3, 0, Cl.zero, p, n, []⟩, 1)
      | _, _ => none
    else if k = 4 then (keeps f).map fun t => (⟨4, 0, Cl.zero, 0, 0, t⟩, 1)
    else if k = 5 ∧ f.length = 0 then some (⟨5, 0, Cl.zero, 0, 0, []⟩, 1)
    else if k = 6 ∧ f.length = 0 then some (⟨6, 0, Cl.zero, 0, 0, []⟩, 1)
    else if k = 7 ∧ f.length = 1 then (whole (f.getD 0 []) 1 maxScript).map fun n => (⟨7, 0, Cl.zero, 0, 0, []⟩, n)
    else none

/-- A text cut at each blank (32). -/
def splitC (c : UInt8) : Bs → List Bs
  | [] => [[]]
  | x :: r => if x = c then [] :: splitC c r else
    match splitC c r with
    | [] => [[x]]
    | y :: t => (x :: y) :: t
def joinB (l : List Bs) : Bs := Go.Lib.join l [32]
def lineOf (s : Bs) : Option (Ac × Int) := ofL (splitC 32 s)
def again (a : Ac) : Bool := a.kind == 2 || a.kind == 7
def lineL (a : Ac) (n : Int) : Bs := joinB (wordsL a n)
def may (a : Ac) : Bool :=
  if a.kind < 1 ∨ 7 < a.kind ∨ (a.kind = 1 ∧ (a.call.op < 1 ∨ 4 < a.call.op)) then false
  else match lineOf (lineL a 1) with
    | some (b, _) => decide (a = b)
    | none => false

end Go.Proofs.YtnnahodajiolmaaGreatDoor.sc

namespace Go.Proofs.YtnnahodajiolmaaGreatDoor.sc
open Go.Lib

theorem nDigits_le : ∀ (k u : Nat), u < 10 ^ (k + 1) → nDigits u ≤ k + 1
  | 0, u, h => by rw [nDigits_small (by simpa using h)]; exact Nat.le_refl _
  | k + 1, u, h => by
    by_cases hs : u < 10
    · rw [nDigits_small hs]; omega
    · rw [nDigits_big hs]
      have := nDigits_le k (u / 10) (by rw [Nat.pow_succ] at h; omega)
      omega
theorem decDigits_le (u : Nat) (h : u < 18446744073709551616) : (decDigits u).length ≤ 20 := by
  rw [decDigits_length]; exact nDigits_le 19 u (by omega)
theorem num_le (n : Int) (h0 : -9223372036854775808 ≤ n) (h1 : n < 18446744073709551616) : (num n).length ≤ 21 := by
  unfold num itoa
  split
  · rw [List.length_cons]; have := decDigits_le n.natAbs (by omega); omega
  · have := decDigits_le n.toNat (by omega); omega
theorem digits_le (l : Bs) : (digits l).length ≤ 2 * l.length + 1 := by
  unfold digits
  split
  · simp
  · have : ∀ l : Bs, (l.flatMap hex2).length = 2 * l.length := fun l => by
      induction l with
      | nil => rfl
      | cons a r ih => simp [hex2, ih]; omega
    rw [this]; omega
theorem joinTail_le (M : Nat) : ∀ l : List Bs, (∀ x ∈ l, x.length ≤ M) → (joinTail [32] l).length ≤ l.length * (M + 1)
  | [], _ => by simp [joinTail]
  | x :: r, h => by
    have h1 := joinTail_le M r (fun y hy => h y (List.mem_cons_of_mem _ hy))
    have h2 := h x List.mem_cons_self
    simp only [joinTail, List.map_cons, List.flatten_cons, List.length_append, List.length_cons, List.length_nil] at h1 ⊢
    rw [Nat.add_mul]; omega
theorem joinB_le (l : List Bs) (M : Nat) (h : ∀ x ∈ l, x.length ≤ M) : (joinB l).length ≤ l.length * (M + 1) := by
  cases l with
  | nil => simp [joinB, join, List.intercalate]
  | cons x r =>
    rw [joinB, join_cons, List.length_append]
    have h1 := joinTail_le M r (fun y hy => h y (List.mem_cons_of_mem _ hy))
    have h2 := h x List.mem_cons_self
    rw [List.length_cons, Nat.add_mul]; omega

end Go.Proofs.YtnnahodajiolmaaGreatDoor.sc

namespace Go.Proofs.YtnnahodajiolmaaGreatDoor.sc
open Go.Lib
set_option linter.unusedVariables false

/-! ### Cutting and joining -/
theorem splitC_ne (c : UInt8) : ∀ s : Bs, splitC c s ≠ []
  | [] => by simp [splitC]
  | x :: r => by
    rw [splitC]
    split
    · simp
    · split <;> simp
theorem joinB_one (x : Bs) : joinB [x] = x := by rw [joinB, join_one]
theorem joinB_cons2 (x y : Bs) (r : List Bs) : joinB (x :: y :: r) = x ++ 32 :: joinB (y :: r) := by
  rw [joinB, joinB, join_cons, join_cons]
  simp [joinTail]
theorem join_split : ∀ s : Bs, joinB (splitC 32 s) = s
  | [] => rfl
  | x :: r => by
    have ih := join_split r
    rw [splitC]
    split
    · rename_i h
      cases hs : splitC 32 r with
      | nil => exact absurd hs (splitC_ne 32 r)
      | cons y t => rw [joinB_cons2, ← hs, ih, h]; rfl
    · cases hs : splitC 32 r with
      | nil => exact absurd hs (splitC_ne 32 r)
      | cons y t =>
        rw [hs] at ih
        show joinB ((x :: y) :: t) = x :: r
        rw [← ih, joinB, joinB, join_cons, join_cons]; rfl
theorem split_word (c : UInt8) : ∀ x : Bs, (∀ b ∈ x, b ≠ c) → splitC c x = [x]
  | [], _ => rfl
  | b :: x, h => by
    rw [splitC, if_neg (h b List.mem_cons_self), split_word c x fun y hy => h y (List.mem_cons_of_mem _ hy)]
theorem split_word_cons (c : UInt8) (s : Bs) : ∀ x : Bs, (∀ b ∈ x, b ≠ c) → splitC c (x ++ c :: s) = x :: splitC c s
  | [], _ => by rw [List.nil_append, splitC, if_pos rfl]
  | b :: x, h => by
    rw [List.cons_append, splitC, if_neg (h b List.mem_cons_self), split_word_cons c s x fun y hy => h y (List.mem_cons_of_mem _ hy)]
theorem split_join : ∀ ws : List Bs, ws ≠ [] → (∀ x ∈ ws, ∀ b ∈ x, b ≠ 32) → splitC 32 (joinB ws) = ws
  | [], h, _ => absurd rfl h
  | [x], _, h => by rw [joinB_one, split_word 32 x (h x List.mem_cons_self)]
  | x :: y :: r, _, h => by
    rw [joinB_cons2, split_word_cons 32 _ x (h x List.mem_cons_self), split_join (y :: r) (by simp) fun z hz => h z (List.mem_cons_of_mem _ hz)]

/-! ### Decimal -/
theorem dec_digit : ∀ u : Nat, ∀ b ∈ decDigits u, 48 ≤ b.toNat ∧ b.toNat ≤ 57 := by
  intro u
  induction u using Nat.strongRecOn with
  | _ u ih =>
    intro b hb
    rw [decDigits] at hb
    split at hb
    · rename_i h
      simp only [List.mem_singleton] at hb
      subst hb
      have e : (UInt8.ofNat (48 + u)).toNat = 48 + u := by rw [UInt8.toNat_ofNat']; omega
      omega
    · rename_i h
      rcases List.mem_append.1 hb with hb | hb
      · exact ih (u / 10) (by omega) b hb
      · simp only [List.mem_singleton] at hb
        subst hb
        have e : (UInt8.ofNat (48 + u % 10)).toNat = 48 + u % 10 := by rw [UInt8.toNat_ofNat']; omega
        omega
theorem dec_ne (u : Nat) : decDigits u ≠ [] := by
  rw [decDigits]; split <;> simp
theorem parse_app (M : Nat) (c : UInt8) : ∀ (l : Bs) (acc a : Nat), parseUintM M acc l = .ok a → parseUintM M acc (l ++ [c]) = parseUintM M a [c]
  | [], acc, a, h => by
    simp only [parseUintM] at h
    injection h with h
    subst h; rfl
  | x :: r, acc, a, h => by
    rw [parseUintM] at h
    rw [List.cons_append, parseUintM]
    split at h
    · rename_i h1
      rw [if_pos h1]
      split at h
      · cases h
      · rename_i h2
        rw [if_neg h2]
        split at h
        · cases h
        · rename_i h3
          rw [if_neg h3]
          exact parse_app M c r _ a h
    · cases h
theorem parse_dec : ∀ u : Nat, u ≤ 18446744073709551615 → parseUintM 18446744073709551615 0 (decDigits u) = .ok u := by
  intro u
  induction u using Nat.strongRecOn with
  | _ u ih =>
    intro hu
    rw [decDigits]
    split
    · rename_i h
      have e : (UInt8.ofNat (48 + u)).toNat = 48 + u := by rw [UInt8.toNat_ofNat']; omega
      rw [parseUintM, e, if_pos (by omega), if_neg (by omega), if_neg (by omega), parseUintM]
      congr 1; omega
    · rename_i h
      have e : (UInt8.ofNat (48 + u % 10)).toNat = 48 + u % 10 := by rw [UInt8.toNat_ofNat']; omega
      rw [parse_app _ _ _ _ _ (ih (u / 10) (by omega) (by omega)), parseUintM, e, if_pos (by omega), if_neg (by omega), if_neg (by omega), parseUintM]
      congr 1; omega
theorem num_nat' (u : Nat) : num (u : Int) = decDigits u := by
  unfold num itoa
  rw [if_neg (by omega), Int.toNat_natCast]
theorem any64_num (n : Int) (h0 : 0 ≤ n) (h1 : n < 18446744073709551616) : any64 (num n) = some n.toNat := by
  obtain ⟨u, rfl⟩ : ∃ u : Nat, n = u := ⟨n.toNat, by omega⟩
  rw [num_nat', Int.toNat_natCast]
  unfold any64 parseUintB
  rw [if_neg (dec_ne u), show (2 ^ 64 - 1 : Nat) = 18446744073709551615 from rfl, parse_dec u (by omega)]
  exact if_pos rfl
theorem any64_some {l : Bs} {u : Nat} (h : any64 l = some u) : num (u : Int) = l ∧ u < 18446744073709551616 := by
  unfold any64 at h
  cases hp : parseUintB 64 l with
  | ok v =>
    rw [hp] at h
    simp only at h
    split at h
    · rename_i hd
      injection h with h
      subst h
      have := Go.Lib.parseUintB_le hp
      exact ⟨by rw [num_nat']; exact hd, by omega⟩
    · cases h
  | _ => rw [hp] at h; cases h
theorem whole_num (n lo hi : Int) (h0 : 0 ≤ n) (h1 : lo ≤ n) (h2 : n ≤ hi) (h3 : n < 18446744073709551616) : whole (num n) lo hi = some n := by
  unfold whole
  rw [any64_num n h0 h3]
  simp only
  rw [if_pos (by omega), Int.toNat_of_nonneg h0]
theorem whole_some {l : Bs} {lo hi n : Int} (h : whole l lo hi = some n) : num n = l ∧ lo ≤ n ∧ n ≤ hi ∧ 0 ≤ n := by
  unfold whole at h
  cases ha : any64 l with
  | none => rw [ha] at h; cases h
  | some u =>
    rw [ha] at h
    simp only at h
    split at h
    · rename_i hb
      injection h with h
      subst h
      exact ⟨(any64_some ha).1, hb.1, hb.2, by omega⟩
    · cases h
theorem num_digit (n : Int) (h : 0 ≤ n) : ∀ b ∈ num n, 48 ≤ b.toNat ∧ b.toNat ≤ 57 := by
  obtain ⟨u, rfl⟩ : ∃ u : Nat, n = u := ⟨n.toNat, by omega⟩
  rw [num_nat']; exact dec_digit u
theorem num_inj {a b : Int} (ha : 0 ≤ a) (hb : 0 ≤ b) (ha' : a < 18446744073709551616) (hb' : b < 18446744073709551616) (h : num a = num b) : a = b := by
  have h1 := any64_num a ha ha'
  have h2 := any64_num b hb hb'
  rw [h, h2] at h1
  injection h1 with h1
  omega

/-! ### Hexadecimal -/
theorem hexd_fin : ∀ i : Fin 16, Go.Lib.indexByte hexes (hexd i.val) = (i.val : Int) ∧ hexd i.val ≠ 32 ∧ hexd i.val ≠ 10 := by decide +kernel
theorem hexes_fin : ∀ n : Fin 256, 0 ≤ Go.Lib.indexByte hexes (UInt8.ofNat n.val) → (Go.Lib.indexByte hexes (UInt8.ofNat n.val)).toNat < 16 ∧ hexd (Go.Lib.indexByte hexes (UInt8.ofNat n.val)).toNat = UInt8.ofNat n.val := by decide +kernel
theorem hexd_idx {n : Nat} (h : n < 16) : Go.Lib.indexByte hexes (hexd n) = (n : Int) := (hexd_fin ⟨n, h⟩).1
theorem idx_hexd {b : UInt8} (h : 0 ≤ Go.Lib.indexByte hexes b) : (Go.Lib.indexByte hexes b).toNat < 16 ∧ hexd (Go.Lib.indexByte hexes b).toNat = b := by
  have := hexes_fin ⟨b.toNat, b.toNat_lt⟩
  simp only [UInt8.ofNat_toNat] at this
  exact this h
theorem unhex_hex : ∀ v : Bs, unhexP (v.flatMap hex2) = some v
  | [] => rfl
  | b :: r => by
    have hb := b.toNat_lt
    have h1 := hexd_idx (n := b.toNat / 16) (by omega)
    have h2 := hexd_idx (n := b.toNat % 16) (by omega)
    rw [List.flatMap_cons]
    show unhexP (hexd (b.toNat / 16) :: hexd (b.toNat % 16) :: r.flatMap hex2) = _
    rw [unhexP, h1, h2, if_neg (by omega), unhex_hex r]
    simp only [Option.map_some, Option.some.injEq, List.cons.injEq, and_true, Int.toNat_natCast]
    rw [show b.toNat / 16 * 16 + b.toNat % 16 = b.toNat by omega, UInt8.ofNat_toNat]
theorem hex_unhex : ∀ (n : Nat) (l v : Bs), l.length ≤ n → unhexP l = some v → v.flatMap hex2 = l
  | _, [], v, _, h => by simp [unhexP] at h; subst h; rfl
  | _, [x], v, _, h => by simp [unhexP] at h
  | n + 1, a :: b :: r, v, hn, h => by
    rw [unhexP] at h
    split at h
    · cases h
    · rename_i hi
      cases hr : unhexP r with
      | none => rw [hr] at h; cases h
      | some t =>
        rw [hr] at h
        simp only [Option.map_some, Option.some.injEq] at h
        subst h
        obtain ⟨a1, a2⟩ := idx_hexd (b := a) (by omega)
        obtain ⟨b1, b2⟩ := idx_hexd (b := b) (by omega)
        have e : (UInt8.ofNat ((Go.Lib.indexByte hexes a).toNat * 16 + (Go.Lib.indexByte hexes b).toNat)).toNat = (Go.Lib.indexByte hexes a).toNat * 16 + (Go.Lib.indexByte hexes b).toNat := by
          rw [UInt8.toNat_ofNat']; omega
        rw [List.flatMap_cons, hex2, e, hex_unhex n r t (by simp at hn; omega) hr]
        rw [show ((Go.Lib.indexByte hexes a).toNat * 16 + (Go.Lib.indexByte hexes b).toNat) / 16 = (Go.Lib.indexByte hexes a).toNat by omega,
          show ((Go.Lib.indexByte hexes a).toNat * 16 + (Go.Lib.indexByte hexes b).toNat) % 16 = (Go.Lib.indexByte hexes b).toNat by omega, a2, b2]
        rfl
theorem value_digits (v : Bs) : valueP (digits v) = some v := by
  unfold digits
  split
  · rename_i h; subst h; rfl
  · rename_i h
    unfold valueP
    cases v with
    | nil => exact absurd rfl h
    | cons b r =>
      rw [if_neg, if_neg, unhex_hex]
      · simp [hex2]
      · simp [hex2]
theorem digits_value {l v : Bs} (h : valueP l = some v) : digits v = l := by
  unfold valueP at h
  split at h
  · rename_i hl
    injection h with h
    subst h; subst hl; rfl
  · split at h
    · cases h
    · rename_i h1 h2
      have := hex_unhex l.length l v (Nat.le_refl _) h
      unfold digits
      rw [if_neg, this]
      rintro rfl
      exact h2 this.symm
theorem digits_plain (v : Bs) : ∀ b ∈ digits v, b ≠ 32 ∧ b ≠ 10 := by
  intro b hb
  unfold digits at hb
  split at hb
  · simp only [List.mem_singleton] at hb; subst hb; decide
  · obtain ⟨x, _, hx⟩ := List.mem_flatMap.1 hb
    have hlt := x.toNat_lt
    simp only [hex2, List.mem_cons, List.not_mem_nil, or_false] at hx
    rcases hx with rfl | rfl
    · exact (hexd_fin ⟨x.toNat / 16, by omega⟩).2
    · exact (hexd_fin ⟨x.toNat % 16, by omega⟩).2
theorem num_plain (n : Int) (h : 0 ≤ n) : ∀ b ∈ num n, b ≠ 32 ∧ b ≠ 10 := by
  intro b hb
  obtain ⟨h1, h2⟩ := num_digit n h b hb
  constructor <;> (rintro rfl; revert h1; decide)

end Go.Proofs.YtnnahodajiolmaaGreatDoor.sc

namespace Go.Proofs.YtnnahodajiolmaaGreatDoor.sc
open Go.Lib
set_option linter.unusedVariables false

/-! ### Which acts may be -/
def fits (n : Int) : Bool := decide (0 ≤ n) && decide (n ≤ big)
def clear (a : Ac) : Ac :=
  ⟨a.kind, if a.kind = 1 ∨ a.kind = 2 then a.client else 0,
    if a.kind = 1 then ⟨a.call.op, a.call.key, if a.call.op = 4 then a.call.hi else 0, if a.call.op = 4 then a.call.lim else 0, if a.call.op = 1 then a.call.val else []⟩ else Cl.zero,
    if a.kind = 3 then a.at_ else 0, if a.kind = 3 then a.n else 0, if a.kind = 4 then a.keep else []⟩
def mayAct (a : Ac) : Bool :=
  decide (1 ≤ a.kind) && decide (a.kind ≤ 7) && fits a.client && fits a.n && fits a.call.lim && decide (a = clear a)
    && (if a.kind = 1 then decide (1 ≤ a.call.op) && decide (a.call.op ≤ 4) else true) && a.keep.all fits
theorem fits_iff {n : Int} : fits n = true ↔ 0 ≤ n ∧ n ≤ 1099511627776 := by
  unfold fits big
  rw [Bool.and_eq_true, decide_eq_true_eq, decide_eq_true_eq]
structure May (a : Ac) : Prop where
  k1 : 1 ≤ a.kind
  k7 : a.kind ≤ 7
  client : 0 ≤ a.client ∧ a.client ≤ 1099511627776
  n : 0 ≤ a.n ∧ a.n ≤ 1099511627776
  lim : 0 ≤ a.call.lim ∧ a.call.lim ≤ 1099511627776
  same : a = clear a
  op : a.kind = 1 → 1 ≤ a.call.op ∧ a.call.op ≤ 4
  keep : ∀ k ∈ a.keep, 0 ≤ k ∧ k ≤ 1099511627776
theorem mayAct_iff (a : Ac) : mayAct a = true ↔ May a := by
  unfold mayAct
  simp only [Bool.and_eq_true, decide_eq_true_eq, fits_iff, List.all_eq_true]
  constructor
  · rintro ⟨⟨⟨⟨⟨⟨⟨h1, h2⟩, h3⟩, h4⟩, h5⟩, h6⟩, h7⟩, h8⟩
    exact ⟨h1, h2, h3, h4, h5, h6, fun hk => by rw [if_pos hk] at h7; simpa using h7, h8⟩
  · intro ⟨h1, h2, h3, h4, h5, h6, h7, h8⟩
    refine ⟨⟨⟨⟨⟨⟨⟨h1, h2⟩, h3⟩, h4⟩, h5⟩, h6⟩, ?_⟩, h8⟩
    split
    · simpa using h7 (by assumption)
    · rfl
/-- The unsigned numbers are of 64 bits. -/
structure Typed (a : Ac) : Prop where
  key : 0 ≤ a.call.key ∧ a.call.key < 18446744073709551616
  hi : 0 ≤ a.call.hi ∧ a.call.hi < 18446744073709551616
  at_ : 0 ≤ a.at_ ∧ a.at_ < 18446744073709551616

/-! ### The forms of an act that may be -/
theorem may_forms {a : Ac} (h : May a) :
    (∃ c op key hi lim val, a = ⟨1, c, ⟨op, key, hi, lim, val⟩, 0, 0, []⟩ ∧ (op = 1 ∧ hi = 0 ∧ lim = 0 ∨ op = 2 ∧ hi = 0 ∧ lim = 0 ∧ val = [] ∨ op = 3 ∧ hi = 0 ∧ lim = 0 ∧ val = [] ∨ op = 4 ∧ val = []))
    ∨ (∃ c, a = ⟨2, c, Cl.zero, 0, 0, []⟩) ∨ (∃ p n, a = ⟨3, 0, Cl.zero, p, n, []⟩) ∨ (∃ t, a = ⟨4, 0, Cl.zero, 0, 0, t⟩) ∨ (∃ k, (k = 5 ∨ k = 6 ∨ k = 7) ∧ a = ⟨k, 0, Cl.zero, 0, 0, []⟩) := by
  obtain ⟨k1, k7, _, _, _, same, op, _⟩ := h
  obtain ⟨kind, client, ⟨o, key, hi, lim, val⟩, at_, n, keep⟩ := a
  simp only at k1 k7 op
  simp only [clear, Ac.mk.injEq, true_and] at same
  obtain ⟨s1, s2, s3, s4, s5⟩ := same
  have : kind = 1 ∨ kind = 2 ∨ kind = 3 ∨ kind = 4 ∨ kind = 5 ∨ kind = 6 ∨ kind = 7 := by omega
  rcases this with rfl | rfl | rfl | rfl | rfl | rfl | rfl
  · simp at s1 s2 s3 s4 s5
    obtain ⟨o1, o4⟩ := op rfl
    refine .inl ⟨client, o, key, hi, lim, val, by rw [s3, s4, s5], ?_⟩
    have : o = 1 ∨ o = 2 ∨ o = 3 ∨ o = 4 := by omega
    rcases this with rfl | rfl | rfl | rfl <;> simp at s2 <;> simp [s2]
  · simp at s2 s3 s4 s5
    exact .inr (.inl ⟨client, by rw [s2, s3, s4, s5]⟩)
  · simp at s1 s2 s5
    exact .inr (.inr (.inl ⟨at_, n, by rw [s1, s2, s5]⟩))
  · simp at s1 s2 s3 s4
    exact .inr (.inr (.inr (.inl ⟨keep, by rw [s1, s2, s3, s4]⟩)))
  · simp at s1 s2 s3 s4 s5
    exact .inr (.inr (.inr (.inr ⟨5, by omega, by rw [s1, s2, s3, s4, s5]⟩)))
  · simp at s1 s2 s3 s4 s5
    exact .inr (.inr (.inr (.inr ⟨6, by omega, by rw [s1, s2, s3, s4, s5]⟩)))
  · simp at s1 s2 s3 s4 s5
    exact .inr (.inr (.inr (.inr ⟨7, by omega, by rw [s1, s2, s3, s4, s5]⟩)))

/-! ### Words that are read again -/
theorem keeps_num : ∀ t : List Int, (∀ k ∈ t, 0 ≤ k ∧ k ≤ 1099511627776) → keeps (t.map num) = some t
  | [], _ => rfl
  | k :: t, h => by
    obtain ⟨h1, h2⟩ := h k List.mem_cons_self
    rw [List.map_cons, keeps, whole_num k 0 big h1 h1 (by unfold big; omega) (by omega), keeps_num t fun x hx => h x (List.mem_cons_of_mem _ hx)]
theorem keeps_some : ∀ (l : List Bs) (t : List Int), keeps l = some t → t.map num = l ∧ ∀ k ∈ t, 0 ≤ k ∧ k ≤ 1099511627776
  | [], t, h => by simp [keeps] at h; subst h; simp
  | x :: r, t, h => by
    rw [keeps] at h
    cases hw : whole x 0 big with
    | none => rw [hw] at h; cases h
    | some k =>
      cases hk : keeps r with
      | none => rw [hw, hk] at h; cases h
      | some t' =>
        rw [hw, hk] at h
        injection h with h
        subst h
        obtain ⟨h1, h2, h3, _⟩ := whole_some hw
        obtain ⟨g1, g2⟩ := keeps_some r t' hk
        refine ⟨by rw [List.map_cons, h1, g1], fun y hy => ?_⟩
        rcases List.mem_cons.1 hy with rfl | hy
        · exact ⟨h2, h3⟩
        · exact g2 y hy
theorem idx_get {x : Bs} : ∀ (l : List Bs) (i j : Nat), idx x l i = (j : Int) → i ≤ j ∧ l[j - i]? = some x
  | [], i, j, h => by rw [idx] at h; omega
  | y :: r, i, j, h => by
    rw [idx] at h
    split at h
    · rename_i hy
      have : i = j := by omega
      subst this
      exact ⟨Nat.le_refl _, by rw [Nat.sub_self, List.getElem?_cons_zero, hy]⟩
    · obtain ⟨h1, h2⟩ := idx_get r (i + 1) j h
      refine ⟨by omega, ?_⟩
      rw [show j - i = (j - (i + 1)) + 1 by omega, List.getElem?_cons_succ]
      exact h2
theorem kind_name {o : Bs} (j : Nat) (h : idx o kindsL 0 = (j : Int)) : kindsL[j]? = some o := (idx_get kindsL 0 j h).2
theorem op_name {o : Bs} (j : Nat) (h : idx o opsL 0 = (j : Int)) : opsL[j]? = some o := (idx_get opsL 0 j h).2

theorem len1 {l : List Bs} (h : l.length = 1) : ∃ x, l = [x] := List.length_eq_one_iff.1 h
theorem len2 {l : List Bs} (h : l.length = 2) : ∃ x y, l = [x, y] := by
  match l, h with
  | [x, y], _ => exact ⟨x, y, rfl⟩

theorem ofCall_words (c : Cl) (h : c.op = 1 ∧ c.hi = 0 ∧ c.lim = 0 ∨ c.op = 2 ∧ c.hi = 0 ∧ c.lim = 0 ∧ c.val = [] ∨ c.op = 3 ∧ c.hi = 0 ∧ c.lim = 0 ∧ c.val = [] ∨ c.op = 4 ∧ c.val = [])
    (hk : 0 ≤ c.key ∧ c.key < 18446744073709551616) (hh : 0 ≤ c.hi ∧ c.hi < 18446744073709551616) (hl : 0 ≤ c.lim ∧ c.lim ≤ 1099511627776) : ofCall (callW c) = some c := by
  obtain ⟨op, key, hi, lim, val⟩ := c
  simp only at h hk hh hl
  have e := any64_num key hk.1 hk.2
  have ek : ((key.toNat : Nat) : Int) = key := Int.toNat_of_nonneg hk.1
  rcases h with ⟨rfl, rfl, rfl⟩ | ⟨rfl, rfl, rfl, rfl⟩ | ⟨rfl, rfl, rfl, rfl⟩ | ⟨rfl, rfl⟩
  · simp [callW, ofCall, e, ek, show idx sPut opsL 0 = 1 by decide, value_digits]
  · simp [callW, ofCall, e, ek, show idx sGet opsL 0 = 2 by decide]
  · simp [callW, ofCall, e, ek, show idx sDelete opsL 0 = 3 by decide]
  · simp [callW, ofCall, e, ek, show idx sScan opsL 0 = 4 by decide, any64_num hi hh.1 hh.2, whole_num lim 0 big hl.1 hl.1 (by unfold big; omega) (by omega), Int.toNat_of_nonneg hh.1]
theorem ofCall_some {l : List Bs} {c : Cl} (h : ofCall l = some c) :
    callW c = l ∧ (c.op = 1 ∧ c.hi = 0 ∧ c.lim = 0 ∨ c.op = 2 ∧ c.hi = 0 ∧ c.lim = 0 ∧ c.val = [] ∨ c.op = 3 ∧ c.hi = 0 ∧ c.lim = 0 ∧ c.val = [] ∨ c.op = 4 ∧ c.val = [])
    ∧ (0 ≤ c.key ∧ c.key < 18446744073709551616) ∧ (0 ≤ c.hi ∧ c.hi < 18446744073709551616) ∧ (0 ≤ c.lim ∧ c.lim ≤ 1099511627776) := by
  match l with
  | [] => simp [ofCall] at h
  | [_] => simp [ofCall] at h
  | o :: k :: r =>
    rw [ofCall] at h
    cases ha : any64 k with
    | none => rw [ha] at h; cases h
    | some key =>
      rw [ha] at h
      simp only at h
      obtain ⟨n1, n2⟩ := any64_some ha
      split at h
      · rename_i hc
        obtain ⟨x, rfl⟩ := len1 hc.2
        have ho := op_name 1 hc.1
        simp only [opsL, List.getElem?_cons_succ, List.getElem?_cons_zero, Option.some.injEq] at ho
        subst ho
        simp only [List.getD_cons_zero] at h
        cases hv : valueP x with
        | none => rw [hv] at h; cases h
        | some v =>
          rw [hv] at h
          simp only [Option.map_some, Option.some.injEq] at h
          subst h
          exact ⟨by simp [callW, n1, digits_value hv], .inl ⟨rfl, rfl, rfl⟩, by simp only; omega, by simp only; omega, by simp only; omega⟩
      · split at h
        · rename_i hc
          obtain ⟨x, y, rfl⟩ := len2 hc.2
          have ho := op_name 4 hc.1
          simp only [opsL, List.getElem?_cons_succ, List.getElem?_cons_zero, Option.some.injEq] at ho
          subst ho
          simp only [List.getD_cons_zero, List.getD_cons_succ] at h
          cases hx : any64 x with
          | none => rw [hx] at h; cases h
          | some hi =>
            cases hy : whole y 0 big with
            | none => rw [hx, hy] at h; cases h
            | some m =>
              rw [hx, hy] at h
              simp only [Option.some.injEq] at h
              subst h
              obtain ⟨x1, x2⟩ := any64_some hx
              obtain ⟨y1, y2, y3, _⟩ := whole_some hy
              unfold big at y3
              exact ⟨by simp [callW, n1, x1, y1], .inr (.inr (.inr ⟨rfl, rfl⟩)), by simp only; omega, by simp only; omega, by simp only; omega⟩
        · split at h
          · rename_i hc
            obtain ⟨hc1, hc2⟩ := hc
            have hr : r = [] := List.eq_nil_of_length_eq_zero hc2
            subst hr
            simp only [Option.some.injEq] at h
            rcases hc1 with h2 | h3
            · have ho := op_name 2 h2
              simp only [opsL, List.getElem?_cons_succ, List.getElem?_cons_zero, Option.some.injEq] at ho
              rw [h2] at h
              subst ho; subst h
              exact ⟨by simp [callW, n1], .inr (.inl ⟨rfl, rfl, rfl, rfl⟩), by simp only; omega, by simp only; omega, by simp only; omega⟩
            · have ho := op_name 3 h3
              simp only [opsL, List.getElem?_cons_succ, List.getElem?_cons_zero, Option.some.injEq] at ho
              rw [h3] at h
              subst ho; subst h
              exact ⟨by simp [callW, n1], .inr (.inr (.inl ⟨rfl, rfl, rfl, rfl⟩)), by simp only; omega, by simp only; omega, by simp only; omega⟩
          · cases h

/-- How many times an act may stand in a line. -/
def Times (a : Ac) (n : Int) : Prop := 1 ≤ n ∧ n ≤ 100000 ∧ (again a = false → n = 1)

theorem ofL_words {a : Ac} (h : May a) (T : Typed a) (n : Int) (hn : Times a n) : ofL (wordsL a n) = some (a, n) := by
  obtain ⟨n1, n2, n3⟩ := hn
  rcases may_forms h with ⟨c, op, key, hi, lim, val, rfl, hop⟩ | ⟨c, rfl⟩ | ⟨p, m, rfl⟩ | ⟨t, rfl⟩ | ⟨k, hk, rfl⟩
  · have := n3 rfl
    subst this
    have e := whole_num c 0 big h.client.1 h.client.1 (by unfold big; exact h.client.2) (by have := h.client.2; simp only at this; omega)
    have e2 := ofCall_words ⟨op, key, hi, lim, val⟩ hop T.key T.hi h.lim
    simp [wordsL, ofL, show idx sInvoke kindsL 0 = 1 by decide, e, e2]
  · have e := whole_num c 0 big h.client.1 h.client.1 (by unfold big; exact h.client.2) (by have := h.client.2; simp only at this; omega)
    have e2 := whole_num n 1 maxScript (by omega) n1 (by unfold maxScript; omega) (by omega)
    simp [wordsL, ofL, show idx sPick kindsL 0 = 2 by decide, e, e2]
  · have := n3 rfl
    subst this
    have e := any64_num p T.at_.1 T.at_.2
    have e2 := whole_num m 0 big h.n.1 h.n.1 (by unfold big; exact h.n.2) (by have := h.n.2; simp only at this; omega)
    have e3 : ((p.toNat : Nat) : Int) = p := Int.toNat_of_nonneg T.at_.1
    simp [wordsL, ofL, show idx sEvict kindsL 0 = 3 by decide, e, e2, e3]
  · have := n3 rfl
    subst this
    have e := keeps_num t h.keep
    simp [wordsL, ofL, show idx sCrash kindsL 0 = 4 by decide, e]
  · rcases hk with rfl | rfl | rfl
    · have := n3 rfl
      subst this
      simp [wordsL, ofL, show idx sOpen kindsL 0 = 5 by decide]
    · have := n3 rfl
      subst this
      simp [wordsL, ofL, show idx sScavenge kindsL 0 = 6 by decide]
    · have e2 := whole_num n 1 maxScript (by omega) n1 (by unfold maxScript; omega) (by omega)
      simp [wordsL, ofL, show idx sBoot kindsL 0 = 7 by decide, e2]

theorem ofL_some {l : List Bs} {a : Ac} {n : Int} (h : ofL l = some (a, n)) : May a ∧ Typed a ∧ Times a n ∧ wordsL a n = l := by
  match l with
  | [] => simp [ofL] at h
  | o :: f =>
    unfold ofL at h
    simp only at h
    split at h
    · rename_i hk
      have ho := kind_name 1 hk
      simp only [kindsL, List.getElem?_cons_succ, List.getElem?_cons_zero, Option.some.injEq] at ho
      subst ho
      match f with
      | [] => simp at h
      | c :: r =>
        simp only at h
        cases hc : whole c 0 big with
        | none => rw [hc] at h; cases h
        | some ci =>
          cases hy : ofCall r with
          | none => rw [hc, hy] at h; cases h
          | some y =>
            rw [hc, hy] at h
            simp only [Option.some.injEq, Prod.mk.injEq] at h
            obtain ⟨rfl, rfl⟩ := h
            obtain ⟨c1, c2, c3, _⟩ := whole_some hc
            unfold big at c3
            obtain ⟨y1, y2, y3, y4, y5⟩ := ofCall_some hy
            refine ⟨⟨by simp, by simp, ⟨c2, c3⟩, by simp, y5, ?_, fun _ => by simp only; omega, by simp⟩, ⟨y3, y4, by simp⟩, ⟨by decide, by decide, fun _ => rfl⟩, by simp [wordsL, c1, y1]⟩
            obtain ⟨op, key, hi, lim, val⟩ := y
            simp only at y2
            rcases y2 with ⟨rfl, rfl, rfl⟩ | ⟨rfl, rfl, rfl, rfl⟩ | ⟨rfl, rfl, rfl, rfl⟩ | ⟨rfl, rfl⟩ <;> simp [clear]
    · split at h
      · rename_i hk
        obtain ⟨hk, hl⟩ := hk
        have ho := kind_name 2 hk
        simp only [kindsL, List.getElem?_cons_succ, List.getElem?_cons_zero, Option.some.injEq] at ho
        subst ho
        obtain ⟨x, y, rfl⟩ := len2 hl
        simp only [List.getD_cons_zero, List.getD_cons_succ] at h
        cases hx : whole x 0 big with
        | none => rw [hx] at h; cases h
        | some c =>
          cases hy : whole y 1 maxScript with
          | none => rw [hx, hy] at h; cases h
          | some m =>
            rw [hx, hy] at h
            simp only [Option.some.injEq, Prod.mk.injEq] at h
            obtain ⟨rfl, rfl⟩ := h
            obtain ⟨x1, x2, x3, _⟩ := whole_some hx
            obtain ⟨y1, y2, y3, _⟩ := whole_some hy
            unfold big at x3
            unfold maxScript at y3
            exact ⟨⟨by simp, by simp, ⟨x2, x3⟩, by simp, by simp [Cl.zero], by simp [clear, Cl.zero], by simp, by simp⟩, ⟨by simp [Cl.zero], by simp [Cl.zero], by simp⟩, ⟨y2, y3, by simp [again]⟩, by simp [wordsL, x1, y1]⟩
      · split at h
        · rename_i hk
          obtain ⟨hk, hl⟩ := hk
          have ho := kind_name 3 hk
          simp only [kindsL, List.getElem?_cons_succ, List.getElem?_cons_zero, Option.some.injEq] at ho
          subst ho
          obtain ⟨x, y, rfl⟩ := len2 hl
          simp only [List.getD_cons_zero, List.getD_cons_succ] at h
          cases hx : any64 x with
          | none => rw [hx] at h; cases h
          | some p =>
            cases hy : whole y 0 big with
            | none => rw [hx, hy] at h; cases h
            | some m =>
              rw [hx, hy] at h
              simp only [Option.some.injEq, Prod.mk.injEq] at h
              obtain ⟨rfl, rfl⟩ := h
              obtain ⟨x1, x2⟩ := any64_some hx
              obtain ⟨y1, y2, y3, _⟩ := whole_some hy
              unfold big at y3
              exact ⟨⟨by simp, by simp, by simp, ⟨y2, y3⟩, by simp [Cl.zero], by simp [clear, Cl.zero], by simp, by simp⟩, ⟨by simp [Cl.zero], by simp [Cl.zero], by simp only; omega⟩, ⟨by simp, by simp, by simp⟩, by simp [wordsL, x1, y1]⟩
        · split at h
          · rename_i hk
            have ho := kind_name 4 hk
            simp only [kindsL, List.getElem?_cons_succ, List.getElem?_cons_zero, Option.some.injEq] at ho
            subst ho
            cases hf : keeps f with
            | none => rw [hf] at h; cases h
            | some t =>
              rw [hf] at h
              simp only [Option.map_some, Option.some.injEq, Prod.mk.injEq] at h
              obtain ⟨rfl, rfl⟩ := h
              obtain ⟨f1, f2⟩ := keeps_some f t hf
              exact ⟨⟨by simp, by simp, by simp, by simp, by simp [Cl.zero], by simp [clear, Cl.zero], by simp, f2⟩, ⟨by simp [Cl.zero], by simp [Cl.zero], by simp⟩, ⟨by simp, by simp, by simp⟩, by simp [wordsL, f1]⟩
          · split at h
            · rename_i hk
              obtain ⟨hk, hl⟩ := hk
              have ho := kind_name 5 hk
              simp only [kindsL, List.getElem?_cons_succ, List.getElem?_cons_zero, Option.some.injEq] at ho
              subst ho
              have := List.eq_nil_of_length_eq_zero hl
              subst this
              simp only [Option.some.injEq, Prod.mk.injEq] at h
              obtain ⟨rfl, rfl⟩ := h
              exact ⟨⟨by simp, by simp, by simp, by simp, by simp [Cl.zero], by simp [clear, Cl.zero], by simp, by simp⟩, ⟨by simp [Cl.zero], by simp [Cl.zero], by simp⟩, ⟨by simp, by simp, by simp⟩, by simp [wordsL]⟩
            · split at h
              · rename_i hk
                obtain ⟨hk, hl⟩ := hk
                have ho := kind_name 6 hk
                simp only [kindsL, List.getElem?_cons_succ, List.getElem?_cons_zero, Option.some.injEq] at ho
                subst ho
                have := List.eq_nil_of_length_eq_zero hl
                subst this
                simp only [Option.some.injEq, Prod.mk.injEq] at h
                obtain ⟨rfl, rfl⟩ := h
                exact ⟨⟨by simp, by simp, by simp, by simp, by simp [Cl.zero], by simp [clear, Cl.zero], by simp, by simp⟩, ⟨by simp [Cl.zero], by simp [Cl.zero], by simp⟩, ⟨by simp, by simp, by simp⟩, by simp [wordsL]⟩
              · split at h
                · rename_i hk
                  obtain ⟨hk, hl⟩ := hk
                  have ho := kind_name 7 hk
                  simp only [kindsL, List.getElem?_cons_succ, List.getElem?_cons_zero, Option.some.injEq] at ho
                  subst ho
                  obtain ⟨x, rfl⟩ := len1 hl
                  simp only [List.getD_cons_zero] at h
                  cases hx : whole x 1 maxScript with
                  | none => rw [hx] at h; cases h
                  | some m =>
                    rw [hx] at h
                    simp only [Option.map_some, Option.some.injEq, Prod.mk.injEq] at h
                    obtain ⟨rfl, rfl⟩ := h
                    obtain ⟨y1, y2, y3, _⟩ := whole_some hx
                    unfold maxScript at y3
                    exact ⟨⟨by simp, by simp, by simp, by simp, by simp [Cl.zero], by simp [clear, Cl.zero], by simp, by simp⟩, ⟨by simp [Cl.zero], by simp [Cl.zero], by simp⟩, ⟨y2, y3, by simp [again]⟩, by simp [wordsL, y1]⟩
                · cases h

/-! ### Lines -/
theorem wordsL_ne (a : Ac) (n : Int) : wordsL a n ≠ [] := by
  unfold wordsL
  repeat' split
  all_goals simp
theorem names_plain : ∀ x ∈ [sInvoke, sPick, sEvict, sCrash, sOpen, sScavenge, sBoot, sNone, sPut, sGet, sDelete, sScan], ∀ b ∈ x, b ≠ 32 ∧ b ≠ 10 := by decide
theorem wordsL_plain {a : Ac} (h : May a) (T : Typed a) (n : Int) (hn : 1 ≤ n) : ∀ x ∈ wordsL a n, ∀ b ∈ x, b ≠ 32 ∧ b ≠ 10 := by
  have hN := names_plain
  intro x hx
  unfold wordsL at hx
  split at hx
  · rcases List.mem_cons.1 hx with rfl | hx
    · exact hN _ (by simp)
    rcases List.mem_cons.1 hx with rfl | hx
    · exact num_plain _ h.client.1
    · unfold callW at hx
      repeat' split at hx
      all_goals simp only [List.mem_cons, List.not_mem_nil, or_false] at hx
      · rcases hx with rfl | rfl | rfl
        · exact hN _ (by simp)
        · exact num_plain _ T.key.1
        · exact digits_plain _
      · rcases hx with rfl | rfl
        · exact hN _ (by simp)
        · exact num_plain _ T.key.1
      · rcases hx with rfl | rfl
        · exact hN _ (by simp)
        · exact num_plain _ T.key.1
      · rcases hx with rfl | rfl | rfl | rfl
        · exact hN _ (by simp)
        · exact num_plain _ T.key.1
        · exact num_plain _ T.hi.1
        · exact num_plain _ h.lim.1
      · rcases hx with rfl | rfl
        · exact hN _ (by simp)
        · exact num_plain _ T.key.1
  · split at hx
    · simp only [List.mem_cons, List.not_mem_nil, or_false] at hx
      rcases hx with rfl | rfl | rfl
      · exact hN _ (by simp)
      · exact num_plain _ h.client.1
      · exact num_plain _ (by omega)
    · split at hx
      · simp only [List.mem_cons, List.not_mem_nil, or_false] at hx
        rcases hx with rfl | rfl | rfl
        · exact hN _ (by simp)
        · exact num_plain _ T.at_.1
        · exact num_plain _ h.n.1
      · split at hx
        · rcases List.mem_cons.1 hx with rfl | hx
          · exact hN _ (by simp)
          · obtain ⟨k, hk, rfl⟩ := List.mem_map.1 hx
            exact num_plain _ (h.keep k hk).1
        · split at hx
          · simp only [List.mem_cons, List.not_mem_nil, or_false] at hx
            subst hx
            exact hN _ (by simp)
          · split at hx
            · simp only [List.mem_cons, List.not_mem_nil, or_false] at hx
              subst hx
              exact hN _ (by simp)
            · simp only [List.mem_cons, List.not_mem_nil, or_false] at hx
              rcases hx with rfl | rfl
              · exact hN _ (by simp)
              · exact num_plain _ (by omega)
theorem lineOf_line {a : Ac} (h : May a) (T : Typed a) (n : Int) (hn : Times a n) : lineOf (lineL a n) = some (a, n) := by
  unfold lineOf lineL
  rw [split_join _ (wordsL_ne a n) fun x hx b hb => (wordsL_plain h T n hn.1 x hx b hb).1]
  exact ofL_words h T n hn
theorem lineOf_some {s : Bs} {a : Ac} {n : Int} (h : lineOf s = some (a, n)) : May a ∧ Typed a ∧ Times a n ∧ lineL a n = s := by
  obtain ⟨h1, h2, h3, h4⟩ := ofL_some h
  exact ⟨h1, h2, h3, by rw [lineL, h4, join_split]⟩
theorem may_iff {a : Ac} (T : Typed a) : may a = mayAct a := by
  rw [Bool.eq_iff_iff, mayAct_iff]
  constructor
  · intro h
    unfold may at h
    split at h
    · cases h
    · cases hl : lineOf (lineL a 1) with
      | none => rw [hl] at h; cases h
      | some p =>
        obtain ⟨b, m⟩ := p
        rw [hl] at h
        simp only [decide_eq_true_eq] at h
        subst h
        exact (lineOf_some hl).1
  · intro h
    unfold may
    rw [if_neg, lineOf_line h T 1 ⟨by decide, by decide, fun _ => rfl⟩]
    · simp
    · have := h.k1
      have := h.k7
      have := h.op
      omega

end Go.Proofs.YtnnahodajiolmaaGreatDoor.sc

namespace Go.Proofs.YtnnahodajiolmaaGreatDoor.sc
open Go.Lib
set_option linter.unusedVariables false

/-! ### Num, small, unhex -/
/-- A digit's number, as the reference takes any byte. -/
def dval (b : UInt8) : Nat := (b.toNat + 208) % 256
def numStep (n : Nat) (b : UInt8) : Nat := (10 * n + dval b) % 18446744073709551616
/-- The number of digits (at most 20 of them); what they are not is something. -/
def numR (l : Bs) : Nat := (l.take 20).foldl numStep 0
def smallR (l : Bs) : Int := if 1099511627776 < numR l then -1 else (numR l : Int)
def hx (b : UInt8) : Nat := (Go.Lib.indexByte hexes b).toNat
def unhexR : Bs → Bs
  | a :: b :: r => UInt8.ofNat (16 * hx a + hx b) :: unhexR r
  | _ => []
def unhexV (l : Bs) : Bs := if l = [45] then [] else unhexR l

theorem foldl_dec : ∀ u : Nat, u < 18446744073709551616 → (decDigits u).foldl numStep 0 = u := by
  intro u
  induction u using Nat.strongRecOn with
  | _ u ih =>
    intro hu
    rw [decDigits]
    split
    · rename_i h
      have e : (UInt8.ofNat (48 + u)).toNat = 48 + u := by rw [UInt8.toNat_ofNat']; omega
      simp only [List.foldl_cons, List.foldl_nil, numStep, dval, e]
      omega
    · rename_i h
      have e : (UInt8.ofNat (48 + u % 10)).toNat = 48 + u % 10 := by rw [UInt8.toNat_ofNat']; omega
      rw [List.foldl_append, ih (u / 10) (by omega) (by omega)]
      simp only [List.foldl_cons, List.foldl_nil, numStep, dval, e]
      omega
theorem numR_num (n : Int) (h0 : 0 ≤ n) (h1 : n < 18446744073709551616) : (numR (num n) : Int) = n := by
  obtain ⟨u, rfl⟩ : ∃ u : Nat, n = u := ⟨n.toNat, by omega⟩
  rw [num_nat', numR, List.take_of_length_le (decDigits_le u (by omega)), foldl_dec u (by omega)]
theorem smallR_num (n : Int) (h0 : 0 ≤ n) (h1 : n ≤ 1099511627776) : smallR (num n) = n := by
  have := numR_num n h0 (by omega)
  unfold smallR
  rw [if_neg (by omega), this]
theorem hx_hexd {n : Nat} (h : n < 16) : hx (hexd n) = n := by rw [hx, hexd_idx h, Int.toNat_natCast]
theorem unhexR_hex : ∀ v : Bs, unhexR (v.flatMap hex2) = v
  | [] => rfl
  | b :: r => by
    have hb := b.toNat_lt
    rw [List.flatMap_cons]
    show UInt8.ofNat (16 * hx (hexd (b.toNat / 16)) + hx (hexd (b.toNat % 16))) :: unhexR (r.flatMap hex2) = _
    rw [hx_hexd (by omega), hx_hexd (by omega), unhexR_hex r, show 16 * (b.toNat / 16) + b.toNat % 16 = b.toNat by omega, UInt8.ofNat_toNat]
theorem unhexV_digits (v : Bs) : unhexV (digits v) = v := by
  unfold digits
  split
  · rename_i h; subst h; rfl
  · rename_i h
    cases v with
    | nil => exact absurd rfl h
    | cons b r =>
      rw [unhexV, if_neg (by simp [hex2]), unhexR_hex]

/-! ### OfLine -/
/-- What a line seems to be. -/
def cand (s : Bs) : Ac × Int :=
  let l := splitC 32 s
  let w := fun i => l.getD i []
  let z : Ac := Ac.zero
  if w 0 = sInvoke then
    (⟨1, smallR (w 1),
      if w 2 = sPut then ⟨1, numR (w 3), 0, 0, unhexV (w 4)⟩
      else if w 2 = sGet then ⟨2, numR (w 3), 0, 0, []⟩
      else if w 2 = sDelete then ⟨3, numR (w 3), 0, 0, []⟩
      else if w 2 = sScan then ⟨4, numR (w 3), numR (w 4), smallR (w 5), []⟩
      else ⟨0, numR (w 3), 0, 0, []⟩, 0, 0, []⟩, 1)
  else if w 0 = sPick then (⟨2, smallR (w 1), Cl.zero, 0, 0, []⟩, smallR (w 2))
  else if w 0 = sEvict then (⟨3, 0, Cl.zero, numR (w 1), smallR (w 2), []⟩, 1)
  else if w 0 = sCrash then (⟨4, 0, Cl.zero, 0, 0, (l.drop 1).map smallR⟩, 1)
  else if w 0 = sOpen then (⟨5, 0, Cl.zero, 0, 0, []⟩, 1)
  else if w 0 = sScavenge then (⟨6, 0, Cl.zero, 0, 0, []⟩, 1)
  else if w 0 = sBoot then (⟨7, 0, Cl.zero, 0, 0, []⟩, smallR (w 1))
  else (z, 1)
def refOf (s : Bs) : Option (Ac × Int) :=
  let p := cand s
  if mayAct p.1 = true ∧ 1 ≤ p.2 ∧ p.2 ≤ 100000 ∧ lineL p.1 p.2 = s then some p else none

theorem numR_lt (l : Bs) : numR l < 18446744073709551616 := by
  unfold numR
  generalize l.take 20 = t
  have : ∀ (t : Bs) (n : Nat), n < 18446744073709551616 → t.foldl numStep n < 18446744073709551616 := by
    intro t
    induction t with
    | nil => intro n h; exact h
    | cons b r ih => intro n _; exact ih _ (Nat.mod_lt _ (by decide))
  exact this t 0 (by decide)
theorem cand_line {a : Ac} (h : May a) (T : Typed a) (n : Int) (hn : Times a n) : cand (lineL a n) = (a, n) := by
  unfold cand
  rw [show splitC 32 (lineL a n) = wordsL a n from split_join _ (wordsL_ne a n) fun x hx b hb => (wordsL_plain h T n hn.1 x hx b hb).1]
  obtain ⟨n1, n2, n3⟩ := hn
  rcases may_forms h with ⟨c, op, key, hi, lim, val, rfl, hop⟩ | ⟨c, rfl⟩ | ⟨p, m, rfl⟩ | ⟨t, rfl⟩ | ⟨k, hk, rfl⟩
  · have := n3 rfl
    subst this
    have e := smallR_num c h.client.1 h.client.2
    have e2 := numR_num key T.key.1 T.key.2
    have e3 := numR_num hi T.hi.1 T.hi.2
    have e4 := smallR_num lim h.lim.1 h.lim.2
    rcases hop with ⟨rfl, rfl, rfl⟩ | ⟨rfl, rfl, rfl, rfl⟩ | ⟨rfl, rfl, rfl, rfl⟩ | ⟨rfl, rfl⟩
    · simp [wordsL, callW, e, e2, unhexV_digits]
    · simp [wordsL, callW, e, e2, show sGet ≠ sPut by decide]
    · simp [wordsL, callW, e, e2, show sDelete ≠ sPut by decide, show sDelete ≠ sGet by decide]
    · simp [wordsL, callW, e, e2, e3, e4, show sScan ≠ sPut by decide, show sScan ≠ sGet by decide, show sScan ≠ sDelete by decide]
  · have e := smallR_num c h.client.1 h.client.2
    have e2 := smallR_num n (by omega) (by omega)
    simp [wordsL, e, e2, show sPick ≠ sInvoke by decide]
  · have := n3 rfl
    subst this
    have e := numR_num p T.at_.1 T.at_.2
    have e2 := smallR_num m h.n.1 h.n.2
    simp [wordsL, e, e2, show sEvict ≠ sInvoke by decide, show sEvict ≠ sPick by decide]
  · have := n3 rfl
    subst this
    have e : t.map (smallR ∘ num) = t := by
      conv => rhs; rw [← List.map_id t]
      exact List.map_congr_left fun k hk => smallR_num k (h.keep k hk).1 (h.keep k hk).2
    simp [wordsL, show sCrash ≠ sInvoke by decide, show sCrash ≠ sPick by decide, show sCrash ≠ sEvict by decide]
    exact e
  · rcases hk with rfl | rfl | rfl
    · have := n3 rfl
      subst this
      simp [wordsL, show sOpen ≠ sInvoke by decide, show sOpen ≠ sPick by decide, show sOpen ≠ sEvict by decide, show sOpen ≠ sCrash by decide]
    · have := n3 rfl
      subst this
      simp [wordsL, show sScavenge ≠ sInvoke by decide, show sScavenge ≠ sPick by decide, show sScavenge ≠ sEvict by decide, show sScavenge ≠ sCrash by decide, show sScavenge ≠ sOpen by decide]
    · have e2 := smallR_num n (by omega) (by omega)
      simp [wordsL, e2, show sBoot ≠ sInvoke by decide, show sBoot ≠ sPick by decide, show sBoot ≠ sEvict by decide, show sBoot ≠ sCrash by decide, show sBoot ≠ sOpen by decide, show sBoot ≠ sScavenge by decide]
theorem cand_typed (s : Bs) : Typed (cand s).1 := by
  have h := numR_lt
  unfold cand
  simp only
  have g1 := h ((splitC 32 s).getD 1 [])
  have g3 := h ((splitC 32 s).getD 3 [])
  have g4 := h ((splitC 32 s).getD 4 [])
  repeat' split
  all_goals (constructor <;> simp only [Cl.zero, Ac.zero] <;> first | omega | (constructor <;> omega))
theorem cand_times (s : Bs) (h : 1 ≤ (cand s).2 ∧ (cand s).2 ≤ 100000) : Times (cand s).1 (cand s).2 := by
  refine ⟨h.1, h.2, ?_⟩
  clear h
  unfold cand
  simp only
  generalize (fun i => (splitC 32 s).getD i []) = w
  repeat' split
  all_goals simp [again]
theorem refOf_eq (s : Bs) : refOf s = lineOf s := by
  cases h : lineOf s with
  | some p =>
    obtain ⟨a, n⟩ := p
    obtain ⟨h1, h2, h3, h4⟩ := lineOf_some h
    have hc : cand s = (a, n) := by rw [← h4]; exact cand_line h1 h2 n h3
    unfold refOf
    simp only [hc]
    rw [if_pos ⟨(mayAct_iff a).2 h1, h3.1, h3.2.1, h4⟩]
  | none =>
    unfold refOf
    simp only
    rw [if_neg]
    rintro ⟨h1, h2, h3, h4⟩
    have := lineOf_line ((mayAct_iff _).1 h1) (cand_typed s) (cand s).2 (cand_times s ⟨h2, h3⟩)
    rw [h4, h] at this
    cases this

/-! ### Line, as the reference writes it -/
def lineR (a : Ac) (n : Int) : Bs :=
  if a.kind = 1 then
    if a.call.op = 1 then sInvoke ++ [32] ++ num a.client ++ [32, 112, 117, 116, 32] ++ num a.call.key ++ [32] ++ digits a.call.val
    else if a.call.op = 2 then sInvoke ++ [32] ++ num a.client ++ [32, 103, 101, 116, 32] ++ num a.call.key
    else if a.call.op = 3 then sInvoke ++ [32] ++ num a.client ++ [32, 100, 101, 108, 101, 116, 101, 32] ++ num a.call.key
    else sInvoke ++ [32] ++ num a.client ++ [32, 115, 99, 97, 110, 32] ++ num a.call.key ++ [32] ++ num a.call.hi ++ [32] ++ num a.call.lim
  else if a.kind = 2 then sPick ++ [32] ++ num a.client ++ [32] ++ num n
  else if a.kind = 3 then sEvict ++ [32] ++ num a.at_ ++ [32] ++ num a.n
  else if a.kind = 4 then sCrash ++ a.keep.flatMap (fun k => 32 :: num k)
  else if a.kind = 5 then sOpen
  else if a.kind = 6 then sScavenge
  else sBoot ++ [32] ++ num n
theorem joinB_cons (x : Bs) : ∀ r : List Bs, joinB (x :: r) = x ++ r.flatMap (fun y => 32 :: y)
  | [] => by rw [joinB_one]; simp
  | y :: r => by rw [joinB_cons2, joinB_cons y r]; simp
theorem lineR_eq {a : Ac} (h : May a) (n : Int) : lineR a n = lineL a n := by
  have k1 := h.k1
  have k7 := h.k7
  have ho := h.op
  unfold lineR lineL wordsL
  split
  · rename_i h1
    have := ho h1
    unfold callW
    split
    · simp [joinB_cons, sPut, sInvoke]
    · split
      · simp [joinB_cons, sGet, sInvoke]
      · split
        · simp [joinB_cons, sDelete, sInvoke]
        · rw [if_pos (by omega)]
          simp [joinB_cons, sScan, sInvoke]
  · split
    · simp [joinB_cons]
    · split
      · simp [joinB_cons]
      · split
        · simp [joinB_cons, List.flatMap_map]
        · split
          · simp [joinB_one]
          · split
            · simp [joinB_one]
            · simp [joinB_cons]

end Go.Proofs.YtnnahodajiolmaaGreatDoor.sc
