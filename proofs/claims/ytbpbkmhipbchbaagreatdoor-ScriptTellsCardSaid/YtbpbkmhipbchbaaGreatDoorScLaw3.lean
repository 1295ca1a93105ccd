/-
  PLAIN LAWS: what the reference's OfLine, Line, Num, unhex, words compute, and that its OfLine is the program's. Conditions: numbers of their kinds.
-/
import Derived.Test.YtbpbkmhipbchbaaGreatDoorScLaw2
namespace Go.Proofs.YtbpbkmhipbchbaaGreatDoor.sc
open Go.Lib
set_option linter.unusedVariables false

/-! ### Num, small, unhex -/
/-- A digit's number, as the reference takes any byte. -/
def dval (b : UInt8) : Nat := (b.toNat + 208) % 256
def numStep (n : Nat) (b : UInt8) : Nat := (10 * n + dval b) % 18446744073709551616
/-- The number of digits (at most 20 of them); what they are not is something. -/
def numR (l : Bs) : Nat := (l.take 20).foldl numStep 0
def smallR (l : Bs) : Int := if 1099511627776 < numR l then -1 else (numR l : Int)
def hx (b : UInt8) : Nat := (Go.Lib.indexByte hexes b).toNat
def unhexR : Bs → Bs
  | a :: b :: r => UInt8.ofNat (16 * hx a + hx b) :: unhexR r
  | _ => []
def unhexV (l : Bs) : Bs := if l = [45] then [] else unhexR l

theorem foldl_dec : ∀ u : Nat, u < 18446744073709551616 → (decDigits u).foldl numStep 0 = u := by
  intro u
  induction u using Nat.strongRecOn with
  | _ u ih =>
    intro hu
    rw [decDigits]
    split
    · rename_i h
      have e : (UInt8.ofNat (48 + u)).toNat = 48 + u := by rw [UInt8.toNat_ofNat']; omega
      simp only [List.foldl_cons, List.foldl_nil, numStep, dval, e]
      omega
    · rename_i h
      have e : (UInt8.ofNat (48 + u % 10)).toNat = 48 + u % 10 := by rw [UInt8.toNat_ofNat']; omega
      rw [List.foldl_append, ih (u / 10) (by omega) (by omega)]
      simp only [List.foldl_cons, List.foldl_nil, numStep, dval, e]
      omega
theorem numR_num (n : Int) (h0 : 0 ≤ n) (h1 : n < 18446744073709551616) : (numR (num n) : Int) = n := by
  obtain ⟨u, rfl⟩ : ∃ u : Nat, n = u := ⟨n.toNat, by omega⟩
  rw [num_nat', numR, List.take_of_length_le (decDigits_le u (by omega)), foldl_dec u (by omega)]
theorem smallR_num (n : Int) (h0 : 0 ≤ n) (h1 : n ≤ 1099511627776) : smallR (num n) = n := by
  have := numR_num n h0 (by omega)
  unfold smallR
  rw [if_neg (by omega), this]
theorem hx_hexd {n : Nat} (h : n < 16) : hx (hexd n) = n := by rw [hx, hexd_idx h, Int.toNat_natCast]
theorem unhexR_hex : ∀ v : Bs, unhexR (v.flatMap hex2) = v
  | [] => rfl
  | b :: r => by
    have hb := b.toNat_lt
    rw [List.flatMap_cons]
    show UInt8.ofNat (16 * hx (hexd (b.toNat / 16)) + hx (hexd (b.toNat % 16))) :: unhexR (r.flatMap hex2) = _
    rw [hx_hexd (by omega), hx_hexd (by omega), unhexR_hex r, show 16 * (b.toNat / 16) + b.toNat % 16 = b.toNat by omega, UInt8.ofNat_toNat]
theorem unhexV_digits (v : Bs) : unhexV (digits v) = v := by
  unfold digits
  split
  · rename_i h; subst h; rfl
  · rename_i h
    cases v with
    | nil => exact absurd rfl h
    | cons b r =>
      rw [unhexV, if_neg (by simp [hex2]), unhexR_hex]

/-! ### OfLine -/
/-- What a line seems to be. -/
def cand (s : Bs) : Ac × Int :=
  let l := splitC 32 s
  let w := fun i => l.getD i []
  let z : Ac := Ac.zero
  if w 0 = sInvoke then
    (⟨1, smallR (w 1),
      if w 2 = sPut then ⟨1, numR (w 3), 0, 0, unhexV (w 4)⟩
      else if w 2 = sGet then ⟨2, numR (w 3), 0, 0, []⟩
      else if w 2 = sDelete then ⟨3, numR (w 3), 0, 0, []⟩
      else if w 2 = sScan then ⟨4, numR (w 3), numR (w 4), smallR (w 5), []⟩
      else ⟨0, numR (w 3), 0, 0, []⟩, 0, 0, []⟩, 1)
  else if w 0 = sPick then (⟨2, smallR (w 1), Cl.zero, 0, 0, []⟩, smallR (w 2))
  else if w 0 = sEvict then (⟨3, 0, Cl.zero, numR (w 1), smallR (w 2), []⟩, 1)
  else if w 0 = sCrash then (⟨4, 0, Cl.zero, 0, 0, (l.drop 1).map smallR⟩, 1)
  else if w 0 = sOpen then (⟨5, 0, Cl.zero, 0, 0, []⟩, 1)
  else if w 0 = sScavenge then (⟨6, 0, Cl.zero, 0, 0, []⟩, 1)
  else if w 0 = sBoot then (⟨7, 0, Cl.zero, 0, 0, []⟩, smallR (w 1))
  else (z, 1)
def refOf (s : Bs) : Option (Ac × Int) :=
  let p := cand s
  if mayAct p.1 = true ∧ 1 ≤ p.2 ∧ p.2 ≤ 100000 ∧ lineL p.1 p.2 = s then some p else none

theorem numR_lt (l : Bs) : numR l < 18446744073709551616 := by
  unfold numR
  generalize l.take 20 = t
  have : ∀ (t : Bs) (n : Nat), n < 18446744073709551616 → t.foldl numStep n < 18446744073709551616 := by
    intro t
    induction t with
    | nil => intro n h; exact h
    | cons b r ih => intro n _; exact ih _ (Nat.mod_lt _ (by decide))
  exact this t 0 (by decide)
theorem cand_line {a : Ac} (h : May a) (T : Typed a) (n : Int) (hn : Times a n) : cand (lineL a n) = (a, n) := by
  unfold cand
  rw [show splitC 32 (lineL a n) = wordsL a n from split_join _ (wordsL_ne a n) fun x hx b hb => (wordsL_plain h T n hn.1 x hx b hb).1]
  obtain ⟨n1, n2, n3⟩ := hn
  rcases may_forms h with ⟨c, op, key, hi, lim, val, rfl, hop⟩ | ⟨c, rfl⟩ | ⟨p, m, rfl⟩ | ⟨t, rfl⟩ | ⟨k, hk, rfl⟩
  · have := n3 rfl
    subst this
    have e := smallR_num c h.client.1 h.client.2
    have e2 := numR_num key T.key.1 T.key.2
    have e3 := numR_num hi T.hi.1 T.hi.2
    have e4 := smallR_num lim h.lim.1 h.lim.2
    rcases hop with ⟨rfl, rfl, rfl⟩ | ⟨rfl, rfl, rfl, rfl⟩ | ⟨rfl, rfl, rfl, rfl⟩ | ⟨rfl, rfl⟩
    · simp [wordsL, callW, e, e2, unhexV_digits]
    · simp [wordsL, callW, e, e2, show sGet ≠ sPut by decide]
    · simp [wordsL, callW, e, e2, show sDelete ≠ sPut by decide, show sDelete ≠ sGet by decide]
    · simp [wordsL, callW, e, e2, e3, e4, show sScan ≠ sPut by decide, show sScan ≠ sGet by decide, show sScan ≠ sDelete by decide]
  · have e := smallR_num c h.client.1 h.client.2
    have e2 := smallR_num n (by omega) (by omega)
    simp [wordsL, e, e2, show sPick ≠ sInvoke by decide]
  · have := n3 rfl
    subst this
    have e := numR_num p T.at_.1 T.at_.2
    have e2 := smallR_num m h.n.1 h.n.2
    simp [wordsL, e, e2, show sEvict ≠ sInvoke by decide, show sEvict ≠ sPick by decide]
  · have := n3 rfl
    subst this
    have e : t.map (smallR ∘ num) = t := by
      conv => rhs; rw [← List.map_id t]
      exact List.map_congr_left fun k hk => smallR_num k (h.keep k hk).1 (h.keep k hk).2
    simp [wordsL, show sCrash ≠ sInvoke by decide, show sCrash ≠ sPick by decide, show sCrash ≠ sEvict by decide]
    exact e
  · rcases hk with rfl | rfl | rfl
    · have := n3 rfl
      subst this
      simp [wordsL, show sOpen ≠ sInvoke by decide, show sOpen ≠ sPick by decide, show sOpen ≠ sEvict by decide, show sOpen ≠ sCrash by decide]
    · have := n3 rfl
      subst this
      simp [wordsL, show sScavenge ≠ sInvoke by decide, show sScavenge ≠ sPick by decide, show sScavenge ≠ sEvict by decide, show sScavenge ≠ sCrash by decide, show sScavenge ≠ sOpen by decide]
    · have e2 := smallR_num n (by omega) (by omega)
      simp [wordsL, e2, show sBoot ≠ sInvoke by decide, show sBoot ≠ sPick by decide, show sBoot ≠ sEvict by decide, show sBoot ≠ sCrash by decide, show sBoot ≠ sOpen by decide, show sBoot ≠ sScavenge by decide]
theorem cand_typed (s : Bs) : Typed (cand s).1 := by
  have h := numR_lt
  unfold cand
  simp only
  have g1 := h ((splitC 32 s).getD 1 [])
  have g3 := h ((splitC 32 s).getD 3 [])
  have g4 := h ((splitC 32 s).getD 4 [])
  repeat' split
  all_goals (constructor <;> simp only [Cl.zero, Ac.zero] <;> first | omega | (constructor <;> omega))
theorem cand_times (s : Bs) (h : 1 ≤ (cand s).2 ∧ (cand s).2 ≤ 100000) : Times (cand s).1 (cand s).2 := by
  refine ⟨h.1, h.2, ?_⟩
  clear h
  unfold cand
  simp only
  generalize (fun i => (splitC 32 s).getD i []) = w
  repeat' split
  all_goals simp [again]
theorem refOf_eq (s : Bs) : refOf s = lineOf s := by
  cases h : lineOf s with
  | some p =>
    obtain ⟨a, n⟩ := p
    obtain ⟨h1, h2, h3, h4⟩ := lineOf_some h
    have hc : cand s = (a, n) := by rw [← h4]; exact cand_line h1 h2 n h3
    unfold refOf
    simp only [hc]
    rw [if_pos ⟨(mayAct_iff a).2 h1, h3.1, h3.2.1, h4⟩]
  | none =>
    unfold refOf
    simp only
    rw [if_neg]
    rintro ⟨h1, h2, h3, h4⟩
    have := lineOf_line ((mayAct_iff _).1 h1) (cand_typed s) (cand s).2 (cand_times s ⟨h2, h3⟩)
    rw [h4, h] at this
    cases this

/-! ### Line, as the reference writes it -/
def lineR (a : Ac) (n : Int) : Bs :=
  if a.kind = 1 then
    if a.call.op = 1 then sInvoke ++ [32] ++ num a.client ++ [32, 112, 117, 116, 32] ++ num a.call.key ++ [32] ++ digits a.call.val
    else if a.call.op = 2 then sInvoke ++ [32] ++ num a.client ++ [32, 103, 101, 116, 32] ++ num a.call.key
    else if a.call.op = 3 then sInvoke ++ [32] ++ num a.client ++ [32, 100, 101, 108, 101, 116, 101, 32] ++ num a.call.key
    else sInvoke ++ [32] ++ num a.client ++ [32, 115, 99, 97, 110, 32] ++ num a.call.key ++ [32] ++ num a.call.hi ++ [32] ++ num a.call.lim
  else if a.kind = 2 then sPick ++ [32] ++ num a.client ++ [32] ++ num n
  else if a.kind = 3 then sEvict ++ [32] ++ num a.at_ ++ [32] ++ num a.n
  else if a.kind = 4 then sCrash ++ a.keep.flatMap (fun k => 32 :: num k)
  else if a.kind = 5 then sOpen
  else if a.kind = 6 then sScavenge
  else sBoot ++ [32] ++ num n
theorem joinB_cons (x : Bs) : ∀ r : List Bs, joinB (x :: r) = x ++ r.flatMap (fun y => 32 :: y)
  | [] => by rw [joinB_one]; simp
  | y :: r => by rw [joinB_cons2, joinB_cons y r]; simp
theorem lineR_eq {a : Ac} (h : May a) (n : Int) : lineR a n = lineL a n := by
  have k1 := h.k1
  have k7 := h.k7
  have ho := h.op
  unfold lineR lineL wordsL
  split
  · rename_i h1
    have := ho h1
    unfold callW
    split
    · simp [joinB_cons, sPut, sInvoke]
    · split
      · simp [joinB_cons, sGet, sInvoke]
      · split
        · simp [joinB_cons, sDelete, sInvoke]
        · rw [if_pos (by omega)]
          simp [joinB_cons, sScan, sInvoke]
  · split
    · simp [joinB_cons]
    · split
      · simp [joinB_cons]
      · split
        · simp [joinB_cons, List.flatMap_map]
        · split
          · simp [joinB_one]
          · split
            · simp [joinB_one]
            · simp [joinB_cons]

end Go.Proofs.YtbpbkmhipbchbaaGreatDoor.sc
