/-
  PROVED HERE: strings.Split at a blank and slices.Index at a slice of strings, in this text's own words. Conditions: a short string.
-/
import Derived.Test.YtbpbkmhipbchbaaGreatDoorScVal
import Derived.Lib.SplitLaws
namespace Go.Proofs.YtbpbkmhipbchbaaGreatDoor.sc
open Go.RowKit
set_option linter.unusedVariables false

theorem indexByte_none (c : UInt8) : ∀ l : Bs, Go.Lib.indexByte l c = -1 → l.count c = 0
  | [], _ => rfl
  | b :: l, h => by
    have hl := (indexByte_bd l c).1
    rw [Go.Lib.indexByte] at h
    by_cases h1 : (b == c) = true
    · rw [if_pos h1] at h; omega
    · rw [if_neg h1] at h
      by_cases h2 : (Go.Lib.indexByte l c == -1) = true
      · have := indexByte_none c l (by simpa using h2)
        rw [List.count_cons, this, if_neg h1]
      · rw [if_neg h2] at h
        have : Go.Lib.indexByte l c ≠ -1 := by simpa using h2
        omega
theorem splitK_ne (c x : UInt8) (hx : x ≠ c) : ∀ (k : Nat) (r : Bs), k ≤ r.count c → ∃ y t, Go.Lib.splitK [c] 0 k r = y :: t ∧ Go.Lib.splitK [c] 0 k (x :: r) = (x :: y) :: t := by
  intro k r hk
  cases k with
  | zero => exact ⟨r, [], rfl, rfl⟩
  | succ k =>
    have hb : (x == c) = false := by simpa using hx
    rw [Go.Lib.splitK, Go.Lib.splitK, Go.Lib.index_one, Go.Lib.index_one]
    have hi : Go.Lib.indexByte r c ≠ -1 := by
      intro e
      have := indexByte_none c r e; omega
    have h1 := (indexByte_bd r c).1
    have e1 : (Go.Lib.indexByte r c == -1) = false := by simpa using hi
    have e2 : Go.Lib.indexByte (x :: r) c = Go.Lib.indexByte r c + 1 := by
      rw [Go.Lib.indexByte, if_neg (by simp [hb]), if_neg (by simp [e1])]
    have e3 : (Go.Lib.indexByte (x :: r) c == -1) = false := by rw [e2]; simp; omega
    rw [if_neg (by simp [e1]), if_neg (by simp [e3]), e2]
    obtain ⟨i, hi2⟩ : ∃ i : Nat, Go.Lib.indexByte r c = i := ⟨(Go.Lib.indexByte r c).toNat, by omega⟩
    refine ⟨_, _, rfl, ?_⟩
    rw [hi2, show ((i : Int) + 1).toNat = i + 1 by omega, Int.toNat_natCast]
    simp
theorem splitK_splitC (c : UInt8) : ∀ s : Bs, Go.Lib.splitK [c] 0 (s.count c) s = splitC c s
  | [] => rfl
  | x :: r => by
    by_cases hx : x = c
    · subst hx
      have e0 : Go.Lib.indexByte (x :: r) x = 0 := by rw [Go.Lib.indexByte, if_pos (by simp)]
      rw [splitC, if_pos rfl, List.count_cons_self, Go.Lib.splitK, Go.Lib.index_one, e0, if_neg (by decide), ← splitK_splitC x r]
      rfl
    · rw [splitC, if_neg hx, List.count_cons_of_ne (fun e => hx e), ← splitK_splitC c r]
      obtain ⟨y, t, e1, e2⟩ := splitK_ne c x hx (r.count c) r (Nat.le_refl _)
      rw [e1, e2]
theorem split_eq (s : Bs) : (Go.Lib.splitB ⟨#[32]⟩ 0 (Go.Lib.countB (mk s) ⟨#[32]⟩) (mk s)).map (·.data.toList) = splitC 32 s := by
  rw [Go.Lib.splitB_data, of_mk]
  show Go.Lib.splitK [32] 0 (Go.Lib.count s [32]) s = _
  rw [Go.Lib.count_one, splitK_splitC]

/-- A fresh slice of these words. -/
def SplitPost (w : World) (l : List Bs) (e : Ending) (w' : World) : Prop :=
  ∃ v, e = .returned v ∧ StrsAt w' v l ∧ Below w.heap.size w w'

theorem split_any {w : World} (s : Bs) (hs : s.length ≤ 1000000) (E : Env w) :
    Calls Tryz.prog 30 #[.string (mk s), .string ⟨#[32]⟩] w (SplitPost w (splitC 32 s)) := by
  obtain ⟨_, _, ⟨m, hm⟩, _⟩ := E
  refine (Tryz.strings_Split (mk s) ⟨#[32]⟩ m w (by rw [mk_size]; omega) hm (by decide)).mono ?_
  rintro e w' ⟨rfl, rfl⟩
  have hl := Go.Lib.splitB_all ⟨#[32]⟩ (by decide) 0 _ (mk s) rfl
  have he := split_eq s
  generalize hB : Go.Lib.splitB ⟨#[32]⟩ 0 (Go.Lib.countB (mk s) ⟨#[32]⟩) (mk s) = B at hl he ⊢
  have hlen : (splitC 32 s).length = Go.Lib.countB (mk s) ⟨#[32]⟩ + 1 := by rw [← he, List.length_map, hl]
  refine ⟨_, rfl, ⟨some ⟨w.heap.size, 0, none⟩, _, by rw [hlen], by rw [hlen]; exact Nat.le_refl _, fun _ => ⟨_, _, rfl, by simp, fun j x hj => ?_⟩⟩, (Below.refl _ _).alloc (Nat.le_refl _) _⟩
  rw [Nat.zero_add, World.cell?_alloc_new]
  rw [← he, List.getElem?_map] at hj
  obtain ⟨y, hy, rfl⟩ := Option.map_eq_some_iff.1 hj
  rw [← Array.getElem?_toList, List.getElem?_map, hy, mk_data]; rfl

theorem idx_idxOfS (x : Bs) : ∀ (l : List Bs) (i : Nat), Go.Lib.idxFromS (l.map mk) (mk x) i = idx x l i
  | [], _ => rfl
  | y :: r, i => by
    rw [List.map_cons, Go.Lib.idxFromS, idx, idx_idxOfS x r (i + 1)]
    by_cases h : y = x
    · rw [if_pos (by rw [h]), if_pos h]
    · rw [if_neg (fun e => h (mk_inj e)), if_neg h]
theorem index_any {w : World} {A : Option Addr} {c : Nat} {l : List Bs} (x : Bs) (h : StrsAt w (.slice A l.length c) l) (hl : l.length ≤ 1000) :
    Calls Tryz.prog 64 #[.slice A l.length c, .string (mk x)] w fun e w' => e = .returned (.int .i64 (idx x l 0)) ∧ w' = w := by
  obtain ⟨A', c', e, _, h3⟩ := h
  cases e
  by_cases h0 : l = []
  · subst h0
    exact Tryz.slices_Index_string_empty A c (mk x) w
  · obtain ⟨b, o, rfl, _, hc⟩ := h3 (List.length_pos_iff.2 h0)
    have H := Tryz.slices_Index_string b o l.length c (l.map mk) (mk x) w (by simp) (by omega) (fun j hj => by
      have hj' : j < l.length := by simpa using hj
      rw [hc j _ (List.getElem?_eq_getElem hj')]
      simp [List.getD, hj'])
    rw [List.take_of_length_le (by simp)] at H
    unfold Go.Lib.idxOfS at H
    rw [idx_idxOfS] at H
    exact H

end Go.Proofs.YtbpbkmhipbchbaaGreatDoor.sc
