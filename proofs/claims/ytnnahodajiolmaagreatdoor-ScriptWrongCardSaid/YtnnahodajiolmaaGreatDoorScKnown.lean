/-
  PROVED HERE: the contract of the laws' known: the chapter's rows hold. Conditions: the library's tables lie (Env).
-/
import Derived.Test.YtnnahodajiolmaaGreatDoorScTexty
import Derived.Test.YtnnahodajiolmaaGreatDoorScTell
namespace Go.Proofs.YtnnahodajiolmaaGreatDoor.sc
open Go.RowKit
set_option linter.unusedVariables false

/-! ### How long a line is -/
theorem words_le (a : Ac) (n : Int) (O : AcOk a) (hn : I64 n) : ∀ x ∈ wordsL a n, x.length ≤ 2 * a.call.val.length + 22 := by
  have nm : ∀ x ∈ [sInvoke, sPick, sEvict, sCrash, sOpen, sScavenge, sBoot, sNone, sPut, sGet, sDelete, sScan], x.length ≤ 8 := by decide
  have ni : ∀ k : Int, I64 k → (num k).length ≤ 21 := fun k h => num_le k h.1 (by have := h.2; omega)
  have nu : ∀ k : Int, U64 k → (num k).length ≤ 21 := fun k h => num_le k (by have := h.1; omega) h.2
  have dg := digits_le a.call.val
  intro x hx
  unfold wordsL callW at hx
  repeat' split at hx
  all_goals simp only [List.mem_cons, List.not_mem_nil, or_false, List.mem_map] at hx
  all_goals
    have h1 := ni a.client O.client
    have h2 := nu a.call.key O.call.key
    have h3 := nu a.call.hi O.call.hi
    have h4 := ni a.call.lim O.call.lim
    have h5 := nu a.at_ O.at_
    have h6 := ni a.n O.n
    have h7 := ni n hn
  all_goals
    first
    | (rcases hx with rfl | rfl | rfl | rfl | rfl | rfl <;> first | omega | (exact Nat.le_trans (nm _ (by simp)) (by omega)))
    | (rcases hx with rfl | rfl | rfl | rfl | rfl <;> first | omega | (exact Nat.le_trans (nm _ (by simp)) (by omega)))
    | (rcases hx with rfl | rfl | rfl | rfl <;> first | omega | (exact Nat.le_trans (nm _ (by simp)) (by omega)))
    | (rcases hx with rfl | rfl | rfl <;> first | omega | (exact Nat.le_trans (nm _ (by simp)) (by omega)))
    | (rcases hx with rfl | ⟨k, hk, rfl⟩; exact Nat.le_trans (nm _ (by simp)) (by omega); (have := ni k (O.keep k hk)); omega)
    | (rcases hx with rfl | rfl <;> first | omega | (exact Nat.le_trans (nm _ (by simp)) (by omega)))
    | (subst hx; exact Nat.le_trans (nm _ (by simp)) (by omega))
theorem wordsL_count (a : Ac) (n : Int) : (wordsL a n).length ≤ a.keep.length + 6 := by
  unfold wordsL callW
  repeat' split
  all_goals simp
theorem line_le (a : Ac) (n : Int) (O : AcOk a) (hn : I64 n) : (lineL a n).length ≤ (a.keep.length + 6) * (2 * a.call.val.length + 23) := by
  refine Nat.le_trans (joinB_le _ _ (words_le a n O hn)) ?_
  exact Nat.mul_le_mul (wordsL_count a n) (by omega)

def knownActs : List Ac := [⟨5, 0, Cl.zero, 0, 0, []⟩, ⟨7, 0, Cl.zero, 0, 0, []⟩, ⟨7, 0, Cl.zero, 0, 0, []⟩, ⟨1, 0, ⟨1, 5, 0, 0, [97, 98]⟩, 0, 0, []⟩, ⟨4, 0, Cl.zero, 0, 0, [1, 0]⟩]
abbrev kCs (b : Nat) : Array Value := #[.int .i64 5, .int .i64 0, .int .i64 0, .int .u64 0, .int .u64 0, .int .i64 0, .string ⟨#[]⟩, .int .u64 0, .int .i64 0, .slice none 0 0, .int .i64 7, .int .i64 0, .int .i64 0, .int .u64 0, .int .u64 0, .int .i64 0, .string ⟨#[]⟩, .int .u64 0, .int .i64 0, .slice none 0 0, .int .i64 7, .int .i64 0, .int .i64 0, .int .u64 0, .int .u64 0, .int .i64 0, .string ⟨#[]⟩, .int .u64 0, .int .i64 0, .slice none 0 0, .int .i64 1, .int .i64 0, .int .i64 1, .int .u64 5, .int .u64 0, .int .i64 0, .string ⟨#[97, 98]⟩, .int .u64 0, .int .i64 0, .slice none 0 0, .int .i64 4, .int .i64 0, .int .i64 0, .int .u64 0, .int .u64 0, .int .i64 0, .string ⟨#[]⟩, .int .u64 0, .int .i64 0, .slice (some ⟨b, 0, none⟩) 2 2]

theorem known_ok : ∀ a ∈ knownActs, AcOk a ∧ a.keep.length ≤ 2 ∧ a.call.val.length ≤ 2 := by
  intro a ha
  simp only [knownActs, List.mem_cons, List.not_mem_nil, or_false] at ha
  rcases ha with rfl | rfl | rfl | rfl | rfl
  all_goals
    refine ⟨⟨?_, ?_, ⟨?_, ?_, ?_, ?_, ?_⟩, ?_, ?_, ?_, ?_⟩, ?_, ?_⟩ <;> simp [I64, U64, Cl.zero]
theorem known_acs : AcsOk knownActs := fun a ha => by
  obtain ⟨h1, h2, h3⟩ := known_ok a ha
  refine ⟨h1, Nat.le_trans (line_le a 1 h1 ⟨by decide, by decide⟩) (Nat.le_trans (Nat.mul_le_mul (show _ ≤ 8 by omega) (show _ ≤ 27 by omega)) (by decide))⟩
theorem known_lines : ∀ a ∈ knownActs, ∀ n : Int, 1 ≤ n → n ≤ 1000000 → (lineL a n).length ≤ 10000000 := fun a ha n hn1 hn2 => by
  obtain ⟨h1, h2, h3⟩ := known_ok a ha
  exact Nat.le_trans (line_le a n h1 ⟨by omega, by omega⟩) (Nat.le_trans (Nat.mul_le_mul (show _ ≤ 8 by omega) (show _ ≤ 27 by omega)) (by decide))
theorem known_may : mayS ⟨2, 1, knownActs⟩ = true := by
  have h : ∀ a ∈ knownActs, may a = true := by
    intro a ha
    simp only [knownActs, List.mem_cons, List.not_mem_nil, or_false] at ha
    rcases ha with rfl | rfl | rfl | rfl | rfl
    all_goals
      rw [may_iff ⟨by decide, by decide, by decide⟩]
      decide
  unfold mayS
  simp only [Bool.and_eq_true, Bool.not_eq_true', List.any_eq_false]
  refine ⟨by decide, fun a ha => by simp [h a ha]⟩
theorem num_small (n : Nat) (h : n < 10) : num (n : Int) = [UInt8.ofNat (48 + n)] := by rw [num_nat', Lib.decDigits_one h]
theorem n0 : num 0 = [48] := num_small 0 (by decide)
theorem n1 : num 1 = [49] := num_small 1 (by decide)
theorem n2 : num 2 = [50] := num_small 2 (by decide)
theorem n5 : num 5 = [53] := num_small 5 (by decide)
theorem known_text : textL ⟨2, 1, knownActs⟩ = [108, 101, 118, 101, 101, 32, 50, 32, 49, 10, 111, 112, 101, 110, 10, 98, 111, 111, 116, 32, 50, 10, 105, 110, 118, 111, 107, 101, 32, 48, 32, 112, 117, 116, 32, 53, 32, 54, 49, 54, 50, 10, 99, 114, 97, 115, 104, 32, 49, 32, 48, 10] := by
  have r1 : runLen ⟨5, 0, Cl.zero, 0, 0, []⟩ (knownActs.drop 1) = 0 := by decide
  have r2 : runLen ⟨7, 0, Cl.zero, 0, 0, []⟩ (knownActs.drop 2) = 1 := by decide
  have r3 : runLen ⟨1, 0, ⟨1, 5, 0, 0, [97, 98]⟩, 0, 0, []⟩ (knownActs.drop 4) = 0 := by decide
  have r4 : runLen ⟨4, 0, Cl.zero, 0, 0, [1, 0]⟩ [] = 0 := by decide
  have hr : rowsL knownActs = [(⟨5, 0, Cl.zero, 0, 0, []⟩, 1), (⟨7, 0, Cl.zero, 0, 0, []⟩, 2), (⟨1, 0, ⟨1, 5, 0, 0, [97, 98]⟩, 0, 0, []⟩, 1), (⟨4, 0, Cl.zero, 0, 0, [1, 0]⟩, 1)] := by
    rw [show knownActs = ⟨5, 0, Cl.zero, 0, 0, []⟩ :: knownActs.drop 1 from rfl, rowsL_cons, r1,
      show (knownActs.drop 1).drop 0 = ⟨7, 0, Cl.zero, 0, 0, []⟩ :: knownActs.drop 2 from rfl, rowsL_cons, r2,
      show (knownActs.drop 2).drop 1 = ⟨1, 0, ⟨1, 5, 0, 0, [97, 98]⟩, 0, 0, []⟩ :: knownActs.drop 4 from rfl, rowsL_cons, r3,
      show (knownActs.drop 4).drop 0 = [⟨4, 0, Cl.zero, 0, 0, [1, 0]⟩] from rfl, rowsL_cons, r4,
      show ([] : List Ac).drop 0 = [] from rfl, rowsL_nil]
    rfl
  have hd : digits [97, 98] = [54, 49, 54, 50] := by decide
  unfold textL headL bodyL
  simp only [hr, List.flatMap_cons, List.flatMap_nil, lineL, wordsL, callW, joinB_cons2, joinB_one, List.map_cons, List.map_nil, n0, n1, n2, n5, hd]
  decide

theorem known_row (w : World) : ActsR (((w.alloc (.cells #[.int .i64 1, .int .i64 0] 3)).alloc (.cells (kCs w.heap.size) 40)).alloc (.cells #[.int .i64 2, .int .i64 1, .slice (some ⟨w.heap.size + 1, 0, none⟩) 5 5] 25)) (.slice (some ⟨w.heap.size + 1, 0, none⟩) 5 5) knownActs := by
  have h1 : Blk (((w.alloc (.cells #[.int .i64 1, .int .i64 0] 3)).alloc (.cells (kCs w.heap.size) 40)).alloc (.cells #[.int .i64 2, .int .i64 1, .slice (some ⟨w.heap.size + 1, 0, none⟩) 5 5] 25)) (w.heap.size + 1) 40 (kCs w.heap.size) := by
    have h := (Blk.new (w.alloc (.cells #[.int .i64 1, .int .i64 0] 3)) 40 (kCs w.heap.size)).alloc (.cells #[.int .i64 2, .int .i64 1, .slice (some ⟨w.heap.size + 1, 0, none⟩) 5 5] 25)
    simpa using h
  have h2 : Blk (((w.alloc (.cells #[.int .i64 1, .int .i64 0] 3)).alloc (.cells (kCs w.heap.size) 40)).alloc (.cells #[.int .i64 2, .int .i64 1, .slice (some ⟨w.heap.size + 1, 0, none⟩) 5 5] 25)) w.heap.size 3 #[.int .i64 1, .int .i64 0] := ((Blk.new w _ _).alloc _).alloc _
  refine ⟨_, _, rfl, Nat.le_refl _, fun _ => ⟨_, _, rfl, h1.lt, fun i a hi => ?_⟩⟩
  have e : ∀ k, ((((w.alloc (.cells #[.int .i64 1, .int .i64 0] 3)).alloc (.cells (kCs w.heap.size) 40)).alloc (.cells #[.int .i64 2, .int .i64 1, .slice (some ⟨w.heap.size + 1, 0, none⟩) 5 5] 25))).cell? ⟨w.heap.size + 1, 0 + k, none⟩ = (kCs w.heap.size)[k]? := fun k => by rw [Nat.zero_add, h1.cell]
  simp only [Nat.add_assoc]
  match i, hi with
  | 0, hi => cases hi; exact ⟨.slice none 0 0, fun j hj => by rw [e]; (have : j = 0 ∨ j = 1 ∨ j = 2 ∨ j = 3 ∨ j = 4 ∨ j = 5 ∨ j = 6 ∨ j = 7 ∨ j = 8 ∨ j = 9 := by omega); rcases this with rfl | rfl | rfl | rfl | rfl | rfl | rfl | rfl | rfl | rfl <;> rfl, RowR.nil _ _⟩
  | 1, hi => cases hi; exact ⟨.slice none 0 0, fun j hj => by rw [e]; (have : j = 0 ∨ j = 1 ∨ j = 2 ∨ j = 3 ∨ j = 4 ∨ j = 5 ∨ j = 6 ∨ j = 7 ∨ j = 8 ∨ j = 9 := by omega); rcases this with rfl | rfl | rfl | rfl | rfl | rfl | rfl | rfl | rfl | rfl <;> rfl, RowR.nil _ _⟩
  | 2, hi => cases hi; exact ⟨.slice none 0 0, fun j hj => by rw [e]; (have : j = 0 ∨ j = 1 ∨ j = 2 ∨ j = 3 ∨ j = 4 ∨ j = 5 ∨ j = 6 ∨ j = 7 ∨ j = 8 ∨ j = 9 := by omega); rcases this with rfl | rfl | rfl | rfl | rfl | rfl | rfl | rfl | rfl | rfl <;> rfl, RowR.nil _ _⟩
  | 3, hi => cases hi; exact ⟨.slice none 0 0, fun j hj => by rw [e]; (have : j = 0 ∨ j = 1 ∨ j = 2 ∨ j = 3 ∨ j = 4 ∨ j = 5 ∨ j = 6 ∨ j = 7 ∨ j = 8 ∨ j = 9 := by omega); rcases this with rfl | rfl | rfl | rfl | rfl | rfl | rfl | rfl | rfl | rfl <;> rfl, RowR.nil _ _⟩
  | 4, hi => cases hi; exact ⟨.slice (some ⟨w.heap.size, 0, none⟩) 2 2, fun j hj => by rw [e]; (have : j = 0 ∨ j = 1 ∨ j = 2 ∨ j = 3 ∨ j = 4 ∨ j = 5 ∨ j = 6 ∨ j = 7 ∨ j = 8 ∨ j = 9 := by omega); rcases this with rfl | rfl | rfl | rfl | rfl | rfl | rfl | rfl | rfl | rfl <;> rfl,
      ⟨_, _, rfl, Nat.le_refl _, rfl, fun _ => ⟨_, _, rfl, h2.lt, fun j u hj => by rw [Nat.zero_add, h2.cell, ← Array.getElem?_toList]; exact hj⟩⟩⟩
  | n + 5, hi => simp [knownActs] at hi

def bootH : tl.Hp := ⟨2, 7, 2, ⟨0, 0, 0, false, 0, [], []⟩, false, 0, 0⟩
theorem boot_ok : tl.HpOk bootH := by constructor <;> simp [bootH, tl.I64]
theorem boot_text : joinB (tl.tellW bootH) = [50, 32, 98, 111, 111, 116, 32, 111, 112, 101, 110, 105, 110, 103, 32, 111, 110] := by
  rw [show tl.tellW bootH = [num 2, nameL kindsL 7, nameL statesL 2] ++ [tl.sOn] from rfl, n2]
  decide

set_option maxHeartbeats 4000000 in
set_option maxRecDepth 100000 in
theorem known_any {w : World} (E : Env w) : Calls Tryz.prog 6 #[] w fun e w' => e = .returned (.bool true) ∧ Below w.heap.size w w' := by
  obtain ⟨W, hW⟩ : ∃ W, W = ((w.alloc (.cells #[.int .i64 1, .int .i64 0] 3)).alloc (.cells (kCs w.heap.size) 40)).alloc (.cells #[.int .i64 2, .int .i64 1, .slice (some ⟨w.heap.size + 1, 0, none⟩) 5 5] 25) := ⟨_, rfl⟩
  have hbW : Below w.heap.size w W := by rw [hW]; exact ((((Below.refl _ _).alloc (Nat.le_refl _) _).alloc (by simp) _).alloc (by simp; omega) _)
  have HK := Lib.hid (And.intro (show ActsR W (.slice (some ⟨w.heap.size + 1, 0, none⟩) 5 5) knownActs by rw [hW]; exact known_row w) (And.intro hbW (E.next hbW)))
  have hB : Blk W (w.heap.size + 2) 25 #[.int .i64 2, .int .i64 1, .slice (some ⟨w.heap.size + 1, 0, none⟩) 5 5] := by
    have h := Blk.new ((w.alloc (.cells #[.int .i64 1, .int .i64 0] 3)).alloc (.cells (kCs w.heap.size) 40)) 25 #[.int .i64 2, .int .i64 1, .slice (some ⟨w.heap.size + 1, 0, none⟩) 5 5]
    rw [hW]; simpa using h
  have d0 : W.cell? ⟨w.heap.size + 1 + 1, 0, none⟩ = some (.int .i64 2) := hB.cell 0
  have d1 : W.cell? ⟨w.heap.size + 1 + 1, 1, none⟩ = some (.int .i64 1) := hB.cell 1
  have d2 : W.cell? ⟨w.heap.size + 1 + 1, 2, none⟩ = some (.slice (some ⟨w.heap.size + 1, 0, none⟩) 5 5) := hB.cell 2
  clear hbW hB E
  go_enter Tryz.func6, Tryz.ntmps6
  go_upto_region 2 with fail
  rw [← hW]
  clear hW
  go_wp2_with fail
  refine (text_any ⟨2, 1, knownActs⟩ (.slice (some ⟨w.heap.size + 1, 0, none⟩) 5 5) HK.out.1 known_acs (by decide) known_lines ⟨⟨by decide, by decide⟩, ⟨by decide, by decide⟩⟩ HK.out.2.2).mono ?_; rintro e w1 ⟨hb1, he⟩
  rw [if_pos known_may, known_text] at he
  obtain rfl := he
  have H1 := Lib.hid (And.intro (HK.out.2.1.trans (hb1.mono HK.out.2.1.size)) (HK.out.2.2.next hb1)); clear hb1 d0 d1 d2
  go_wp2_with fail
  refine (tl.tell_any bootH (.slice none 0 0) (RowR.nil _ _) boot_ok H1.out.2).mono ?_; rintro e w2 ⟨he, hb2⟩
  rw [boot_text] at he
  obtain rfl := he
  have H2 := Lib.hid (H1.out.1.trans (hb2.mono H1.out.1.size)); clear hb2
  go_wp2_with fail
  go_wp2_with fail
  go_wp2_with fail
  go_ret; exact ⟨rfl, H2.out⟩

end Go.Proofs.YtnnahodajiolmaaGreatDoor.sc
