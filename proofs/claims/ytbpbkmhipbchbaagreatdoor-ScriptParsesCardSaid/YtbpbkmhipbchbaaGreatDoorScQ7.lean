/-
  PROVED HERE: the contract of the reference's OfLine: the act of a line, or none. Conditions: a line of at most 100000 bytes. (Printed by a program of mine.)
-/
import Derived.Test.YtbpbkmhipbchbaaGreatDoorScQ23
import Derived.Test.YtbpbkmhipbchbaaGreatDoorScQ56
import Derived.Deep.RegionLaw
namespace Go.Proofs.YtbpbkmhipbchbaaGreatDoor.sc
open Go.RowKit
set_option linter.unusedVariables false
set_option linter.unusedSimpArgs false

/-! ### Plain -/
theorem unhexV_len (x : Bs) : (unhexV x).length ≤ x.length := by
  unfold unhexV
  split
  · simp
  · rw [unhexR_len]; omega
theorem wd_len (l : Bs) (i : Nat) : ((splitC 32 l).getD i []).length ≤ l.length := by
  rw [List.getD]
  cases h : (splitC 32 l)[i]? with
  | none => simp
  | some x => exact splitC_short 32 l x (List.mem_of_getElem? h)
theorem smallR_bd (x : Bs) : -1 ≤ smallR x ∧ smallR x ≤ 1099511627776 := by
  unfold smallR; split <;> omega

def ROfPost (w : World) (s : Bs) (e : Ending) (w' : World) : Prop :=
  Below w.heap.size w w' ∧ match refOf s with
    | some (a, n) => ∃ kv, e = .returned (.tuple #[.agg (acC a kv), .int .i64 n, .int .i64 0]) ∧ RowR w' kv a.keep.length 1 (a.keep.map (Value.int .i64)) ∧ ∀ r, kv.ownBlock = some r → w.heap.size ≤ r
    | none => e = .returned (.tuple #[.agg (acC Ac.zero (.slice none 0 0)), .int .i64 0, .int .i64 11])
theorem res_rOf {X : World} {b : Nat} {a : Ac} {kv : Value} {tmps : Array Value} {n e : Int} (hB : Blk X b 31 (acC a kv)) (h2 : tmps[2]? = some (.pointer (some ⟨b, 0, none⟩))) (h3 : tmps[3]? = some (.int .i64 n)) (h4 : tmps[4]? = some (.int .i64 e)) :
    (results Tryz.f10 tmps).run Tryz.prog X = .ok (.tuple #[.agg (acC a kv), .int .i64 n, .int .i64 e]) X := by
  obtain ⟨e0, e1, e2, e3, e4, e5, e6, e7, e8, e9⟩ := acCells hB
  simp [results, Tryz.results10, go_sem, h2, h3, h4, e0, e1, e2, e3, e4, e5, e6, e7, e8, e9, acC]
theorem own_blk {w : World} {base : Nat} {T : TypeId} {g n cap : Nat} {xs : List Value} (h : w.ownsRow base T 1 (.slice (some ⟨g, 0, none⟩) n cap) n xs) : ∃ cur, Blk w g T cur ∧ ∀ j, j < n → cur[j]? = xs[j]? := by
  rcases h.2 with ⟨h', _⟩ | ⟨g', cap', cur, h', hb, hg, hnc, hcm, hcs, htake⟩
  · simp at h'
  · simp only [Value.slice.injEq, Option.some.injEq, Addr.mk.injEq, and_true, true_and] at h'
    obtain ⟨rfl, rfl⟩ := h'
    refine ⟨cur, hg, fun j hj => ?_⟩
    rw [← htake, List.getElem?_take, if_pos (by omega), Array.getElem?_toList]
theorem own_farB {w : World} {b g i n : Nat} {T : TypeId} {size : Nat} {v u : Value} {xs : List Value} (h : w.ownsRow b T size v n xs) (hg : g < b) : (w.setCell ⟨g, i, none⟩ u).ownsRow b T size v n xs := by
  refine ⟨h.1, ?_⟩
  rcases h.2 with h2 | ⟨gb, cap, cur, h1, h2, h3, h4⟩
  · exact .inl h2
  · exact .inr ⟨gb, cap, cur, h1, h2, by rw [Below.heap_setCell w ⟨g, i, none⟩ u gb (show gb ≠ g by omega)]; exact h3, h4⟩
theorem put10_cell {X : World} {b6 gb i : Nat} {a : Ac} {kv : Value} (h : gb ≠ b6) : (put10 X b6 a kv).cell? ⟨gb, i, none⟩ = X.cell? ⟨gb, i, none⟩ := by
  have k : ∀ (w : World) (j : Nat) (u : Value), (w.setCell ⟨b6, j, none⟩ u).cell? ⟨gb, i, none⟩ = w.cell? ⟨gb, i, none⟩ := fun w j u => World.cell?_setCell_other w _ _ u (fun e => by first | exact h (congrArg Addr.block e) | exact h (congrArg Addr.block e).symm)
  simp only [put10, k]
theorem drew_cell (w : World) (p : Addr) : w.drew.cell? p = w.cell? p := rfl
theorem own_put10B {w : World} {b g n : Nat} {T : TypeId} {size : Nat} {v : Value} {xs : List Value} (h : w.ownsRow b T size v n xs) (hg : g < b) (a : Ac) (kv : Value) : (put10 w g a kv).ownsRow b T size v n xs :=
  own_farB (own_farB (own_farB (own_farB (own_farB (own_farB (own_farB (own_farB (own_farB (own_farB h hg) hg) hg) hg) hg) hg) hg) hg) hg) hg
/-- The words of a line, with six empty ones behind. -/
def wd (l : Bs) (i : Nat) : Bs := (splitC 32 l).getD i []
theorem wd_le (l : Bs) (i : Nat) (h : l.length ≤ 100000) : (wd l i).length ≤ 1000000 := Nat.le_trans (wd_len l i) (by omega)
theorem cand_wd (l : Bs) : cand l = (if wd l 0 = sInvoke then
    (⟨1, smallR (wd l 1),
      if wd l 2 = sPut then ⟨1, numR (wd l 3), 0, 0, unhexV (wd l 4)⟩
      else if wd l 2 = sGet then ⟨2, numR (wd l 3), 0, 0, []⟩
      else if wd l 2 = sDelete then ⟨3, numR (wd l 3), 0, 0, []⟩
      else if wd l 2 = sScan then ⟨4, numR (wd l 3), numR (wd l 4), smallR (wd l 5), []⟩
      else ⟨0, numR (wd l 3), 0, 0, []⟩, 0, 0, []⟩, 1)
  else if wd l 0 = sPick then (⟨2, smallR (wd l 1), Cl.zero, 0, 0, []⟩, smallR (wd l 2))
  else if wd l 0 = sEvict then (⟨3, 0, Cl.zero, numR (wd l 1), smallR (wd l 2), []⟩, 1)
  else if wd l 0 = sCrash then (⟨4, 0, Cl.zero, 0, 0, ((splitC 32 l).drop 1).map smallR⟩, 1)
  else if wd l 0 = sOpen then (⟨5, 0, Cl.zero, 0, 0, []⟩, 1)
  else if wd l 0 = sScavenge then (⟨6, 0, Cl.zero, 0, 0, []⟩, 1)
  else if wd l 0 = sBoot then (⟨7, 0, Cl.zero, 0, 0, []⟩, smallR (wd l 1))
  else (Ac.zero, 1)) := rfl
theorem cand_small (l : Bs) : (cand l).1.call.val.length ≤ l.length ∧ (cand l).1.keep.length ≤ l.length + 1 := by
  have h1 : (unhexV (wd l 4)).length ≤ l.length := Nat.le_trans (unhexV_len (wd l 4)) (wd_len l 4)
  have h2 := splitC_few 32 l
  rw [cand_wd]
  repeat' split
  all_goals simp [Cl.zero, Ac.zero]
  all_goals omega
theorem refOf_at {l : Bs} {a : Ac} {n : Int} (h : cand l = (a, n)) : refOf l = if mayAct a = true ∧ 1 ≤ n ∧ n ≤ 100000 ∧ lineL a n = l then some (a, n) else none := by
  unfold refOf
  rw [h]
theorem rSmall_b {w : World} (x : Bs) (hx : x.length ≤ 1000000) : Calls Tryz.prog 32 #[.string (mk x)] w fun e w' => e = .returned (.int .i64 (smallR x)) ∧ Below w.heap.size w w' :=
  (rSmall_any x hx).mono fun e w' h => ⟨h.1, by rw [h.2]; exact Below.refl _ _⟩


end Go.Proofs.YtbpbkmhipbchbaaGreatDoor.sc
