/-
  PROVED HERE: the contract of the laws' few. Conditions: rows that read.
-/
import Derived.Test.YtbpbkmhipbchbaaGreatDoorScR2
namespace Go.Proofs.YtbpbkmhipbchbaaGreatDoor.sc
open Go.RowKit
set_option linter.unusedVariables false

def fewB (s : Sc) : Bool := decide (s.acts.length ≤ 200) && s.acts.all fun a => decide (a.call.val.length ≤ 300) && decide (a.keep.length ≤ 30)
theorem few_len {s : Sc} (h : fewB s = true) : s.acts.length ≤ 200 ∧ ∀ a ∈ s.acts, a.call.val.length ≤ 300 ∧ a.keep.length ≤ 30 := by
  unfold fewB at h
  simp only [Bool.and_eq_true, decide_eq_true_eq, List.all_eq_true] at h
  exact h

set_option maxHeartbeats 4000000 in
set_option maxRecDepth 100000 in
theorem few_any {w : World} (s : Sc) (v : Value) (h : ActsR w v s.acts) :
    Calls Tryz.prog 19 #[.agg (scC s v)] w (fun e w' => e = .returned (.bool (fewB s)) ∧ Below w.heap.size w w') := by
  obtain ⟨A, c, rfl⟩ := h.len
  obtain ⟨slabs, clients, acts⟩ := s
  dsimp only at h
  obtain ⟨W, hW⟩ : ∃ W, W = w.alloc (.cells #[.int .i64 slabs, .int .i64 clients, .slice A acts.length c] 58) := ⟨_, rfl⟩
  have HB := Lib.hid (show ScInv w ⟨slabs, clients, acts⟩ A c W by rw [hW]; exact ⟨Blk.new _ _ _, h.next ((Below.refl _ _).alloc (Nat.le_refl _) _), (Below.refl _ _).alloc (Nat.le_refl _) _⟩)
  clear h
  have HG := Lib.hid (show fewB ⟨slabs, clients, acts⟩ = (decide (acts.length ≤ 200) && acts.all fun a => decide (a.call.val.length ≤ 300) && decide (a.keep.length ≤ 30)) from rfl)
  have d2 : W.cell? ⟨w.heap.size, 2, none⟩ = some (.slice A acts.length c) := HB.out.1.cell 2
  unfold scC
  dsimp only
  go_enter Tryz.func19, Tryz.ntmps19
  go_upto_region 1 with fail
  rw [← hW]
  clear hW
  by_cases h1 : acts.length ≤ 200
  · rw [decide_eq_true h1] at HG
    have HK := Lib.hid h1
    have e1 : decide ((200 : Int) < (acts.length : Int)) = false := by simp; omega
    go_wp2_with fail
    clear d2 e1
    go_loopw [3] (fun s3 wr => ∃ k : Nat, s3 = .int .i64 k ∧ k ≤ acts.length ∧ (∀ j a, j < k → acts[j]? = some a → a.call.val.length ≤ 300 ∧ a.keep.length ≤ 30) ∧ ScInv w ⟨slabs, clients, acts⟩ A c wr) (fun s3 _ => acts.length - (RowKit.intOf s3).toNat)
    case atStart => exact ⟨0, rfl, Nat.zero_le _, fun j a hj => absurd hj (by omega), HB.out⟩
    case round =>
      obtain ⟨k, rfl, hk, hall, hinv⟩ := hrel
      have HR := Lib.hid (And.intro hk (And.intro hall hinv)); clear hk hall
      have d2 : wr.cell? ⟨w.heap.size, 2, none⟩ = some (.slice A acts.length c) := hinv.1.cell 2
      by_cases hlt : k < acts.length
      · obtain ⟨a, ha⟩ : ∃ a, acts[k]? = some a := ⟨_, List.getElem?_eq_getElem hlt⟩
        obtain ⟨b, o, kA, kc, rfl, hrow, x0, x1, x2, x3, x4, x5, x6, x7, x8, x9⟩ := hinv.2.1.at_ ha
        have hlI : (k : Int) < (acts.length : Int) := by omega
        have HA := Lib.hid (And.intro ha hlt); clear ha hrow hinv
        have hw5 : IntKind.i64.wrap ((k : Int) + 1) = (k : Int) + 1 := IntWalk.i64_in _ (by have := HK.out; omega)
        clear x0 x1 x2 x3 x4 x5 x7 x8
        have no : ¬ (a.call.val.length ≤ 300 ∧ a.keep.length ≤ 30) → (acts.all fun a => decide (a.call.val.length ≤ 300) && decide (a.keep.length ≤ 30)) = false := fun h => by
          rw [List.all_eq_false]
          refine ⟨a, List.mem_of_getElem? HA.out.1, ?_⟩
          simpa using h
        have HNO := Lib.hid no; clear no
        by_cases h3 : a.call.val.length ≤ 300
        · have e3 : decide ((300 : Int) < (a.call.val.length : Int)) = false := by simp; omega
          by_cases h4 : a.keep.length ≤ 30
          · have e4 : decide ((30 : Int) < (a.keep.length : Int)) = false := by simp; omega
            have H34 := Lib.hid (And.intro h3 h4); clear h3 h4
            go_wp2_with fail
            go_roundw
            case rel =>
              refine ⟨k + 1, by first | rfl | go_num, by have := HA.out.2; omega, fun j x hj hx => ?_, HR.out.2.2⟩
              by_cases hj2 : j < k
              · exact HR.out.2.1 j x hj2 hx
              · obtain rfl : j = k := by omega
                rw [HA.out.1] at hx; injection hx with hx; rw [← hx]; exact H34.out
            case measure =>
              have := HA.out.2
              simp [RowKit.intOf]; omega
          · have e4 : decide ((30 : Int) < (a.keep.length : Int)) = true := by simp; omega
            have H34 := Lib.hid h4; clear h3 h4
            go_wp2_with fail
            go_ret
            refine ⟨?_, HR.out.2.2.2.2⟩
            rw [HG.out, HNO.out (fun h => H34.out h.2)]
            first | done | rfl
        · have e3 : decide ((300 : Int) < (a.call.val.length : Int)) = true := by simp; omega
          have H34 := Lib.hid h3; clear h3
          go_wp2_with fail
          go_ret
          refine ⟨?_, HR.out.2.2.2.2⟩
          rw [HG.out, HNO.out (fun h => H34.out h.1)]
          first | done | rfl
      · obtain rfl : k = acts.length := by have := HR.out.1; omega
        clear hinv
        go_wp2_with fail
        go_ret
        refine ⟨?_, HR.out.2.2.2.2⟩
        have hall : (acts.all fun a => decide (a.call.val.length ≤ 300) && decide (a.keep.length ≤ 30)) = true := by
          rw [List.all_eq_true]
          intro a ha
          obtain ⟨j, hj, rfl⟩ := List.getElem_of_mem ha
          have := HR.out.2.1 j _ hj (List.getElem?_eq_getElem hj)
          simpa using this
        rw [HG.out, hall]
        first | done | rfl
  · rw [decide_eq_false h1] at HG
    have e1 : decide ((200 : Int) < (acts.length : Int)) = true := by simp; omega
    go_wp2_with fail
    go_ret
    exact ⟨by rw [HG.out]; first | done | rfl, HB.out.2.2⟩
end Go.Proofs.YtbpbkmhipbchbaaGreatDoor.sc
