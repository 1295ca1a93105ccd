/-
  PROVED HERE: the contract of the laws' nice. Conditions: the pairs' slice is one.
-/
import Derived.Test.YtbpbkmhipbchbaaGreatDoorScRTell
namespace Go.Proofs.YtbpbkmhipbchbaaGreatDoor.sc.tl
open Go.RowKit
set_option linter.unusedVariables false

/-- What the law asks of what happened. -/
def nice (h : Hp) : Bool := decide (0 ≤ h.act) && decide (0 ≤ h.n) && decide (0 ≤ h.code) && decide (0 ≤ h.ev.client) && decide (0 ≤ h.ev.did) && decide (0 ≤ h.ev.code) && decide (h.ev.val.length ≤ 300) && decide (h.ev.pairs.length ≤ 50)

set_option maxHeartbeats 1000000 in
set_option maxRecDepth 100000 in
theorem nice_any {w : World} (h : Hp) (PA : Option Addr) (PC m : Nat) (hm : m = h.ev.pairs.length) :
    Calls Tryz.prog 12 #[.agg (hpC h (.slice PA m PC))] w fun e w' => e = .returned (.bool (nice h)) ∧ Below w.heap.size w w' := by
  subst hm
  have hv : (mk h.ev.val).size = h.ev.val.length := mk_size _
  have hN := Blk.new w 46 (hpC h (.slice PA h.ev.pairs.length PC))
  have hA := (Below.refl w.heap.size w).alloc (Nat.le_refl _) (.cells (hpC h (.slice PA h.ev.pairs.length PC)) 46)
  obtain ⟨W0, hW0⟩ : ∃ W0, W0 = w.alloc (.cells (hpC h (.slice PA h.ev.pairs.length PC)) 46) := ⟨_, rfl⟩
  rw [← hW0] at hA hN
  obtain ⟨a0, a1, a2, a3, a4, a5, a6, a7, a8, a9, a10, a11, a12⟩ := hpCells hN
  have hev := Blk.new W0 44 (evC h.ev (.slice PA h.ev.pairs.length PC))
  have hN2 := hN.alloc (.cells (evC h.ev (.slice PA h.ev.pairs.length PC)) 44)
  have hB := hA.alloc hA.size (.cells (evC h.ev (.slice PA h.ev.pairs.length PC)) 44)
  obtain ⟨Y, hY⟩ : ∃ Y, Y = W0.alloc (.cells (evC h.ev (.slice PA h.ev.pairs.length PC)) 44) := ⟨_, rfl⟩
  rw [← hY] at hev hN2 hB
  simp only [evC] at hY
  have HB := Lib.hid hB; clear hB hA
  go_enter Tryz.func12, Tryz.ntmps12
  go_upto_region 1 with fail
  rw [← hW0]
  clear hW0
  go_upto_region 2 with fail
  rw [← hY]
  clear hY a0 a1 a2 a3 a4 a5 a6 a7 a8 a9 a10 a11 a12
  obtain ⟨a0, a1, a2, a3, a4, a5, a6, a7, a8, a9, a10, a11, a12⟩ := hpCells hN2
  obtain ⟨e0, e1, e2, e3, e4, e5, e6⟩ := evCells hev
  by_cases c0 : 0 ≤ h.act
  case neg =>
    have HN := Lib.hid (show nice h = false by simp [nice]; omega)
    have d0 : h.act < 0 := by omega
    clear c0
    go_wp2_with fail
    go_ret
    exact ⟨by rw [HN.out]; rfl, HB.out⟩
  by_cases c1 : 0 ≤ h.n
  case neg =>
    have HN := Lib.hid (show nice h = false by simp [nice]; omega)
    have d1 : h.n < 0 := by omega
    clear c1
    go_wp2_with fail
    go_ret
    exact ⟨by rw [HN.out]; rfl, HB.out⟩
  by_cases c2 : 0 ≤ h.code
  case neg =>
    have HN := Lib.hid (show nice h = false by simp [nice]; omega)
    have d2 : h.code < 0 := by omega
    clear c2
    go_wp2_with fail
    go_ret
    exact ⟨by rw [HN.out]; rfl, HB.out⟩
  by_cases c3 : 0 ≤ h.ev.client
  case neg =>
    have HN := Lib.hid (show nice h = false by simp [nice]; omega)
    have d3 : h.ev.client < 0 := by omega
    clear c3
    go_wp2_with fail
    go_ret
    exact ⟨by rw [HN.out]; rfl, HB.out⟩
  by_cases c4 : 0 ≤ h.ev.did
  case neg =>
    have HN := Lib.hid (show nice h = false by simp [nice]; omega)
    have d4 : h.ev.did < 0 := by omega
    clear c4
    go_wp2_with fail
    go_ret
    exact ⟨by rw [HN.out]; rfl, HB.out⟩
  by_cases c5 : 0 ≤ h.ev.code
  case neg =>
    have HN := Lib.hid (show nice h = false by simp [nice]; omega)
    have d5 : h.ev.code < 0 := by omega
    clear c5
    go_wp2_with fail
    go_ret
    exact ⟨by rw [HN.out]; rfl, HB.out⟩
  by_cases c6 : h.ev.val.length ≤ 300
  case neg =>
    have HN := Lib.hid (show nice h = false by simp [nice]; omega)
    have d6 : 300 < h.ev.val.length := by omega
    clear c6
    go_wp2_with fail
    go_ret
    exact ⟨by rw [HN.out]; rfl, HB.out⟩
  have HN := Lib.hid (show nice h = decide ((h.ev.pairs.length : Int) ≤ 50) by
    have e : decide ((h.ev.pairs.length : Int) ≤ 50) = decide (h.ev.pairs.length ≤ 50) := decide_eq_decide.2 (by omega)
    rw [e]; simp [nice, *])
  go_wp2_with fail
  go_ret
  exact ⟨by rw [HN.out]; rfl, HB.out⟩

end Go.Proofs.YtbpbkmhipbchbaaGreatDoor.sc.tl
