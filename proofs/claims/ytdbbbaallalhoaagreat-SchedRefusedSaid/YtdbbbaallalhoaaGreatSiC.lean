/-
  PROVED HERE: which calls may be (model.May and the reference's May): one and the same number. No condition but that numbers are of their kinds.
-/
import Derived.Test.YtdbbbaallalhoaaGreatSiA
namespace Go.Proofs.YtdbbbaallalhoaaGreat.si
open Go.RowKit Go.Proofs.YtdbbbaallalhoaaGreat.pm Go.Proofs.YtdbbbaallalhoaaGreat.ar Go.Proofs.YtdbbbaallalhoaaGreat.bt Go.Proofs.YtdbbbaallalhoaaGreat.sl
set_option linter.unusedVariables false
attribute [-go_sem] Builtin.append_ Instr.buildSlice Instr.build

/-- A call. -/
def caArr (op k h l : Int) (v : ByteArray) : Array Value := #[.int .i64 op, .int .u64 k, .int .u64 h, .int .i64 l, .string v]
/-- Why it may not be (0: it may). -/
def mayE (op k h l : Int) (v : ByteArray) : Int := if op = 2 ∨ op = 3 then 0 else if op = 1 then (if 120 < v.size then 10 else 0) else if op = 4 then (if h < k ∨ l < 1 ∨ 256 < l then 2 else 0) else 2

theorem bounds_any (k h l : Int) (w : World) : Calls Tryz.prog 59 #[.int .u64 k, .int .u64 h, .int .i64 l] w fun e w' => e = .returned (.int .i64 (if h < k ∨ l < 1 ∨ 256 < l then 2 else 0)) ∧ w = w' := by
  by_cases h1 : h < k
  · rw [if_pos (.inl h1)]
    go_enter Tryz.func59, Tryz.ntmps59
    go_wp2_with fail
    go_ret
    exact ⟨rfl, rfl⟩
  by_cases h2 : l < 1
  · rw [if_pos (.inr (.inl h2))]
    go_enter Tryz.func59, Tryz.ntmps59
    go_wp2_with fail
    go_ret
    exact ⟨rfl, rfl⟩
  by_cases h3 : 256 < l
  · rw [if_pos (.inr (.inr h3))]
    go_enter Tryz.func59, Tryz.ntmps59
    go_wp2_with fail
    go_ret
    exact ⟨rfl, rfl⟩
  · rw [if_neg (by omega)]
    go_enter Tryz.func59, Tryz.ntmps59
    go_wp2_with fail
    go_ret
    exact ⟨rfl, rfl⟩

set_option maxHeartbeats 1000000 in
theorem may_any (op k h l : Int) (v : ByteArray) (w : World) : Calls Tryz.prog 24 #[.agg (caArr op k h l v)] w fun e w' => e = .returned (.int .i64 (mayE op k h l v)) ∧ Keeps [] w w' := by
  have HK := Lib.hid (Keeps.alloc w (.cells (caArr op k h l v) 28))
  have HB := Lib.hid (fun wx => bounds_any k h l wx)
  unfold caArr at HK ⊢
  by_cases h2 : op = 2
  · subst h2
    have e : mayE 2 k h l v = 0 := by simp [mayE]
    rw [e]
    clear e
    go_enter Tryz.func24, Tryz.ntmps24
    go_wp2_with fail
    go_ret
    exact ⟨rfl, HK.out⟩
  by_cases h3 : op = 3
  · subst h3
    have e : mayE 3 k h l v = 0 := by simp [mayE]
    rw [e]
    clear e
    go_enter Tryz.func24, Tryz.ntmps24
    go_wp2_with fail
    go_ret
    exact ⟨rfl, HK.out⟩
  have b2 : (op == 2) = false := by simp [h2]
  have b3 : (op == 3) = false := by simp [h3]
  by_cases h1 : op = 1
  · subst h1
    by_cases hv : 120 < v.size
    · have e : mayE 1 k h l v = 10 := by simp [mayE, hv]
      have hvI : (120 : Int) < (v.size : Int) := by omega
      rw [e]
      clear e
      go_enter Tryz.func24, Tryz.ntmps24
      go_wp2_with fail
      go_ret
      exact ⟨rfl, HK.out⟩
    · have e : mayE 1 k h l v = 0 := by simp [mayE, hv]
      have hvI : ¬ (120 : Int) < (v.size : Int) := by omega
      rw [e]
      clear e
      go_enter Tryz.func24, Tryz.ntmps24
      go_wp2_with fail
      go_ret
      exact ⟨rfl, HK.out⟩
  have b1 : (op == 1) = false := by simp [h1]
  by_cases h4 : op = 4
  · subst h4
    have e : mayE 4 k h l v = (if h < k ∨ l < 1 ∨ 256 < l then 2 else 0) := by simp [mayE]
    rw [e]
    obtain ⟨z, hz⟩ : ∃ z : Int, z = (if h < k ∨ l < 1 ∨ 256 < l then 2 else 0) := ⟨_, rfl⟩
    rw [← hz] at HB ⊢
    clear e hz
    go_enter Tryz.func24, Tryz.ntmps24
    go_wp2_with fail
    refine (HB.out _).mono ?_
    rintro e w1 ⟨rfl, rfl⟩
    go_wp2_with fail
    go_ret
    exact ⟨rfl, HK.out⟩
  · have b4 : (op == 4) = false := by simp [h4]
    have e : mayE op k h l v = 2 := by simp [mayE, h1, h2, h3, h4]
    rw [e]
    clear e h1 h2 h3 h4
    go_enter Tryz.func24, Tryz.ntmps24
    go_wp2_with fail
    go_ret
    exact ⟨rfl, HK.out⟩

set_option maxHeartbeats 2000000 in
theorem rmay_any (op k h l : Int) (v : ByteArray) (w : World) : Calls Tryz.prog 26 #[.agg (caArr op k h l v)] w fun e w' => e = .returned (.int .i64 (mayE op k h l v)) ∧ Keeps [] w w' := by
  have HK := Lib.hid (Keeps.alloc w (.cells (caArr op k h l v) 28))
  unfold caArr at HK ⊢
  by_cases h1 : op < 1
  · have e : mayE op k h l v = 2 := by unfold mayE; rw [if_neg (by omega), if_neg (by omega), if_neg (by omega)]
    rw [e]
    clear e
    go_enter Tryz.func26, Tryz.ntmps26
    go_wp2_with fail
    go_ret
    exact ⟨rfl, HK.out⟩
  by_cases h4 : 4 < op
  · have e : mayE op k h l v = 2 := by unfold mayE; rw [if_neg (by omega), if_neg (by omega), if_neg (by omega)]
    rw [e]
    clear e
    go_enter Tryz.func26, Tryz.ntmps26
    go_wp2_with fail
    go_ret
    exact ⟨rfl, HK.out⟩
  by_cases ho4 : op = 4
  · subst ho4
    have e : mayE 4 k h l v = (if h < k ∨ l < 1 ∨ 256 < l then 2 else 0) := by simp [mayE]
    rw [e]
    clear e
    by_cases g1 : h < k
    · rw [if_pos (.inl g1)]
      go_enter Tryz.func26, Tryz.ntmps26
      go_wp2_with fail
      go_ret
      exact ⟨rfl, HK.out⟩
    by_cases g2 : l < 1
    · rw [if_pos (.inr (.inl g2))]
      go_enter Tryz.func26, Tryz.ntmps26
      go_wp2_with fail
      go_ret
      exact ⟨rfl, HK.out⟩
    by_cases g3 : 256 < l
    · rw [if_pos (.inr (.inr g3))]
      go_enter Tryz.func26, Tryz.ntmps26
      go_wp2_with fail
      go_ret
      exact ⟨rfl, HK.out⟩
    · rw [if_neg (by omega)]
      go_enter Tryz.func26, Tryz.ntmps26
      go_wp2_with fail
      go_ret
      exact ⟨rfl, HK.out⟩
  by_cases ho1 : op = 1
  · subst ho1
    by_cases hv : 120 < v.size
    · have e : mayE 1 k h l v = 10 := by simp [mayE, hv]
      have hvI : (120 : Int) < (v.size : Int) := by omega
      rw [e]
      clear e
      go_enter Tryz.func26, Tryz.ntmps26
      go_wp2_with fail
      go_ret
      exact ⟨rfl, HK.out⟩
    · have e : mayE 1 k h l v = 0 := by simp [mayE, hv]
      have hvI : ¬ (120 : Int) < (v.size : Int) := by omega
      rw [e]
      clear e
      go_enter Tryz.func26, Tryz.ntmps26
      go_wp2_with fail
      go_ret
      exact ⟨rfl, HK.out⟩
  · have e : mayE op k h l v = 0 := by unfold mayE; rw [if_pos (by omega)]
    have b4 : (op == 4) = false := by simp [ho4]
    have b1 : (op == 1) = false := by simp [ho1]
    rw [e]
    clear e ho1 ho4
    go_enter Tryz.func26, Tryz.ntmps26
    go_wp2_with fail
    go_ret
    exact ⟨rfl, HK.out⟩
end Go.Proofs.YtdbbbaallalhoaaGreat.si
