/-
  PROVED HERE: BoundNumbers returns true for every pair of integers: the bound and the readers bound of the program are those of the reference, and the closed row of the chapter holds.
  Conditions: none.
  The frame of the last step was written by the seat's proof-skeleton program; the walks and contracts are by hand.
-/
import Derived.Test.YtdenonbcmommpaaRows
import Derived.WalkKit
import Derived.ProofKit
import Derived.OpenShut
import Derived.Lib.Hide
import Derived.IntWalk
namespace Go.Proofs.Ytdenonbcmommpaa.boundNumbers
open Go.ChangeShapes Go.WideShapes Go.ChangeAt Go.RowKit
set_option linter.unusedVariables false      -- a walk need not use every 'w<i>' (that an integer argument fits its kind)

theorem own : ownKnob Try.prog.godebug = none := by kernel_rfl

theorem wf_bd (a : Int) (h : (Lit.int .i64 a).wf = true) : -9223372036854775808 ≤ a ∧ a ≤ 9223372036854775807 := by
  simpa [Lit.wf, IntKind.min, IntKind.max, IntKind.signed, IntKind.bits] using h

/-- The size by which a bound is counted: 0, or five words a slab and ten. -/
def sz (s : Int) : Int := if s < 1 ∨ s > 64 then 0 else 5 * s + 10

theorem size_any (s : Int) (w : World) (h : -9223372036854775808 ≤ s ∧ s ≤ 9223372036854775807) :
    Calls Try.prog 9 #[.int .i64 s] w fun e w' => e = .returned (.int .i64 (sz s)) ∧ w = w' := by
  obtain ⟨h1, h2⟩ := h
  by_cases a : s < 1
  · have hz : sz s = 0 := by unfold sz; rw [if_pos (by omega)]
    have H := Lib.hid hz; clear hz
    go_enter Try.func9, Try.ntmps9
    go_wp2
    go_ret
    exact ⟨by rw [H.out]; rfl, rfl⟩
  · by_cases b : s > 64
    · have hz : sz s = 0 := by unfold sz; rw [if_pos (by omega)]
      have H := Lib.hid hz; clear hz
      go_enter Try.func9, Try.ntmps9
      go_wp2
      go_ret
      exact ⟨by rw [H.out]; rfl, rfl⟩
    · have hz : sz s = 5 * s + 10 := by unfold sz; rw [if_neg (by omega)]
      have H := Lib.hid hz; clear hz
      go_enter Try.func9, Try.ntmps9
      go_wp2
      go_ret
      exact ⟨by rw [H.out]; rfl, rfl⟩

/-- The bound: 0 where either number may not be. -/
def bd (s c : Int) : Int := if c < 1 ∨ c > 64 then 0 else 10000 * sz s * sz s * sz s * c * c

theorem sz_bd (s : Int) : 0 ≤ sz s ∧ sz s ≤ 330 := by unfold sz; split <;> omega

theorem mul_le {a b m n : Int} (ha : 0 ≤ a ∧ a ≤ m) (hb : 0 ≤ b ∧ b ≤ n) : 0 ≤ a * b ∧ a * b ≤ m * n :=
  ⟨Int.mul_nonneg ha.1 hb.1, Int.mul_le_mul ha.2 hb.2 hb.1 (Int.le_trans ha.1 ha.2)⟩

/-- every product on the way fits -/
theorem prods (n c : Int) (hn : 0 ≤ n ∧ n ≤ 330) (hc : 1 ≤ c ∧ c ≤ 64) :
    IntKind.i64.wrap (10000 * n) = 10000 * n ∧ IntKind.i64.wrap (10000 * n * n) = 10000 * n * n ∧ IntKind.i64.wrap (10000 * n * n * n) = 10000 * n * n * n
      ∧ IntKind.i64.wrap (10000 * n * n * n * c) = 10000 * n * n * n * c ∧ IntKind.i64.wrap (10000 * n * n * n * c * c) = 10000 * n * n * n * c * c := by
  have hc' : 0 ≤ c ∧ c ≤ 64 := ⟨by omega, hc.2⟩
  have h1 : 0 ≤ 10000 * n ∧ 10000 * n ≤ 10000 * 330 := ⟨by omega, by omega⟩
  have h2 := mul_le h1 hn
  have h3 := mul_le h2 hn
  have h4 := mul_le h3 hc'
  have h5 := mul_le h4 hc'
  refine ⟨IntWalk.i64_in _ ?_, IntWalk.i64_in _ ?_, IntWalk.i64_in _ ?_, IntWalk.i64_in _ ?_, IntWalk.i64_in _ ?_⟩ <;> omega

theorem bound_any (s c : Int) (w : World) (h : -9223372036854775808 ≤ s ∧ s ≤ 9223372036854775807) (hc : -9223372036854775808 ≤ c ∧ c ≤ 9223372036854775807) :
    Calls Try.prog 4 #[.int .i64 s, .int .i64 c] w fun e w' => e = .returned (.int .i64 (bd s c)) ∧ w = w' := by
  have hz := sz_bd s
  obtain ⟨h1, h2⟩ := hc
  by_cases a : c < 1
  · have hz : bd s c = 0 := by unfold bd; rw [if_pos (by omega)]
    have H := Lib.hid hz; clear hz
    go_enter Try.func4, Try.ntmps4
    go_wp2_with (go_at_call 9; refine (size_any _ _ h).mono ?_; rintro e w' ⟨rfl, rfl⟩)
    go_ret
    exact ⟨by rw [H.out]; rfl, rfl⟩
  · by_cases b : c > 64
    · have hz : bd s c = 0 := by unfold bd; rw [if_pos (by omega)]
      have H := Lib.hid hz; clear hz
      go_enter Try.func4, Try.ntmps4
      go_wp2_with (go_at_call 9; refine (size_any _ _ h).mono ?_; rintro e w' ⟨rfl, rfl⟩)
      go_ret
      exact ⟨by rw [H.out]; rfl, rfl⟩
    · have hp := prods (sz s) c hz ⟨by omega, by omega⟩
      have hz : bd s c = 10000 * sz s * sz s * sz s * c * c := by unfold bd; rw [if_neg (by omega)]
      have H := Lib.hid hz; clear hz
      obtain ⟨p1, p2, p3, p4, p5⟩ := hp
      go_enter Try.func4, Try.ntmps4
      go_wp2_with (go_at_call 9; refine (size_any _ _ h).mono ?_; rintro e w' ⟨rfl, rfl⟩)
      go_ret
      exact ⟨by rw [H.out]; rfl, rfl⟩

theorem readers_any (s : Int) (w : World) (h : -9223372036854775808 ≤ s ∧ s ≤ 9223372036854775807) :
    Calls Try.prog 6 #[.int .i64 s] w fun e w' => e = .returned (.int .i64 (1000 * sz s)) ∧ w = w' := by
  have hz := sz_bd s
  obtain ⟨hz1, hz2⟩ := hz
  go_enter Try.func6, Try.ntmps6
  go_wp2_with (go_at_call 9; refine (size_any _ _ h).mono ?_; rintro e w' ⟨rfl, rfl⟩)
  go_ret
  exact ⟨rfl, rfl⟩

theorem rreaders_any (s : Int) (w : World) (h : -9223372036854775808 ≤ s ∧ s ≤ 9223372036854775807) :
    Calls Try.prog 7 #[.int .i64 s] w fun e w' => e = .returned (.int .i64 (1000 * sz s)) ∧ w = w' := by
  obtain ⟨h1, h2⟩ := h
  by_cases a : s < 1
  · have hz : 1000 * sz s = 0 := by unfold sz; rw [if_pos (by omega)]; rfl
    have H := Lib.hid hz; clear hz
    go_enter Try.func7, Try.ntmps7
    go_wp2
    go_ret
    exact ⟨by rw [H.out]; rfl, rfl⟩
  · by_cases b : s > 64
    · have hz : 1000 * sz s = 0 := by unfold sz; rw [if_pos (by omega)]; rfl
      have H := Lib.hid hz; clear hz
      go_enter Try.func7, Try.ntmps7
      go_wp2
      go_ret
      exact ⟨by rw [H.out]; rfl, rfl⟩
    · have hz : 1000 * sz s = 1000 * (5 * s + 10) := by unfold sz; rw [if_neg (by omega)]
      have H := Lib.hid hz; clear hz
      go_enter Try.func7, Try.ntmps7
      go_wp2
      go_ret
      exact ⟨by rw [H.out]; rfl, rfl⟩

theorem rbound_any (s c : Int) (w : World) (h : -9223372036854775808 ≤ s ∧ s ≤ 9223372036854775807) (hc : -9223372036854775808 ≤ c ∧ c ≤ 9223372036854775807) :
    Calls Try.prog 5 #[.int .i64 s, .int .i64 c] w fun e w' => e = .returned (.int .i64 (bd s c)) ∧ w = w' := by
  obtain ⟨h1, h2⟩ := h
  obtain ⟨h3, h4⟩ := hc
  by_cases a : s < 1
  · have hz : bd s c = 0 := by unfold bd sz; rw [if_pos (Or.inl a)]; simp
    have H := Lib.hid hz; clear hz
    go_enter Try.func5, Try.ntmps5
    go_wp2
    go_ret
    exact ⟨by rw [H.out]; rfl, rfl⟩
  by_cases b : s > 64
  · have hz : bd s c = 0 := by unfold bd sz; rw [if_pos (Or.inr b)]; simp
    have H := Lib.hid hz; clear hz
    go_enter Try.func5, Try.ntmps5
    go_wp2
    go_ret
    exact ⟨by rw [H.out]; rfl, rfl⟩
  by_cases p : c < 1
  · have hz : bd s c = 0 := by unfold bd; rw [if_pos (Or.inl p)]
    have H := Lib.hid hz; clear hz
    go_enter Try.func5, Try.ntmps5
    go_wp2
    go_ret
    exact ⟨by rw [H.out]; rfl, rfl⟩
  by_cases q : c > 64
  · have hz : bd s c = 0 := by unfold bd; rw [if_pos (Or.inr q)]
    have H := Lib.hid hz; clear hz
    go_enter Try.func5, Try.ntmps5
    go_wp2
    go_ret
    exact ⟨by rw [H.out]; rfl, rfl⟩
  have hp := prods (5 * s + 10) c ⟨by omega, by omega⟩ ⟨by omega, by omega⟩
  have hz : bd s c = 10000 * (5 * s + 10) * (5 * s + 10) * (5 * s + 10) * c * c := by unfold bd sz; rw [if_neg (by omega), if_neg (by omega)]
  have H := Lib.hid hz; clear hz
  obtain ⟨p1, p2, p3, p4, p5⟩ := hp
  go_enter Try.func5, Try.ntmps5
  go_wp2
  go_ret
  exact ⟨by rw [H.out]; rfl, rfl⟩

theorem known_any (w : World) :
    Calls Try.prog 8 #[] w fun e w' => e = .returned (.bool true) ∧ w = w' := by
  have e1 : bd 1 1 = 33750000 := by decide
  have e2 : 1000 * sz 1 = 15000 := by decide
  go_enter Try.func8, Try.ntmps8
  go_wp2_with fail
  refine (bound_any _ _ _ (by omega) (by omega)).mono ?_; rintro e w' ⟨rfl, rfl⟩
  rw [e1]
  go_wp2_with fail
  refine (readers_any _ _ (by omega)).mono ?_; rintro e w' ⟨rfl, rfl⟩
  rw [e2]
  go_wp2_with fail
  go_ret
  exact ⟨rfl, rfl⟩

theorem walk (a0 : Int) (a1 : Int) (w0 : (Lit.int .i64 a0).wf = true) (w1 : (Lit.int .i64 a1).wf = true) (w : World) :
    Calls Try.prog 3 #[.int .i64 a0, .int .i64 a1] w fun e w' => e = .returned (.bool true) ∧ Grown w w' := by
  have h0 := Lib.hid (wf_bd a0 w0)
  have h1 := Lib.hid (wf_bd a1 w1)
  clear w0 w1
  go_enter Try.func3, Try.ntmps3
  go_wp2_with fail
  refine (bound_any _ _ _ h0.out h1.out).mono ?_; rintro e w' ⟨rfl, rfl⟩
  go_wp2_with fail
  refine (rbound_any _ _ _ h0.out h1.out).mono ?_; rintro e w' ⟨rfl, rfl⟩
  go_wp2_with fail
  refine (readers_any _ _ h0.out).mono ?_; rintro e w' ⟨rfl, rfl⟩
  go_wp2_with fail
  refine (rreaders_any _ _ h0.out).mono ?_; rintro e w' ⟨rfl, rfl⟩
  go_wp2_with fail
  refine (known_any _).mono ?_; rintro e w' ⟨rfl, rfl⟩
  go_wp2_with fail
  go_ret
  exact ⟨rfl, Grown.refl _⟩

/-! ### THE ROW's STEP: WRITTEN OUT: LEAVE IT -/
set_option maxRecDepth 100000 in
theorem lifted (os : Os) (started : os.Started) (H : Type) (enc : TypeId × Value → H) :
    ReturnsInHanded {} Try.checked os 3 .any (Rows.boundNumbersSpec.pre6 enc Try.prog Try.f3 Rows.boundNumbersRow.domain false) (Rows.boundNumbersSpec.post enc Try.prog Try.f3 false true false false) := by
  refine returnsInHanded_of_change (C := Try.checked) own started (by kernel_rfl) Try.func3
    (ChangeSpec.witness6 (enc := enc) (C := Try.checked) false ⟨#[], #[.int .i64 0, .int .i64 0], []⟩ 8 (by kernel_rfl) (by kernel_rfl) (by kernel_rfl) (by kernel_rfl)) ?_
  intro W base args ds gs before hval0 hW hcnd _
  have hval : ∀ (j : Nat) t v, Try.f3.params[j]? = some t → args[j]? = some v → Value.okWide Try.prog W .any base t v := hval0
  have hW' := hW
  obtain ⟨p, q, hA0, hV, rfl, hfz, hnd⟩ := hW
  have hA : DataW.TrodAll enc Try.prog W 0 (fun _ => true) true Try.f3.params.toList args.toList ds p := hA0
  rw [Try.params3] at hA hval
  obtain ⟨v0, vs0, d0, ds0, p0, q0, hargs, rfl, rfl, h0, r0⟩ := trodAll_cons hA
  obtain ⟨v1, vs1, d1, ds1, p1, q1, rfl, rfl, rfl, h1, r1⟩ := trodAll_cons r0
  obtain ⟨rfl, rfl, rfl⟩ := trodAll_nil r1
  obtain rfl : args = #[v0, v1] := by cases args; simp_all
  obtain ⟨rfl, rfl⟩ := trodVars_none hV
  obtain ⟨a0, rfl, rfl, rfl, w0⟩ := open_int Try.underlying3 (hval 0 3 v0 rfl rfl) h0
  obtain ⟨a1, rfl, rfl, rfl, w1⟩ := open_int Try.underlying3 (hval 1 3 v1 rfl rfl) h1
  clear hA0 hval0
  simp only [List.append_nil] at hW'
  refine (walk a0 a1 w0 w1 W).mono fun e W' ⟨he, hg⟩ => ?_
  subst he
  exact ⟨_, rfl, post_of_same (pa := []) (pv := []) hW' (fun _ _ _ => (trodAll_cons_mk (shut_bool Try.underlying4 _) trodAll_mk0)) (fun sp _ => (trodAll_cons_mk (shut_int Try.underlying3 w0) (trodAll_cons_mk (shut_int Try.underlying3 w1) trodAll_mk0))) (fun _ _ => rfl) rfl
    (hg.frame _) hg.2.1 (ok_one (by kernel_rfl) rfl (okWide_bool_mk Try.underlying4 _))⟩

theorem over : Rows.boundNumbersRow.holds Try.pinned (OpenSpec.ofChange Rows.boundNumbersSpec) :=
  OpenClaim.holds_of_wide 3 Try.f3 rfl rfl rfl rfl rfl rfl rfl ⟨rfl, rfl, rfl, rfl, rfl⟩ rfl rfl rfl rfl rfl (by kernel_rfl) Try.func3 (by kernel_rfl)
    (of_decide_eq_true (by kernel_rfl)) (by unfold Func.isWrapper; first | (rw [if_pos (by decide +kernel)]; kernel_rfl) | (rw [if_neg (by decide +kernel)]; exact ⟨rfl, rfl⟩))
    (fun os started H enc _ => lifted os started H enc)

/-- ████ THE STATEMENT ████ -/
theorem proved : Rows.BoundNumbersSaid :=
  over
#print axioms proved
end Go.Proofs.Ytdenonbcmommpaa.boundNumbers
