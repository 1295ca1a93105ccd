/-
  PROVED HERE: the contracts of the reference's num, fits, Num, small, Again. Conditions: numbers of their kinds; short strings.
-/
import Derived.Test.YtbpbkmhipbchbaaGreatDoorScRef1
import Derived.Test.YtbpbkmhipbchbaaGreatDoorScWords
namespace Go.Proofs.YtbpbkmhipbchbaaGreatDoor.sc
open Go.RowKit
set_option linter.unusedVariables false

set_option maxRecDepth 100000 in
theorem rnum_any {w : World} (n : Int) (h0 : 0 ≤ n) (h1 : n ≤ 9223372036854775807) :
    Calls Tryz.prog 44 #[.int .i64 n] w fun e w' => e = .returned (.string (mk (num n))) ∧ Below w.heap.size w w' := by
  obtain ⟨u, rfl⟩ : ∃ u : Nat, n = u := ⟨n.toNat, by omega⟩
  have H := Lib.hid (rNum08_any u w (by omega))
  have hc : IntKind.u64.wrap (u : Int) = u := IntWalk.u64_in _ (by omega)
  go_enter Tryz.func44, Tryz.ntmps44
  go_wp2_with fail
  refine H.out.mono ?_; rintro e w1 ⟨rfl, hb1⟩
  go_wp2_with fail
  go_ret
  exact ⟨rfl, hb1⟩
theorem rNum08_int {w : World} (n : Int) (h : U64 n) :
    Calls Tryz.prog 47 #[.int .u64 n] w fun e w' => e = .returned (.string (mk (num n))) ∧ Below w.heap.size w w' := by
  obtain ⟨u, rfl⟩ : ∃ u : Nat, n = u := ⟨n.toNat, by have := h.1; omega⟩
  exact rNum08_any u w (by have := h.2; omega)

set_option maxRecDepth 100000 in
theorem rFits_any (w : World) (n : Int) : Calls Tryz.prog 51 #[.int .i64 n] w fun e w' => e = .returned (.bool (fits n)) ∧ w' = w := by
  by_cases h0 : 0 ≤ n
  · have HG := Lib.hid (show fits n = decide (n ≤ 1099511627776) by unfold fits big; rw [decide_eq_true h0, Bool.true_and])
    go_enter Tryz.func51, Tryz.ntmps51
    go_wp2_with fail
    go_ret
    exact ⟨by rw [HG.out]; rfl, rfl⟩
  · have HG := Lib.hid (show fits n = false by unfold fits; rw [decide_eq_false h0, Bool.false_and])
    go_enter Tryz.func51, Tryz.ntmps51
    go_wp2_with fail
    go_ret
    exact ⟨by rw [HG.out]; rfl, rfl⟩

/-! ### Num -/
def numFold (l : Bs) (k : Nat) : Nat := (l.take k).foldl numStep 0
theorem numFold_succ {l : Bs} {k : Nat} {b : UInt8} (h : l[k]? = some b) : numFold l (k + 1) = numStep (numFold l k) b := by
  unfold numFold
  rw [List.take_add_one, h]
  simp
theorem numFold_lt (l : Bs) (k : Nat) : numFold l k < 18446744073709551616 := by
  unfold numFold
  generalize l.take k = t
  have : ∀ (t : Bs) (n : Nat), n < 18446744073709551616 → t.foldl numStep n < 18446744073709551616 := by
    intro t
    induction t with
    | nil => intro n h; exact h
    | cons b r ih => intro n _; exact ih _ (Nat.mod_lt _ (by decide))
  exact this t 0 (by decide)

theorem mk_get' {l : Bs} {k : Nat} {b : UInt8} {h : k < (mk l).size} (hb : l[k]? = some b) : (mk l)[k] = b := by
  have h2 : k < l.length := by rw [← mk_size l]; exact h
  have : (mk l)[k] = l[k] := by
    show (mk l).data[k] = _
    simp
  rw [this]
  rw [List.getElem?_eq_getElem h2] at hb
  exact Option.some.inj hb
theorem u64_wrap_mod (x : Int) : IntKind.u64.wrap x = x % 18446744073709551616 := by
  simp [IntKind.wrap, IntKind.bits, IntKind.signed]
theorem num_step_eq (n : Nat) (b : UInt8) : Value.int .u64 (IntKind.u64.wrap (IntKind.u64.wrap (10 * (n : Int)) + ((b.toNat : Int) - 48) % 256)) = Value.int .u64 (numStep n b : Nat) := by
  rw [u64_wrap_mod, u64_wrap_mod]
  unfold numStep dval
  congr 1
  omega

set_option maxHeartbeats 1000000 in
set_option maxRecDepth 100000 in
theorem rNum_any {w : World} (l : Bs) (hl : l.length ≤ 1000000) : Calls Tryz.prog 33 #[.string (mk l)] w fun e w' => e = .returned (.int .u64 (numR l)) ∧ w' = w := by
  have hlen : (mk l).size = l.length := mk_size l
  go_enter Tryz.func33, Tryz.ntmps33
  go_wp2_with fail
  go_loopw [3, 4] (fun s3 s4 wr => ∃ k : Nat, k ≤ l.length ∧ k ≤ 20 ∧ s4 = .int .i64 k ∧ s3 = .int .u64 (numFold l k) ∧ wr = w) (fun _ s4 _ => l.length - (RowKit.intOf s4).toNat)
  case atStart => exact ⟨0, by omega, by omega, rfl, rfl, rfl⟩
  case round =>
    obtain ⟨k, hk, hk2, rfl, rfl, rfl⟩ := hrel
    by_cases hlt : k < l.length
    · by_cases hlt2 : k < 20
      · obtain ⟨b, hb⟩ : ∃ b, l[k]? = some b := ⟨_, List.getElem?_eq_getElem hlt⟩
        have HB := Lib.hid hb
        go_wp2_with fail
        refine ⟨⟨k + 1, by omega, by omega, by simp, ?_, trivial⟩, by simp [RowKit.intOf]; omega⟩
        rw [numFold_succ HB.out, num_step_eq, mk_get' HB.out]
      · have HK := Lib.hid (show k = 20 by omega)
        go_wp2_with fail
        go_ret
        exact ⟨by rw [show numR l = numFold l k by rw [HK.out]; rfl]; rfl, rfl⟩
    · have HK := Lib.hid (show numR l = numFold l k by
        unfold numR numFold
        rw [List.take_of_length_le (by omega : l.length ≤ 20), List.take_of_length_le (by omega : l.length ≤ k)])
      go_wp2_with fail
      go_ret
      exact ⟨by rw [HK.out]; rfl, rfl⟩

set_option maxRecDepth 100000 in
theorem rSmall_any {w : World} (l : Bs) (hl : l.length ≤ 1000000) : Calls Tryz.prog 32 #[.string (mk l)] w fun e w' => e = .returned (.int .i64 (smallR l)) ∧ w' = w := by
  have H := Lib.hid (rNum_any (w := w) l hl)
  obtain ⟨u, hu⟩ : ∃ u, u = numR l := ⟨_, rfl⟩
  have hlt : u < 18446744073709551616 := by rw [hu]; exact numR_lt l
  rw [← hu] at H
  have HU := Lib.hid (show smallR l = if 1099511627776 < u then -1 else (u : Int) by rw [hu]; rfl)
  clear hu
  by_cases hb : 1099511627776 < u
  · rw [if_pos hb] at HU
    have hb2 : (1099511627776 : Int) < (u : Int) := by omega
    clear hb
    go_enter Tryz.func32, Tryz.ntmps32
    go_wp2_with fail
    refine H.out.mono ?_; rintro e w1 ⟨rfl, rfl⟩
    go_wp2_with fail
    go_ret
    exact ⟨by rw [HU.out]; rfl, rfl⟩
  · rw [if_neg hb] at HU
    have hb2 : ¬ (1099511627776 : Int) < (u : Int) := by omega
    have hc : IntKind.i64.wrap (u : Int) = u := IntWalk.i64_in _ (by omega)
    clear hb
    go_enter Tryz.func32, Tryz.ntmps32
    go_wp2_with fail
    refine H.out.mono ?_; rintro e w1 ⟨rfl, rfl⟩
    go_wp2_with fail
    go_ret
    exact ⟨by rw [HU.out]; rfl, rfl⟩

end Go.Proofs.YtbpbkmhipbchbaaGreatDoor.sc
