/-
  PROVED HERE: the contracts of script's check, any64, whole: a number's text is read, or it is left by ErrBytes. Conditions: the library's tables lie (Env); short strings.
-/
import Derived.Test.YtbpbkmhipbchbaaGreatDoorScA
import Derived.Test.YtbpbkmhipbchbaaGreatDoorScLen
namespace Go.Proofs.YtbpbkmhipbchbaaGreatDoor.sc
open Go.RowKit
set_option linter.unusedVariables false

/-- What is left by: an error's number. -/
abbrev leftBy (e : Int) : Ending := .panicked [{ v := .iface 32 (.int .i64 e), recovered := false }]

theorem check_yes (e : Int) (w : World) : Calls Tryz.prog 63 #[.bool true, .int .i64 e] w fun x w' => x = .returned (.tuple #[]) ∧ w = w' := by
  go_enter Tryz.func63, Tryz.ntmps63
  go_wp2
  go_end0
  exact ⟨rfl, rfl⟩
theorem check_no (e : Int) (w : World) : Calls Tryz.prog 63 #[.bool false, .int .i64 e] w fun x w' => x = leftBy e ∧ w = w' := by
  go_enter Tryz.func63, Tryz.ntmps63
  go_wp2
  exact ⟨rfl, rfl, rfl⟩

theorem any64_cases (l : Bs) : (∃ u, Go.Lib.parseUintB 64 l = .ok u ∧ u < 18446744073709551616 ∧ (Go.Lib.decDigits u = l ∧ any64 l = some u ∨ num u ≠ l ∧ any64 l = none)) ∨ (Go.Lib.parseUintB 64 l = Go.Lib.NumEnd.syntax ∧ any64 l = none) ∨ (Go.Lib.parseUintB 64 l = .range ∧ any64 l = none) := by
  cases h : Go.Lib.parseUintB 64 l with
  | ok u =>
    refine .inl ⟨u, rfl, ?_, ?_⟩
    · have := Go.Lib.parseUintB_le h; omega
    · by_cases e : Go.Lib.decDigits u = l
      · exact .inl ⟨e, by unfold any64; rw [h]; simp [e]⟩
      · exact .inr ⟨by rw [num_nat]; exact e, by unfold any64; rw [h]; simp [e]⟩
  | range => exact .inr (.inr ⟨rfl, by unfold any64; rw [h]⟩)
  | _ => exact .inr (.inl ⟨rfl, by unfold any64; rw [h]⟩)

/-- What any64 comes to. -/
def Any64Post (w : World) (l : Bs) (e : Ending) (w' : World) : Prop :=
  Below w.heap.size w w' ∧ match any64 l with
    | some u => e = .returned (.int .u64 u)
    | none => e = leftBy 11

set_option maxHeartbeats 1600000 in
set_option maxRecDepth 100000 in
theorem any64_any {w : World} (l : Bs) (hl : l.length ≤ 1000000) (E : Env w) : Calls Tryz.prog 67 #[.string (mk l)] w (Any64Post w l) := by
  rcases any64_cases l with ⟨u, h, hu, ⟨h1, h2⟩ | ⟨h1, h2⟩⟩ | ⟨h, h2⟩ | ⟨h, h2⟩
  · subst h1
    have H := Lib.hid (Tryz.strconv_ParseUint_10_at64_ok (mk (Lib.decDigits u)) (by rw [mk_size]; omega) u (by rw [of_mk]; exact h) w)
    have H2 := Lib.hid h2; clear h2
    have HU := Lib.hid hu; clear h hu
    have HN := Lib.hid (num_nat u)
    go_enter Tryz.func67, Tryz.ntmps67
    go_wp2_with fail
    refine H.out.mono ?_; rintro e w1 ⟨rfl, hw1⟩
    have hb1 : Below w.heap.size w w1 := by
      rcases hw1 with rfl | rfl
      · exact Below.refl _ _
      · exact below_bytesWorld _ _ _
    clear hw1
    have H1 := Lib.hid hb1; clear hb1
    go_wp2_with fail
    refine (numU64_any u HU.out (E.next H1.out)).mono ?_; rintro e w2 ⟨rfl, hb2⟩
    rw [HN.out]
    go_wp2_with fail
    refine (check_yes _ _).mono ?_; rintro e w3 ⟨rfl, rfl⟩
    go_wp2_with fail
    go_ret
    refine ⟨H1.out.trans (hb2.mono H1.out.size), ?_⟩
    rw [H2.out]; rfl
  · have H := Lib.hid (Tryz.strconv_ParseUint_10_at64_ok (mk l) (by rw [mk_size]; omega) u (by rw [of_mk]; exact h) w)
    have H2 := Lib.hid h2; clear h2
    have HU := Lib.hid hu; clear h hu
    have hne : (num (u : Int) == l) = false := by simpa using h1
    clear h1
    go_enter Tryz.func67, Tryz.ntmps67
    go_wp2_with fail
    refine H.out.mono ?_; rintro e w1 ⟨rfl, hw1⟩
    have hb1 : Below w.heap.size w w1 := by
      rcases hw1 with rfl | rfl
      · exact Below.refl _ _
      · exact below_bytesWorld _ _ _
    clear hw1
    have H1 := Lib.hid hb1; clear hb1
    go_wp2_with fail
    refine (numU64_any u HU.out (E.next H1.out)).mono ?_; rintro e w2 ⟨rfl, hb2⟩
    go_wp2_with fail
    refine (check_no _ _).mono ?_; rintro e w3 ⟨rfl, rfl⟩
    refine ⟨rfl, H1.out.trans (hb2.mono H1.out.size), ?_⟩
    rw [H2.out]
  · obtain ⟨_, _, _, ⟨tp, p, hv⟩, _⟩ := E
    have H := Lib.hid (Tryz.strconv_ParseUint_10_at64_syntax (mk l) (by rw [mk_size]; omega) (by rw [of_mk]; exact h) _ w hv (.inr ⟨_, _, rfl⟩))
    have H2 := Lib.hid h2; clear h2 h hv
    go_enter Tryz.func67, Tryz.ntmps67
    go_wp2_with fail
    refine H.out.mono ?_; rintro e w1 ⟨N, rfl, _, _, hb1⟩
    go_wp2_with fail
    refine (check_no _ _).mono ?_; rintro e w3 ⟨rfl, rfl⟩
    refine ⟨rfl, hb1, ?_⟩
    rw [H2.out]
  · obtain ⟨_, _, _, _, ⟨tp, p, hv⟩, _⟩ := E
    have H := Lib.hid (Tryz.strconv_ParseUint_10_at64_range (mk l) (by rw [mk_size]; omega) (by rw [of_mk]; exact h) _ w hv (.inr ⟨_, _, rfl⟩))
    have H2 := Lib.hid h2; clear h2 h hv
    go_enter Tryz.func67, Tryz.ntmps67
    go_wp2_with fail
    refine H.out.mono ?_; rintro e w1 ⟨N, rfl, _, _, hb1⟩
    go_wp2_with fail
    refine (check_no _ _).mono ?_; rintro e w3 ⟨rfl, rfl⟩
    refine ⟨rfl, hb1, ?_⟩
    rw [H2.out]

/-- What whole comes to. -/
def WholePost (w : World) (l : Bs) (lo hi : Int) (e : Ending) (w' : World) : Prop :=
  Below w.heap.size w w' ∧ match whole l lo hi with
    | some n => e = .returned (.int .i64 n)
    | none => e = leftBy 11

set_option maxHeartbeats 1600000 in
set_option maxRecDepth 100000 in
theorem whole_any {w : World} (l : Bs) (hl : l.length ≤ 1000000) (lo hi : Int) (h0 : 0 ≤ lo) (h1 : lo ≤ 100000) (h2 : 0 ≤ hi) (h3 : hi ≤ 1099511627776) (E : Env w) :
    Calls Tryz.prog 65 #[.string (mk l), .int .i64 lo, .int .i64 hi] w (WholePost w l lo hi) := by
  have HA := Lib.hid (any64_any l hl E)
  cases ha : any64 l with
  | none =>
    have HW := Lib.hid (show whole l lo hi = none by unfold whole; rw [ha])
    have HN := Lib.hid ha; clear ha
    go_enter Tryz.func65, Tryz.ntmps65
    go_wp2_with fail
    refine HA.out.mono ?_; rintro e w1 ⟨hb, he⟩
    rw [HN.out] at he
    obtain rfl := he
    refine ⟨rfl, hb, ?_⟩
    rw [HW.out]
  | some u =>
    by_cases c1 : lo ≤ (u : Int)
    · by_cases c2 : (u : Int) ≤ hi
      · have HW := Lib.hid (show whole l lo hi = some (u : Int) by unfold whole; rw [ha]; exact if_pos ⟨c1, c2⟩)
        have HN := Lib.hid ha; clear ha
        have d1 : decide (lo ≤ (u : Int)) = true := by simpa using c1
        have d2 : decide ((u : Int) ≤ hi) = true := by simpa using c2
        go_enter Tryz.func65, Tryz.ntmps65
        go_wp2_with fail
        refine HA.out.mono ?_; rintro e w1 ⟨hb, he⟩
        rw [HN.out] at he
        obtain rfl := he
        go_wp2_with fail
        refine (check_yes _ _).mono ?_; rintro e w3 ⟨rfl, rfl⟩
        go_wp2_with fail
        go_ret
        refine ⟨hb, ?_⟩
        rw [HW.out]; rfl
      · have HW := Lib.hid (show whole l lo hi = none by unfold whole; rw [ha]; exact if_neg (fun h => c2 h.2))
        have HN := Lib.hid ha; clear ha
        have d1 : decide (lo ≤ (u : Int)) = true := by simpa using c1
        have d2 : decide ((u : Int) ≤ hi) = false := by simpa using c2
        clear c1 c2
        go_enter Tryz.func65, Tryz.ntmps65
        go_wp2_with fail
        refine HA.out.mono ?_; rintro e w1 ⟨hb, he⟩
        rw [HN.out] at he
        obtain rfl := he
        go_wp2_with fail
        refine (check_no _ _).mono ?_; rintro e w3 ⟨rfl, rfl⟩
        refine ⟨rfl, hb, ?_⟩
        rw [HW.out]
    · have HW := Lib.hid (show whole l lo hi = none by unfold whole; rw [ha]; exact if_neg (fun h => c1 h.1))
      have HN := Lib.hid ha; clear ha
      go_enter Tryz.func65, Tryz.ntmps65
      go_wp2_with fail
      refine HA.out.mono ?_; rintro e w1 ⟨hb, he⟩
      rw [HN.out] at he
      obtain rfl := he
      go_wp2_with fail
      refine (check_no _ _).mono ?_; rintro e w3 ⟨rfl, rfl⟩
      refine ⟨rfl, hb, ?_⟩
      rw [HW.out]

end Go.Proofs.YtbpbkmhipbchbaaGreatDoor.sc
