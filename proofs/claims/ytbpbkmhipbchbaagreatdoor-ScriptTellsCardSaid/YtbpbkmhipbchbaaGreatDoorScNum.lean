/-
  PROVED HERE: strconv.FormatUint at base 10 (every uint64), and package script's num at its four types: a number's decimal digits. Conditions: the table of powers of ten lies (Env).
-/
import Derived.Test.YtbpbkmhipbchbaaGreatDoorScMem
import Derived.Test.YtbpbkmhipbchbaaGreatDoorShelf
import Derived.Lib.AppendIntMem
namespace Go.Proofs.YtbpbkmhipbchbaaGreatDoor.sc
open Go.RowKit Go.Shelf Go.Sort Go.Lib
set_option linter.unusedVariables false

theorem below_grow (w : World) (k : Nat) (os : Array Obj) : Below w.heap.size w (grow (w.drewN k) os) := by
  refine ⟨rfl, rfl, rfl, ?_, ?_⟩
  · simp [grow, World.drewN]
  · intro b hb
    simp only [grow, World.drewN]
    exact Array.getElem?_append_left hb

set_option maxHeartbeats 3200000 in
set_option maxRecDepth 100000 in
theorem ifmt10 {w : World} (u : Nat) (hu64 : u < 18446744073709551616) (E : Env w) :
    Calls Tryz.prog 89 #[.int .u64 u, .int .i64 10] w fun e w' => e = .returned (.string (mk (decDigits u))) ∧ Below w.heap.size w w' := by
  by_cases hs : u < 100
  · go_enter Tryz.func89, Tryz.ntmps89
    go_wp2_with (go_at_call 102; refine (Tryz.internal_strconv_small u hs _).mono ?_; rintro e w' ⟨rfl, rfl⟩)
    go_ret
    exact ⟨rfl, Below.refl _ _⟩
  · have hu1 : 1 ≤ u := by omega
    have htab := E.1
    have hnd20 : Lib.nDigits u ≤ 20 := by have := Lib.numDigits_eq u hu1 hu64; split at this <;> omega
    have hb3 : Lib.nDigits u ≤ 24 := by omega
    have hal : Tryz.prog.arrayLen 143 = 24 := by kernel_rfl
    have hsl1 : ∀ W, (Instr.sliceAt 143 (.pointer (some ⟨w.heap.size, 0, none⟩)) none (some (.int .i64 (Lib.nDigits u : Int))) none).run Tryz.prog W = .ok (.slice (some ⟨w.heap.size, 0, none⟩) (Lib.nDigits u) 24) W := fun W => by
      rw [run_sliceAt_array_h W 143 ⟨w.heap.size, 0, none⟩ (by simp [Program.arrayLen, Program.elem, Tryz.underlying143]) .i64 (Lib.nDigits u : Int) (by omega) (by rw [hal]; omega)]
      go_simp
    have hH0 := Lib.holds_zero0 w 143 (Lib.nDigits u) (by omega)
    have hfmt := Tryz.internal_strconv_formatBase10 w.heap.size 0 24 u (Array.replicate (Lib.nDigits u) 0) (w.alloc (.cells Lib.zeros24 143)) hH0 (by rw [Array.size_replicate]; exact Lib.lt_pow_nDigits u) hu64 (by rw [Array.size_replicate]; omega)
    rw [Array.size_replicate] at hfmt
    have HH0 := Lib.hid hH0
    have HT := Lib.hid htab
    clear hH0 hal htab
    go_enter Tryz.func89, Tryz.ntmps89
    go_wp2_with (first
      | (go_at_call 103; refine (Tryz.internal_strconv_numDigits u hu1 hu64 _ (Lib.tabIs_alloc HT.out _)).mono ?_; rintro e w' ⟨rfl, rfl⟩))
    go_at_call 104
    refine hfmt.mono ?_
    rintro e w' ⟨rfl, k, v', dk, rfl, hF⟩
    have hcv : (convert 92 9 (.slice (some ⟨w.heap.size, 0, none⟩) (Lib.nDigits u) 24)).run Tryz.prog ((putRow (fun (b : UInt8) => Value.int .u8 (b.toNat : Int)) (w.alloc (.cells Lib.zeros24 143)) w.heap.size 0 dk).drewN k) = .ok (.string ⟨(Lib.decDigits u).toArray⟩) ((putRow (fun (b : UInt8) => Value.int .u8 (b.toNat : Int)) (w.alloc (.cells Lib.zeros24 143)) w.heap.size 0 dk).drewN k) := by
      have h := run_convert_bytes_back (P := Tryz.prog) ((putRow (fun (b : UInt8) => Value.int .u8 (b.toNat : Int)) (w.alloc (.cells Lib.zeros24 143)) w.heap.size 0 dk).drewN k) 92 9 5 ⟨w.heap.size, 0, none⟩ 24 (Lib.decDigits u) Tryz.underlying92 Tryz.underlying5 Tryz.underlying9 (fun j hj => by
        rw [Lib.row_is_numeral hF j hj, Lib.add_plain, World.cell?_drewN]
        exact cell?_putRow (fun (b : UInt8) => Value.int .u8 (b.toNat : Int)) _ w.heap.size 0 _ dk HH0.out (by rw [hF.size, Array.size_replicate]) j (by rw [hF.size]; rw [Lib.decDigits_length] at hj; exact hj))
      rw [Lib.decDigits_length] at h
      exact h
    go_wp2
    go_ret
    obtain ⟨os, eo⟩ := Lib.fin_at w (.cells Lib.zeros24 143) dk k 0
    exact ⟨rfl, by rw [eo]; exact below_grow _ _ _⟩

theorem fmt10 {w : World} (u : Nat) (hu64 : u < 18446744073709551616) (E : Env w) :
    Calls Tryz.prog 70 #[.int .u64 u, .int .i64 10] w fun e w' => e = .returned (.string (mk (decDigits u))) ∧ Below w.heap.size w w' := by
  have H := Lib.hid (ifmt10 u hu64 E)
  go_enter Tryz.func70, Tryz.ntmps70
  go_wp2_with (go_at_call 89; refine H.out.mono ?_; rintro e w' ⟨rfl, hb⟩)
  go_ret
  exact ⟨rfl, hb⟩

theorem num_nat (u : Nat) : num u = decDigits u := Lib.itoa_nonneg u

theorem numU64_any {w : World} (u : Nat) (hu64 : u < 18446744073709551616) (E : Env w) :
    Calls Tryz.prog 42 #[.int .u64 u] w fun e w' => e = .returned (.string (mk (num u))) ∧ Below w.heap.size w w' := by
  have H := Lib.hid (fmt10 u hu64 E)
  have N := Lib.hid (num_nat u)
  go_enter Tryz.func42, Tryz.ntmps42
  go_wp2_with (go_at_call 70; refine H.out.mono ?_; rintro e w' ⟨rfl, hb⟩)
  go_ret
  exact ⟨by rw [N.out]; rfl, hb⟩

theorem numAddr_any {w : World} (u : Nat) (hu64 : u < 18446744073709551616) (E : Env w) :
    Calls Tryz.prog 74 #[.int .u64 u] w fun e w' => e = .returned (.string (mk (num u))) ∧ Below w.heap.size w w' := by
  have H := Lib.hid (fmt10 u hu64 E)
  have N := Lib.hid (num_nat u)
  go_enter Tryz.func74, Tryz.ntmps74
  go_wp2_with (go_at_call 70; refine H.out.mono ?_; rintro e w' ⟨rfl, hb⟩)
  go_ret
  exact ⟨by rw [N.out]; rfl, hb⟩

theorem itoa_any {w : World} (n : Int) (h0 : -9223372036854775808 ≤ n) (h1 : n ≤ 9223372036854775807) (E : Env w) :
    Calls Tryz.prog 69 #[.int .i64 n] w fun e w' => e = .returned (.string (mk (num n))) ∧ Below w.heap.size w w' :=
  (Tryz.strconv_Itoa n h0 h1 w E.1).mono fun e w' ⟨he, k, os, hw⟩ => ⟨he, hw ▸ below_grow _ _ _⟩

theorem numInt_any {w : World} (n : Int) (h0 : -9223372036854775808 ≤ n) (h1 : n ≤ 9223372036854775807) (E : Env w) :
    Calls Tryz.prog 37 #[.int .i64 n] w fun e w' => e = .returned (.string (mk (num n))) ∧ Below w.heap.size w w' := by
  by_cases hn : n < 0
  · have H := Lib.hid (itoa_any n h0 h1 E)
    go_enter Tryz.func37, Tryz.ntmps37
    go_wp2_with (go_at_call 69; refine H.out.mono ?_; rintro e w' ⟨rfl, hb⟩)
    go_ret
    exact ⟨rfl, hb⟩
  · obtain ⟨u, rfl⟩ : ∃ u : Nat, n = u := ⟨n.toNat, by omega⟩
    have H := Lib.hid (fmt10 u (by omega) E)
    have N := Lib.hid (num_nat u)
    go_enter Tryz.func37, Tryz.ntmps37
    go_wp2_with (go_at_call 70; refine H.out.mono ?_; rintro e w' ⟨rfl, hb⟩)
    go_ret
    exact ⟨by rw [N.out]; rfl, hb⟩

theorem numErrno_any {w : World} (n : Int) (h0 : -9223372036854775808 ≤ n) (h1 : n ≤ 9223372036854775807) (E : Env w) :
    Calls Tryz.prog 40 #[.int .i64 n] w fun e w' => e = .returned (.string (mk (num n))) ∧ Below w.heap.size w w' := by
  by_cases hn : n < 0
  · have H := Lib.hid (itoa_any n h0 h1 E)
    go_enter Tryz.func40, Tryz.ntmps40
    go_wp2_with (go_at_call 69; refine H.out.mono ?_; rintro e w' ⟨rfl, hb⟩)
    go_ret
    exact ⟨rfl, hb⟩
  · obtain ⟨u, rfl⟩ : ∃ u : Nat, n = u := ⟨n.toNat, by omega⟩
    have H := Lib.hid (fmt10 u (by omega) E)
    have N := Lib.hid (num_nat u)
    go_enter Tryz.func40, Tryz.ntmps40
    go_wp2_with (go_at_call 70; refine H.out.mono ?_; rintro e w' ⟨rfl, hb⟩)
    go_ret
    exact ⟨by rw [N.out]; rfl, hb⟩

end Go.Proofs.YtbpbkmhipbchbaaGreatDoor.sc
