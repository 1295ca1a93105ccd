/-
  PROVED HERE: small functions of geo and bits (within, Slabs, Size, Header, Bits, Blocks, Bytes, Block, bit, Has, All): they only look, or make a little memory. Conditions: slabs 1 .. 64, classes 0 .. 3.
-/
import Derived.Test.YtdbbbaallalhoaaGreatArA
namespace Go.Proofs.YtdbbbaallalhoaaGreat.bt
open Go.RowKit Go.Proofs.YtdbbbaallalhoaaGreat.pm Go.Proofs.YtdbbbaallalhoaaGreat.ar
set_option linter.unusedVariables false

theorem within_yes (n l m : Int) (w : World) (h : l ≤ n) (h2 : n ≤ m) : Calls Tryz.prog 74 #[.int .i64 n, .int .i64 l, .int .i64 m] w fun e w' => e = .returned (.bool true) ∧ w = w' := by
  have b1 : decide (l ≤ n) = true := by simpa using h
  have b2 : decide (n ≤ m) = true := by simpa using h2
  go_enter Tryz.func74, Tryz.ntmps74
  go_wp2
  go_ret
  exact ⟨rfl, rfl⟩
theorem within_no (n l m : Int) (w : World) (h : ¬ (l ≤ n ∧ n ≤ m)) : Calls Tryz.prog 74 #[.int .i64 n, .int .i64 l, .int .i64 m] w fun e w' => e = .returned (.bool false) ∧ w = w' := by
  by_cases hl : l ≤ n
  · have h2 : ¬ n ≤ m := fun hh => h ⟨hl, hh⟩
    go_enter Tryz.func74, Tryz.ntmps74
    go_wp2
    go_ret
    exact ⟨rfl, rfl⟩
  · go_enter Tryz.func74, Tryz.ntmps74
    go_wp2
    go_ret
    exact ⟨rfl, rfl⟩
theorem slabs_any (n S : Nat) (w : World) (hn : n = 1024 * (S + 1)) (h1 : 1 ≤ S) (h2 : S ≤ 64) : Calls Tryz.prog 40 #[.int .i64 n] w fun e w' => e = .returned (.tuple #[.int .i64 S, .bool true]) ∧ w = w' := by
  have e1 : IntKind.i64.wrap ((n : Int).tdiv 1024) = ((S + 1 : Nat) : Int) := by
    have h : (n : Int).tdiv 1024 = ((S + 1 : Nat) : Int) := by rw [Int.tdiv_eq_ediv_of_nonneg (Int.natCast_nonneg n)]; omega
    rw [h]; exact IntWalk.i64_in _ (by omega)
  have e2 : IntKind.i64.wrap (((S + 1 : Nat) : Int) - 1) = (S : Int) := by rw [IntWalk.i64_in _ (by omega)]; omega
  have e3 : (n : Int).tmod 1024 = 0 := by rw [Int.tmod_eq_emod_of_nonneg (Int.natCast_nonneg n)]; omega
  have e4 : (n : Int) / 1024 = ((S + 1 : Nat) : Int) := by omega
  have e5 : (n : Int) % 1024 = 0 := by omega
  have HW := Lib.hid (within_yes (S : Int) 1 64 w (by omega) (by omega))
  obtain ⟨S1, hS1⟩ : ∃ S1, S1 = S + 1 := ⟨_, rfl⟩
  rw [← hS1] at e1 e2 e4
  have hb1 : (1 : Int) ≤ (S1 : Int) := by omega
  have hb2 : (S1 : Int) ≤ 70 := by omega
  have e6 : (S1 : Int) - 1 = (S : Int) := by omega
  clear hn hS1
  go_enter Tryz.func40, Tryz.ntmps40
  go_wp2_with fail
  refine HW.out.mono ?_
  rintro e w' ⟨rfl, rfl⟩
  go_wp2_with fail
  go_ret2
  exact ⟨rfl, rfl⟩
theorem size_any (S : Nat) (w : World) (h1 : 1 ≤ S) (h2 : S ≤ 64) : Calls Tryz.prog 54 #[.int .i64 S] w fun e w' => e = .returned (.int .i64 (1024 * (S + 1) : Nat)) ∧ w = w' := by
  have HW := Lib.hid (within_yes (S : Int) 1 64 w (by omega) (by omega))
  obtain ⟨S1, hS1⟩ : ∃ S1, S1 = S + 1 := ⟨_, rfl⟩
  have e1 : IntKind.i64.wrap (1 + (S : Int)) = (S1 : Int) := by rw [IntWalk.i64_in _ (by omega)]; omega
  have e2 : IntKind.i64.wrap (1024 * (S1 : Int)) = ((1024 * S1 : Nat) : Int) := by rw [IntWalk.i64_in _ (by omega)]; omega
  obtain ⟨n, hn⟩ : ∃ n, n = 1024 * S1 := ⟨_, rfl⟩
  rw [← hn] at e2
  rw [← hS1, ← hn]
  clear hS1 hn
  go_enter Tryz.func54, Tryz.ntmps54
  go_wp2_with fail
  refine HW.out.mono ?_
  rintro e w' ⟨rfl, rfl⟩
  go_wp2_with fail
  go_ret
  exact ⟨rfl, rfl⟩
theorem header_any (i : Nat) (w : World) (h1 : 1 ≤ i) (h2 : i ≤ 64) : Calls Tryz.prog 43 #[.int .i64 i] w fun e w' => e = .returned (.int .u64 (1024 * i : Nat)) ∧ w = w' := by
  have HW := Lib.hid (within_yes (i : Int) 1 64 w (by omega) (by omega))
  have e2 : IntKind.i64.wrap (1024 * (i : Int)) = ((1024 * i : Nat) : Int) := by rw [IntWalk.i64_in _ (by omega)]; omega
  have e3 : IntKind.u64.wrap ((1024 * i : Nat) : Int) = ((1024 * i : Nat) : Int) := by rw [IntWalk.u64_in _ (by omega)]
  obtain ⟨n, hn⟩ : ∃ n, n = 1024 * i := ⟨_, rfl⟩
  rw [← hn] at e2 e3
  rw [← hn]
  clear hn
  go_enter Tryz.func43, Tryz.ntmps43
  go_wp2_with fail
  refine HW.out.mono ?_
  rintro e w' ⟨rfl, rfl⟩
  go_wp2_with fail
  go_ret
  exact ⟨rfl, rfl⟩
theorem hbits_any (i : Nat) (w : World) (h1 : 1 ≤ i) (h2 : i ≤ 64) : Calls Tryz.prog 44 #[.int .i64 i] w fun e w' => e = .returned (.int .u64 (1024 * i + 8 : Nat)) ∧ w = w' := by
  have HW := Lib.hid (header_any i w h1 h2)
  have b0 : ((1024 * i : Nat) : Int) ≠ 0 := by omega
  have e3 : IntKind.u64.wrap (((1024 * i : Nat) : Int) + 8) = ((1024 * i + 8 : Nat) : Int) := by rw [IntWalk.u64_in _ (by omega)]; omega
  obtain ⟨n, hn⟩ : ∃ n, n = 1024 * i := ⟨_, rfl⟩
  obtain ⟨m, hm⟩ : ∃ m, m = n + 8 := ⟨_, rfl⟩
  rw [← hn] at e3 HW b0
  rw [← hn]
  rw [← hm] at e3
  rw [← hm]
  clear hn hm
  have b1 : ((n : Int) == 0) = false := by simp at b0 ⊢; omega
  clear b0
  go_enter Tryz.func44, Tryz.ntmps44
  go_wp2_with fail
  refine HW.out.mono ?_
  rintro e w' ⟨rfl, rfl⟩
  go_wp2_with fail
  refine HW.out.mono ?_
  rintro e w' ⟨rfl, rfl⟩
  go_wp2_with fail
  go_ret
  exact ⟨rfl, rfl⟩

/-- How many blocks a slab of a class has. -/
def bl : Nat → Int
  | 1 => 15
  | 2 => 7
  | 3 => 5
  | _ => 0
theorem bl_le (c : Nat) : 0 ≤ bl c ∧ bl c ≤ 15 := by unfold bl; split <;> omega
theorem blocks0_any (w : World) : Calls Tryz.prog 76 #[] w fun e w' => e = .returned (.agg #[.int .i64 0, .int .i64 15, .int .i64 7, .int .i64 5]) ∧ w' = w.alloc (.cells #[.int .i64 0, .int .i64 15, .int .i64 7, .int .i64 5] 163) := by
  go_enter Tryz.func76, Tryz.ntmps76
  go_wp2_with fail
  exact bodyPost_ret (v := .agg #[.int .i64 0, .int .i64 15, .int .i64 7, .int .i64 5]) (by simp [results, Tryz.results76, go_sem]) rfl ⟨rfl, rfl⟩
theorem blocks_any (c : Nat) (w : World) (hc : c ≤ 3) : Calls Tryz.prog 46 #[.int .i64 c] w fun e w' => e = .returned (.int .i64 (bl c)) ∧ Keeps [] w w' := by
  obtain ⟨W1, hW1⟩ : ∃ W1, W1 = w.alloc (.cells #[.int .i64 0, .int .i64 15, .int .i64 7, .int .i64 5] 163) := ⟨_, rfl⟩
  have hk : Keeps [] w W1 := by rw [hW1]; exact Keeps.alloc _ _
  have HB := Lib.hid (blocks0_any w)
  rw [← hW1] at HB
  obtain ⟨W2, hW2⟩ : ∃ W2, W2 = W1.alloc (.cells #[.int .i64 0, .int .i64 15, .int .i64 7, .int .i64 5] 163) := ⟨_, rfl⟩
  have hk2 : Keeps [] w W2 := by rw [hW2]; exact hk.trans (Keeps.alloc _ _) (by simp)
  have hb2 : W2.heap[W1.heap.size]? = some (.cells #[.int .i64 0, .int .i64 15, .int .i64 7, .int .i64 5] 163 (0, 0)) := by rw [hW2]; exact alloc_new
  have hcell : W2.cell? ⟨W1.heap.size, c, none⟩ = some (.int .i64 (bl c)) := cell_of hb2 (by
    rcases c with _ | _ | _ | _ | c <;> first | rfl | omega)
  have HWi := Lib.hid (within_yes (c : Int) 0 3 W2 (by omega) (by omega))
  have HK := Lib.hid (And.intro hk hk2)
  have hc4 : (c : Int) < 4 := by omega
  obtain ⟨y, hy⟩ : ∃ y, y = bl c := ⟨_, rfl⟩
  rw [← hy] at hcell ⊢
  have hal : W1.alloc (.cells #[.int .i64 0, .int .i64 15, .int .i64 7, .int .i64 5] 163) = W2 := hW2.symm
  clear hW1 hk hk2 hW2 hb2 hy
  go_enter Tryz.func46, Tryz.ntmps46
  go_wp2_with fail
  refine HB.out.mono ?_
  rintro e w1 ⟨rfl, rfl⟩
  go_wp2_with fail
  refine HWi.out.mono ?_
  rintro e w3 ⟨rfl, rfl⟩
  go_wp2_with fail
  go_ret
  exact ⟨rfl, HK.out.2⟩
theorem bytes_any (c : Nat) (w : World) (hc : c ≤ 3) : Calls Tryz.prog 79 #[.int .i64 c] w fun e w' => ∃ y, e = .returned (.int .i64 y) ∧ 0 ≤ y ∧ y ≤ 192 ∧ Keeps [] w w' := by
  have HB := Lib.hid (blocks_any c w hc)
  obtain ⟨y, hy⟩ : ∃ y, y = bl c := ⟨_, rfl⟩
  have hyb := bl_le c
  rw [← hy] at HB hyb
  obtain ⟨z, hz⟩ : ∃ z : Int, z = 64 * (c : Int) := ⟨_, rfl⟩
  have e1 : IntKind.i64.wrap (64 * (c : Int)) = z := by rw [IntWalk.i64_in _ (by omega)]; omega
  obtain ⟨m, hm⟩ : ∃ m : Int, m = if (1 : Int) < y then 1 else y := ⟨_, rfl⟩
  have e2 : (if (1 : Int) < y then 1 else y) = m := hm.symm
  have hmb : 0 ≤ m ∧ m ≤ 1 := by rw [hm]; split <;> omega
  have hzb : 0 ≤ z ∧ z ≤ 192 := by omega
  have hzm : 0 ≤ z * m ∧ z * m ≤ 192 := by
    have : m = 0 ∨ m = 1 := by omega
    rcases this with h | h <;> rw [h] <;> omega
  obtain ⟨r, hr⟩ : ∃ r, r = z * m := ⟨_, rfl⟩
  have e3 : IntKind.i64.wrap (z * m) = r := by rw [← hr] at hzm ⊢; exact IntWalk.i64_in _ (by omega)
  rw [← hr] at hzm
  clear hy hz hm hr
  go_enter Tryz.func79, Tryz.ntmps79
  go_wp2_with fail
  refine HB.out.mono ?_
  rintro e w1 ⟨rfl, hk⟩
  have HK := Lib.hid hk; clear hk
  go_wp2_with fail
  go_ret
  exact ⟨r, rfl, by omega, by omega, HK.out⟩
theorem block_any (i c : Nat) (j : Int) (w : World) (h1 : 1 ≤ i) (h2 : i ≤ 64) (hc : c ≤ 3) : Calls Tryz.prog 49 #[.int .i64 i, .int .i64 c, .int .i64 j] w fun e w' => ∃ y, e = .returned (.int .u64 y) ∧ U64 y ∧ Keeps [] w w' := by
  have HH : Hid (∀ wx, Calls Tryz.prog 43 #[.int .i64 i] wx fun e w' => e = .returned (.int .u64 (1024 * i : Nat)) ∧ wx = w') := Lib.hid fun wx => header_any i wx h1 h2
  have HB : Hid (∀ wx, Calls Tryz.prog 46 #[.int .i64 c] wx fun e w' => e = .returned (.int .i64 (bl c)) ∧ Keeps [] wx w') := Lib.hid fun wx => blocks_any c wx hc
  have HBy : Hid (∀ wx, Calls Tryz.prog 79 #[.int .i64 c] wx fun e w' => ∃ y, e = .returned (.int .i64 y) ∧ 0 ≤ y ∧ y ≤ 192 ∧ Keeps [] wx w') := Lib.hid fun wx => bytes_any c wx hc
  have hyb := bl_le c
  obtain ⟨y, hy⟩ : ∃ y, y = bl c := ⟨_, rfl⟩
  rw [← hy] at HB hyb
  obtain ⟨d, hd⟩ : ∃ d, d = y - 1 := ⟨_, rfl⟩
  have e1 : IntKind.i64.wrap (y - 1) = d := by rw [IntWalk.i64_in _ (by omega)]; omega
  obtain ⟨n, hn⟩ : ∃ n, n = 1024 * i := ⟨_, rfl⟩
  rw [← hn] at HH
  have b0 : ((n : Int) == 0) = false := by simp; omega
  have hnb : n ≤ 70000 := by omega
  clear hy hn
  have HD := Lib.hid hd; clear hd
  go_enter Tryz.func49, Tryz.ntmps49
  go_wp2_with fail
  refine (HH.out _).mono ?_
  rintro e w1 ⟨rfl, rfl⟩
  go_wp2_with fail
  refine (HB.out _).mono ?_
  rintro e w2 ⟨rfl, hk2⟩
  have HK2 := Lib.hid hk2; clear hk2
  by_cases hin : 0 ≤ j ∧ j ≤ d
  · have HW := Lib.hid (within_yes j 0 d w2 hin.1 hin.2)
    have hj : 0 ≤ j ∧ j ≤ 15 := by have := HD.out; omega
    clear hin
    go_wp2_with fail
    refine HW.out.mono ?_
    rintro e w' ⟨rfl, rfl⟩
    go_wp2_with fail
    refine (HH.out _).mono ?_
    rintro e w' ⟨rfl, rfl⟩
    go_wp2_with fail
    refine (HBy.out _).mono ?_
    rintro e w3 ⟨z, rfl, hz1, hz2, hk3⟩
    have HK3 := Lib.hid hk3; clear hk3
    obtain ⟨q, hq⟩ : ∃ q, IntKind.i64.wrap (j * z) = q := ⟨_, rfl⟩
    obtain ⟨r, hr⟩ : ∃ r, IntKind.u64.wrap q = r := ⟨_, rfl⟩
    obtain ⟨t, ht⟩ : ∃ t, IntKind.u64.wrap ((n : Int) + 64 + r) = t := ⟨_, rfl⟩
    have HT := Lib.hid (show U64 t by rw [← ht]; exact u64_wrap _)
    go_wp2_with fail
    go_ret
    exact ⟨t, rfl, HT.out, HK2.out.trans HK3.out (by simp)⟩
  · have HW := Lib.hid (within_no j 0 d w2 hin)
    clear hin
    go_wp2_with fail
    refine HW.out.mono ?_
    rintro e w' ⟨rfl, rfl⟩
    go_wp2_with fail
    go_ret
    exact ⟨0, rfl, ⟨by omega, by omega⟩, HK2.out⟩

theorem bit_any (j : Nat) (w : World) (hj : j < 64) : Calls Tryz.prog 97 #[.int .i64 j] w fun e w' => ∃ y, e = .returned (.int .u64 y) ∧ U64 y ∧ w = w' := by
  have hjI : (j : Int) < 64 := by omega
  go_enter Tryz.func97, Tryz.ntmps97
  go_wp2_with fail
  go_ret
  exact ⟨_, rfl, u64_wrap _, rfl⟩
theorem has_any (x : Int) (j : Nat) (w : World) (hj : j < 64) : Calls Tryz.prog 78 #[.int .u64 x, .int .i64 j] w fun e w' => ∃ b, e = .returned (.bool b) ∧ w = w' := by
  have HB := Lib.hid (bit_any j w hj)
  clear hj
  go_enter Tryz.func78, Tryz.ntmps78
  go_wp2_with fail
  refine HB.out.mono ?_
  rintro e w1 ⟨y, rfl, hy, rfl⟩
  go_wp2_with fail
  go_ret
  exact ⟨_, rfl, rfl⟩
end Go.Proofs.YtdbbbaallalhoaaGreat.bt
