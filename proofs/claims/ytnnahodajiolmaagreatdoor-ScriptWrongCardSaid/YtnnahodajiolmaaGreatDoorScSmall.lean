/-
  ScNum: PROVED HERE: strconv.FormatUint at base 10 (every uint64), and package script's num at its four types: a number's decimal digits. Conditions: the table of powers of ten lies (Env).
  ScHex: PROVED HERE: strconv.FormatUint at base 16 of a byte, word.Hex of a byte, and package script's digits: the hexadecimal digits of a string. Conditions: the library's tables lie (Env); the string is short.
  ScDig: PROVED HERE: package script's digits: the hexadecimal digits of a string. Conditions: the library's tables lie (Env); the string has at most 1000000 bytes.
  ScA: PROVED HERE: slices of strings (StrsAt), and the contracts of package script's smallest functions: kinds, states, ops, name (twice), again, join. Conditions: as each says.
-/
import Derived.Test.YtnnahodajiolmaaGreatDoorScWorld
import Derived.Test.YtnnahodajiolmaaGreatDoorShelf
import Derived.Lib.AppendIntMem
import Derived.Lib.AppendStr
import Derived.Lib.ConvBytes
namespace Go.Proofs.YtnnahodajiolmaaGreatDoor.sc
open Go.RowKit Go.Shelf Go.Sort Go.Lib
set_option linter.unusedVariables false

theorem below_grow (w : World) (k : Nat) (os : Array Obj) : Below w.heap.size w (grow (w.drewN k) os) := by
  refine ⟨rfl, rfl, rfl, ?_, ?_⟩
  · simp [grow, World.drewN]
  · intro b hb
    simp only [grow, World.drewN]
    exact Array.getElem?_append_left hb

set_option maxHeartbeats 3200000 in
set_option maxRecDepth 100000 in
theorem ifmt10 {w : World} (u : Nat) (hu64 : u < 18446744073709551616) (E : Env w) :
    Calls Tryz.prog 105 #[.int .u64 u, .int .i64 10] w fun e w' => e = .returned (.string (mk (decDigits u))) ∧ Below w.heap.size w w' := by
  by_cases hs : u < 100
  · go_enter Tryz.func105, Tryz.ntmps105
    go_wp2_with (go_at_call 157; refine (Tryz.internal_strconv_small u hs _).mono ?_; rintro e w' ⟨rfl, rfl⟩)
    go_ret
    exact ⟨rfl, Below.refl _ _⟩
  · have hu1 : 1 ≤ u := by omega
    have htab := E.1
    have hnd20 : Lib.nDigits u ≤ 20 := by have := Lib.numDigits_eq u hu1 hu64; split at this <;> omega
    have hb3 : Lib.nDigits u ≤ 24 := by omega
    have hal : Tryz.prog.arrayLen 263 = 24 := by kernel_rfl
    have hsl1 : ∀ W, (Instr.sliceAt 263 (.pointer (some ⟨w.heap.size, 0, none⟩)) none (some (.int .i64 (Lib.nDigits u : Int))) none).run Tryz.prog W = .ok (.slice (some ⟨w.heap.size, 0, none⟩) (Lib.nDigits u) 24) W := fun W => by
      rw [run_sliceAt_array_h W 263 ⟨w.heap.size, 0, none⟩ (by simp [Program.arrayLen, Program.elem, Tryz.underlying263]) .i64 (Lib.nDigits u : Int) (by omega) (by rw [hal]; omega)]
      go_simp
    have hH0 := Lib.holds_zero0 w 263 (Lib.nDigits u) (by omega)
    have hfmt := Tryz.internal_strconv_formatBase10 w.heap.size 0 24 u (Array.replicate (Lib.nDigits u) 0) (w.alloc (.cells Lib.zeros24 263)) hH0 (by rw [Array.size_replicate]; exact Lib.lt_pow_nDigits u) hu64 (by rw [Array.size_replicate]; omega)
    rw [Array.size_replicate] at hfmt
    have HH0 := Lib.hid hH0
    have HT := Lib.hid htab
    clear hH0 hal htab
    go_enter Tryz.func105, Tryz.ntmps105
    go_wp2_with (first
      | (go_at_call 158; refine (Tryz.internal_strconv_numDigits u hu1 hu64 _ (Lib.tabIs_alloc HT.out _)).mono ?_; rintro e w' ⟨rfl, rfl⟩))
    go_at_call 159
    refine hfmt.mono ?_
    rintro e w' ⟨rfl, k, v', dk, rfl, hF⟩
    have hcv : (convert 78 9 (.slice (some ⟨w.heap.size, 0, none⟩) (Lib.nDigits u) 24)).run Tryz.prog ((putRow (fun (b : UInt8) => Value.int .u8 (b.toNat : Int)) (w.alloc (.cells Lib.zeros24 263)) w.heap.size 0 dk).drewN k) = .ok (.string ⟨(Lib.decDigits u).toArray⟩) ((putRow (fun (b : UInt8) => Value.int .u8 (b.toNat : Int)) (w.alloc (.cells Lib.zeros24 263)) w.heap.size 0 dk).drewN k) := by
      have h := run_convert_bytes_back (P := Tryz.prog) ((putRow (fun (b : UInt8) => Value.int .u8 (b.toNat : Int)) (w.alloc (.cells Lib.zeros24 263)) w.heap.size 0 dk).drewN k) 78 9 5 ⟨w.heap.size, 0, none⟩ 24 (Lib.decDigits u) Tryz.underlying78 Tryz.underlying5 Tryz.underlying9 (fun j hj => by
        rw [Lib.row_is_numeral hF j hj, Lib.add_plain, World.cell?_drewN]
        exact cell?_putRow (fun (b : UInt8) => Value.int .u8 (b.toNat : Int)) _ w.heap.size 0 _ dk HH0.out (by rw [hF.size, Array.size_replicate]) j (by rw [hF.size]; rw [Lib.decDigits_length] at hj; exact hj))
      rw [Lib.decDigits_length] at h
      exact h
    go_wp2
    go_ret
    obtain ⟨os, eo⟩ := Lib.fin_at w (.cells Lib.zeros24 263) dk k 0
    exact ⟨rfl, by rw [eo]; exact below_grow _ _ _⟩

theorem fmt10 {w : World} (u : Nat) (hu64 : u < 18446744073709551616) (E : Env w) :
    Calls Tryz.prog 63 #[.int .u64 u, .int .i64 10] w fun e w' => e = .returned (.string (mk (decDigits u))) ∧ Below w.heap.size w w' := by
  have H := Lib.hid (ifmt10 u hu64 E)
  go_enter Tryz.func63, Tryz.ntmps63
  go_wp2_with (go_at_call 105; refine H.out.mono ?_; rintro e w' ⟨rfl, hb⟩)
  go_ret
  exact ⟨rfl, hb⟩

theorem num_nat (u : Nat) : num u = decDigits u := Lib.itoa_nonneg u

theorem numU64_any {w : World} (u : Nat) (hu64 : u < 18446744073709551616) (E : Env w) :
    Calls Tryz.prog 37 #[.int .u64 u] w fun e w' => e = .returned (.string (mk (num u))) ∧ Below w.heap.size w w' := by
  have H := Lib.hid (fmt10 u hu64 E)
  have N := Lib.hid (num_nat u)
  go_enter Tryz.func37, Tryz.ntmps37
  go_wp2_with (go_at_call 63; refine H.out.mono ?_; rintro e w' ⟨rfl, hb⟩)
  go_ret
  exact ⟨by rw [N.out]; rfl, hb⟩

theorem numAddr_any {w : World} (u : Nat) (hu64 : u < 18446744073709551616) (E : Env w) :
    Calls Tryz.prog 72 #[.int .u64 u] w fun e w' => e = .returned (.string (mk (num u))) ∧ Below w.heap.size w w' := by
  have H := Lib.hid (fmt10 u hu64 E)
  have N := Lib.hid (num_nat u)
  go_enter Tryz.func72, Tryz.ntmps72
  go_wp2_with (go_at_call 63; refine H.out.mono ?_; rintro e w' ⟨rfl, hb⟩)
  go_ret
  exact ⟨by rw [N.out]; rfl, hb⟩

theorem itoa_any {w : World} (n : Int) (h0 : -9223372036854775808 ≤ n) (h1 : n ≤ 9223372036854775807) (E : Env w) :
    Calls Tryz.prog 62 #[.int .i64 n] w fun e w' => e = .returned (.string (mk (num n))) ∧ Below w.heap.size w w' :=
  (Tryz.strconv_Itoa n h0 h1 w E.1).mono fun e w' ⟨he, k, os, hw⟩ => ⟨he, hw ▸ below_grow _ _ _⟩

theorem numInt_any {w : World} (n : Int) (h0 : -9223372036854775808 ≤ n) (h1 : n ≤ 9223372036854775807) (E : Env w) :
    Calls Tryz.prog 32 #[.int .i64 n] w fun e w' => e = .returned (.string (mk (num n))) ∧ Below w.heap.size w w' := by
  by_cases hn : n < 0
  · have H := Lib.hid (itoa_any n h0 h1 E)
    go_enter Tryz.func32, Tryz.ntmps32
    go_wp2_with (go_at_call 62; refine H.out.mono ?_; rintro e w' ⟨rfl, hb⟩)
    go_ret
    exact ⟨rfl, hb⟩
  · obtain ⟨u, rfl⟩ : ∃ u : Nat, n = u := ⟨n.toNat, by omega⟩
    have H := Lib.hid (fmt10 u (by omega) E)
    have N := Lib.hid (num_nat u)
    go_enter Tryz.func32, Tryz.ntmps32
    go_wp2_with (go_at_call 63; refine H.out.mono ?_; rintro e w' ⟨rfl, hb⟩)
    go_ret
    exact ⟨by rw [N.out]; rfl, hb⟩

theorem numErrno_any {w : World} (n : Int) (h0 : -9223372036854775808 ≤ n) (h1 : n ≤ 9223372036854775807) (E : Env w) :
    Calls Tryz.prog 35 #[.int .i64 n] w fun e w' => e = .returned (.string (mk (num n))) ∧ Below w.heap.size w w' := by
  by_cases hn : n < 0
  · have H := Lib.hid (itoa_any n h0 h1 E)
    go_enter Tryz.func35, Tryz.ntmps35
    go_wp2_with (go_at_call 62; refine H.out.mono ?_; rintro e w' ⟨rfl, hb⟩)
    go_ret
    exact ⟨rfl, hb⟩
  · obtain ⟨u, rfl⟩ : ∃ u : Nat, n = u := ⟨n.toNat, by omega⟩
    have H := Lib.hid (fmt10 u (by omega) E)
    have N := Lib.hid (num_nat u)
    go_enter Tryz.func35, Tryz.ntmps35
    go_wp2_with (go_at_call 63; refine H.out.mono ?_; rintro e w' ⟨rfl, hb⟩)
    go_ret
    exact ⟨by rw [N.out]; rfl, hb⟩

end Go.Proofs.YtnnahodajiolmaaGreatDoor.sc

namespace Go.Proofs.YtnnahodajiolmaaGreatDoor.sc
open Go.RowKit Go.Shelf Go.Sort Go.Lib
set_option linter.unusedVariables false

theorem isPow2_16 (w : World) : Calls Tryz.prog 232 #[.int .i64 16] w fun e w' => e = .returned (.bool true) ∧ w = w' := by
  go_enter Tryz.func232, Tryz.ntmps232
  go_wp2
  go_ret
  exact ⟨rfl, rfl⟩

theorem trail64_16 {w : World} (h : w.cell? ⟨7, 15, none⟩ = some (.int .u8 4)) : Calls Tryz.prog 284 #[.int .u64 16] w fun e w' => e = .returned (.int .i64 4) ∧ w = w' := by
  have key : IntKind.u64.wrap (bits BinOp.and IntKind.u64 16 (IntKind.u64.wrap (-16)) * 285870213051353865) / 288230376151711744 = 15 := by decide +kernel
  go_enter Tryz.func284, Tryz.ntmps284
  go_wp2_with (simp only [key])
  go_ret
  exact ⟨rfl, rfl⟩
theorem trail_16 {w : World} (h : w.cell? ⟨7, 15, none⟩ = some (.int .u8 4)) : Calls Tryz.prog 233 #[.int .u64 16] w fun e w' => e = .returned (.int .i64 4) ∧ w = w' := by
  go_enter Tryz.func233, Tryz.ntmps233
  go_wp2_with (go_at_call 284; refine (trail64_16 h).mono ?_; rintro e w' ⟨rfl, rfl⟩)
  go_ret
  exact ⟨rfl, rfl⟩

/-- The digits' letters. -/
def letters : ByteArray := ⟨#[48, 49, 50, 51, 52, 53, 54, 55, 56, 57, 97, 98, 99, 100, 101, 102, 103, 104, 105, 106, 107, 108, 109, 110, 111, 112, 113, 114, 115, 116, 117, 118, 119, 120, 121, 122]⟩
theorem letter (u : Nat) (hu : u < 16) (h : u < letters.size) : letters[u] = hexd u := by
  have k : ∀ v : Fin 16, letters.data.getD v.val 0 = hexd v.val := by decide +kernel
  have e : letters[u] = letters.data.getD u 0 := by
    have h2 : u < letters.data.size := h
    simp only [Array.getD, dif_pos h2]; rfl
  rw [e]; exact k ⟨u, hu⟩

theorem conv1 (w : World) (x : UInt8) : (convert 78 9 (.slice (some ⟨w.heap.size, 64, none⟩) 1 1)).run Tryz.prog (w.alloc (.cells (Tryz.zeroCells361.setIfInBounds 64 (.int .u8 x.toNat)) 361)) = .ok (.string (mk [x])) (w.alloc (.cells (Tryz.zeroCells361.setIfInBounds 64 (.int .u8 x.toNat)) 361)) := by
  refine run_convert_bytes_back (P := Tryz.prog) _ 78 9 5 ⟨w.heap.size, 64, none⟩ 1 [x] Tryz.underlying78 Tryz.underlying5 Tryz.underlying9 (fun j hj => ?_)
  obtain rfl : j = 0 := by simpa using hj
  rw [Lib.add_plain, World.cell?_alloc_new]
  rfl

set_option maxHeartbeats 3200000 in
set_option maxRecDepth 100000 in
theorem bits16_lo {w : World} (u : Nat) (hu : u < 16) (E : Env w) :
    Calls Tryz.prog 160 #[.slice none 0 0, .int .u64 u, .int .i64 16, .bool false, .bool false] w fun e w' => e = .returned (.tuple #[.slice none 0 0, .string (mk [hexd u])]) ∧ Below w.heap.size w w' := by
  have hc : ∀ o, (w.alloc o).cell? ⟨7, 15, none⟩ = some (.int .u8 4) := fun o => by
    have := E.2.2.2.2.2
    rw [World.cell?_alloc_lt _ _ _ (lt_of_cell this)]; exact this
  have HC := Lib.hid hc; clear hc
  have hcv := conv1 w
  have HL := Lib.hid (letter u hu (by show u < 36; omega))
  go_enter Tryz.func160, Tryz.ntmps160
  go_wp2_with (first
    | (go_at_call 232; refine (isPow2_16 _).mono ?_; rintro e w' ⟨rfl, rfl⟩)
    | (go_at_call 233; refine (trail_16 (HC.out _)).mono ?_; rintro e w' ⟨rfl, rfl⟩))
  go_loopw [1, 13] (fun s1 s13 wr => wr = w.alloc (.cells Tryz.zeroCells361 361) ∧ s1 = .int .u64 u ∧ s13 = .int .i64 65) (fun _ _ _ => 0)
  case atStart => exact ⟨rfl, rfl, rfl⟩
  case round =>
    obtain ⟨rfl, rfl, rfl⟩ := hrel
    go_wp2
    go_ret2
    exact ⟨by rw [← HL.out]; rfl, (Below.refl _ _).alloc (Nat.le_refl _) _⟩

theorem and15 (u : Nat) (hu : u < 256) : bits BinOp.and IntKind.u64 (u : Int) 15 = ((u % 16 : Nat) : Int) := by
  have k : ∀ v : Fin 256, bits BinOp.and IntKind.u64 ((v.val : Nat) : Int) 15 = ((v.val % 16 : Nat) : Int) := by decide +kernel
  exact k ⟨u, hu⟩

theorem conv2 (w : World) (x y : UInt8) : (convert 78 9 (.slice (some ⟨w.heap.size, 63, none⟩) 2 2)).run Tryz.prog (w.alloc (.cells ((Tryz.zeroCells361.setIfInBounds 64 (.int .u8 y.toNat)).setIfInBounds 63 (.int .u8 x.toNat)) 361)) = .ok (.string (mk [x, y])) (w.alloc (.cells ((Tryz.zeroCells361.setIfInBounds 64 (.int .u8 y.toNat)).setIfInBounds 63 (.int .u8 x.toNat)) 361)) := by
  refine run_convert_bytes_back (P := Tryz.prog) _ 78 9 5 ⟨w.heap.size, 63, none⟩ 2 [x, y] Tryz.underlying78 Tryz.underlying5 Tryz.underlying9 (fun j hj => ?_)
  rw [Lib.add_plain, World.cell?_alloc_new]
  match j, hj with
  | 0, _ => rfl
  | 1, _ => rfl

/-- The loop over the digits: ahead of it, and behind one round. -/
def R16 (w : World) (u : Nat) (s1 s13 : Value) (wr : World) : Prop :=
  (wr = w.alloc (.cells Tryz.zeroCells361 361) ∧ s1 = .int .u64 u ∧ s13 = .int .i64 65) ∨ (wr = w.alloc (.cells (Tryz.zeroCells361.setIfInBounds 64 (.int .u8 (hexd (u % 16)).toNat)) 361) ∧ s1 = .int .u64 ((u / 16 : Nat) : Int) ∧ s13 = .int .i64 64)

set_option maxHeartbeats 3200000 in
set_option maxRecDepth 100000 in
theorem bits16_hi {w : World} (u : Nat) (h16 : 16 ≤ u) (hu : u < 256) (E : Env w) :
    Calls Tryz.prog 160 #[.slice none 0 0, .int .u64 u, .int .i64 16, .bool false, .bool false] w fun e w' => e = .returned (.tuple #[.slice none 0 0, .string (mk [hexd (u / 16), hexd (u % 16)])]) ∧ Below w.heap.size w w' := by
  have hc : ∀ o, (w.alloc o).cell? ⟨7, 15, none⟩ = some (.int .u8 4) := fun o => by
    have := E.2.2.2.2.2
    rw [World.cell?_alloc_lt _ _ _ (lt_of_cell this)]; exact this
  have HC := Lib.hid hc; clear hc
  have hcv := conv2 w
  have hand := and15 u hu
  have ha1 : u % 16 < 16 := by omega
  have ha2 : u / 16 < 16 := by omega
  have HL := Lib.hid (letter (u / 16) (by omega) (by show u / 16 < 36; omega))
  have HL2 := Lib.hid (letter (u % 16) (by omega) (by show u % 16 < 36; omega))
  go_enter Tryz.func160, Tryz.ntmps160
  go_wp2_with (first
    | (go_at_call 232; refine (isPow2_16 _).mono ?_; rintro e w' ⟨rfl, rfl⟩)
    | (go_at_call 233; refine (trail_16 (HC.out _)).mono ?_; rintro e w' ⟨rfl, rfl⟩))
  go_loopw [1, 13] (fun s1 s13 wr => R16 w u s1 s13 wr) (fun s1 _ _ => (RowKit.intOf s1).toNat)
  case atStart => exact Or.inl ⟨rfl, rfl, rfl⟩
  case round =>
    rcases hrel with ⟨rfl, rfl, rfl⟩ | ⟨rfl, rfl, rfl⟩
    · go_wp2
      go_roundw
      case rel => exact Or.inr ⟨by rw [← HL2.out]; rfl, rfl, rfl⟩
      case measure => simp [RowKit.intOf]; omega
    · go_wp2
      go_ret2
      exact ⟨by rw [← HL.out]; rfl, (Below.refl _ _).alloc (Nat.le_refl _) _⟩

/-- A byte's digits without a leading 0. -/
def hexS (u : Nat) : Bs := if u < 16 then [hexd u] else [hexd (u / 16), hexd (u % 16)]

theorem ifmt16 {w : World} (u : Nat) (hu : u < 256) (E : Env w) :
    Calls Tryz.prog 105 #[.int .u64 u, .int .i64 16] w fun e w' => e = .returned (.string (mk (hexS u))) ∧ Below w.heap.size w w' := by
  by_cases h : u < 16
  · have H := Lib.hid (bits16_lo u h E)
    have S := Lib.hid (show hexS u = [hexd u] from if_pos h)
    go_enter Tryz.func105, Tryz.ntmps105
    go_wp2_with (go_at_call 160; refine H.out.mono ?_; rintro e w' ⟨rfl, hb⟩)
    go_ret
    exact ⟨by rw [S.out]; rfl, hb⟩
  · have H := Lib.hid (bits16_hi u (by omega) hu E)
    have S := Lib.hid (show hexS u = [hexd (u / 16), hexd (u % 16)] from if_neg h)
    go_enter Tryz.func105, Tryz.ntmps105
    go_wp2_with (go_at_call 160; refine H.out.mono ?_; rintro e w' ⟨rfl, hb⟩)
    go_ret
    exact ⟨by rw [S.out]; rfl, hb⟩

theorem fmt16 {w : World} (u : Nat) (hu : u < 256) (E : Env w) :
    Calls Tryz.prog 63 #[.int .u64 u, .int .i64 16] w fun e w' => e = .returned (.string (mk (hexS u))) ∧ Below w.heap.size w w' := by
  have H := Lib.hid (ifmt16 u hu E)
  go_enter Tryz.func63, Tryz.ntmps63
  go_wp2_with (go_at_call 105; refine H.out.mono ?_; rintro e w' ⟨rfl, hb⟩)
  go_ret
  exact ⟨rfl, hb⟩

def hexW (u : Nat) : Bs := List.replicate 14 48 ++ [hexd (u / 16), hexd (u % 16)]
theorem hexW_of (u : Nat) (hu : u < 256) : Lib.repeatL [48] (16 - (hexS u).length) ++ hexS u = hexW u := by
  have k : ∀ v : Fin 256, Lib.repeatL [48] (16 - (hexS v.val).length) ++ hexS v.val = hexW v.val := by decide +kernel
  exact k ⟨u, hu⟩

theorem hexS_len (u : Nat) : 1 ≤ (hexS u).length ∧ (hexS u).length ≤ 2 := by unfold hexS; split <;> simp

theorem wordHex_any {w : World} (u : Nat) (hu : u < 256) (E : Env w) :
    Calls Tryz.prog 64 #[.int .u64 u] w fun e w' => e = .returned (.string (mk (hexW u))) ∧ Below w.heap.size w w' := by
  have H := Lib.hid (fmt16 u hu E)
  have hl := hexS_len u
  have hL := Lib.hid (hexW_of u hu)
  obtain ⟨hl1, hl2⟩ := hl
  go_enter Tryz.func64, Tryz.ntmps64
  go_wp2_with fail
  refine H.out.mono ?_; rintro e w1 ⟨rfl, hb⟩
  go_wp2_with fail
  rw [show (16 : Int) - ((hexS u).length : Int) = ((16 - (hexS u).length : Nat) : Int) by omega]
  refine (Tryz.strings_Repeat ⟨#[48]⟩ (16 - (hexS u).length) w1 (by omega) (by show 1 * _ ≤ _; omega)).mono ?_; rintro e w2 ⟨rfl, hb2⟩
  have hr : (Lib.repeatL [48] (16 - (hexS u).length)).length ≤ 16 := by rw [Lib.repeatL_length]; simp
  go_wp2_with fail
  go_ret
  refine ⟨?_, hb.trans (hb2.mono hb.size)⟩
  rw [← hL.out]
  show Ending.returned (.string (mk (Lib.repeatL [48] (16 - (hexS u).length)) ++ mk (hexS u))) = _
  rw [mk_append]

end Go.Proofs.YtnnahodajiolmaaGreatDoor.sc

namespace Go.Proofs.YtnnahodajiolmaaGreatDoor.sc
open Go.RowKit Go.Shelf Go.Sort Go.Lib
set_option linter.unusedVariables false

theorem u8Info : (Tryz.prog.info? 5).map (fun i => (i.zero, i.size, i.bytes)) = some (some (.int .u8 0), 1, 1) := by kernel_rfl
def bytesV (l : Bs) : List Value := l.map fun b => .int .u8 b.toNat
theorem bytesV_append (a b : Bs) : bytesV (a ++ b) = bytesV a ++ bytesV b := by simp [bytesV]

theorem hexW_drop (u : Nat) : (hexW u).drop 14 = [hexd (u / 16), hexd (u % 16)] := by
  rw [hexW, List.drop_append]; simp
theorem hexW_len (u : Nat) : (hexW u).length = 16 := by simp [hexW]
theorem mk_drop (l : Bs) (k : Nat) : (mk l).extract k l.length = mk (l.drop k) := by
  rw [← mk_size l, ← mk_data ((mk l).extract k (mk l).size), Lib.extract_to_end, of_mk]
theorem below_bytesWorld (w : World) (e : TypeId) (s : ByteArray) : Below w.heap.size w (Lib.bytesWorld w e s) :=
  ⟨rfl, rfl, rfl, by rw [Lib.bytesWorld_size]; omega, fun b hb => Lib.bytesWorld_at_old w e s b hb⟩

theorem flat_len (l : Bs) : (l.flatMap hex2).length = 2 * l.length := by
  induction l with
  | nil => rfl
  | cons a r ih => simp [hex2, ih]; omega

set_option maxHeartbeats 3200000 in
set_option maxRecDepth 100000 in
theorem digits_any {w : World} (l : Bs) (hl : l.length ≤ 1000000) (E : Env w) :
    Calls Tryz.prog 36 #[.string (mk l)] w fun e w' => e = .returned (.string (mk (digits l))) ∧ Below w.heap.size w w' := by
  have hcv := Lib.run_convert_string_bytes (P := Tryz.prog) w 9 78 5 (mk l) Tryz.underlying9 Tryz.underlying78 Tryz.underlying5
  obtain ⟨i0, hi0, hz0, hz1, hz2⟩ := info_parts u8Info
  go_enter Tryz.func36, Tryz.ntmps36
  go_wp2
  clear hcv
  have hB0 := below_bytesWorld w 5 (mk l)
  have hcells : ∀ j, j < l.length → (Lib.bytesWorld w 5 (mk l)).cell? ⟨w.heap.size, j, none⟩ = some (.int .u8 (l.getD j 0).toNat) := fun j hj => by
    have := Lib.bytesWorld_cell w 5 (mk l) j (by rw [mk_size]; exact hj)
    rw [of_mk] at this; exact this
  have hsz := Lib.bytesWorld_size w 5 (mk l)
  obtain ⟨W, hW⟩ : ∃ W, W = Lib.bytesWorld w 5 (mk l) := ⟨_, rfl⟩
  rw [← hW] at hB0 hcells hsz ⊢
  clear hW
  have HC := Lib.hid hcells; clear hcells
  have HS := Lib.hid hsz; clear hsz
  have EW := E.next hB0
  go_loopw [3, 9] (fun s3 s9 wr => ∃ k : Nat, k ≤ l.length ∧ s9 = .int .i64 k ∧ wr.ownsRow (w.heap.size + 1) 5 1 s3 (2 * k) (bytesV ((l.take k).flatMap hex2)) ∧ Below (w.heap.size + 1) W wr) (fun _ s9 _ => l.length - (RowKit.intOf s9).toNat)
  case atStart => exact ⟨0, Nat.zero_le _, rfl, World.ownsRow_nil _ _ _ _, Below.refl _ _⟩
  case round =>
    obtain ⟨k, hk, rfl, hown, hbel⟩ := hrel
    by_cases hlt : k < l.length
    · obtain ⟨x, hx⟩ : ∃ x, l[k]? = some x := ⟨_, List.getElem?_eq_getElem hlt⟩
      have c0 : wr.cell? ⟨w.heap.size, k, none⟩ = some (.int .u8 x.toNat) := by
        rw [hbel.cell (p := ⟨w.heap.size, k, none⟩) (Nat.lt_succ_self _), HC.out k hlt]
        simp [List.getD, hx]
      have hxb : x.toNat < 256 := x.toNat_lt
      have HX := Lib.hid hx; clear hx
      have EV := Lib.hid (EW.below hbel (by rw [HS.out]; exact Nat.le_refl _))
      go_wp2_with fail
      refine (wordHex_any x.toNat hxb EV.out).mono ?_; rintro e w1 ⟨rfl, hb1⟩
      have o1 := own_next hown hb1
      clear c0
      have h14 : 14 ≤ (hexW x.toNat).length := by rw [hexW_len]; decide
      have hs3 : ∀ g, u3.ownBlock = some g → w.heap.size + 1 ≤ g := fun g hg => (hown.lt g hg).1
      have HS3 := Lib.hid hs3; clear hs3
      go_wp2_with (at_builtin; refine Lib.wpList_append_own_string _ rfl _ _ 78 9 rfl (w.heap.size + 1) 5 i0 Tryz.underlying78 Tryz.underlying9 hi0 hz0 hz1 hz2 _ (2 * k) _ rfl o1 (mk [hexd (x.toNat / 16), hexd (x.toNat % 16)]) ?hs ?h63 ?hby ?hbase ?_)
      case hs =>
        show Value.string ((mk (hexW x.toNat)).extract 14 (hexW x.toNat).length) = _
        rw [mk_drop, hexW_drop]
      case h63 => rw [mk_size]; unfold maxLen; simp; omega
      case hby => rw [mk_size]; simp; omega
      case hbase => have := hbel.size; have := hb1.size; have := HS.out; omega
      intro v' w2 o2 g2 _
      go_wp2_with fail
      go_roundw
      case rel =>
        refine ⟨k + 1, by omega, by go_num, ?_, ?_⟩
        · have e : l.take (k + 1) = l.take k ++ [x] := by rw [List.take_add_one, HX.out]; rfl
          rw [e, List.flatMap_append, bytesV_append]
          exact o2
        · have h3 : Below (w.heap.size + 1) W w1 := hbel.trans (hb1.mono (by have := hbel.size; have := HS.out; omega))
          exact h3.grown g2 (by have := h3.size; have := HS.out; omega) HS3.out
      case measure => simp [RowKit.intOf]; omega
    · obtain rfl : k = l.length := by omega
      rw [List.take_length] at hown
      have hfin : Below w.heap.size w wr := hB0.trans (hbel.mono (by omega))
      have HF := Lib.hid hfin; clear hfin
      by_cases h0 : l = []
      · subst h0
        obtain ⟨A, c, rfl⟩ : ∃ A c, u3 = .slice A 0 c := by
          rcases hown.2 with ⟨e, _⟩ | ⟨g, cap, cur, e, _⟩
          · exact ⟨_, _, e⟩
          · exact ⟨_, _, e⟩
        go_wp2_with fail
        go_ret
        exact ⟨rfl, HF.out⟩
      · have hl0 : 0 < l.length := List.length_pos_iff.2 h0
        obtain ⟨g, cap, rfl, hg, hlt2⟩ := hown.form (by omega)
        have hb0 : ((((2 * l.length : Nat) : Int)) == 0) = false := by simp; omega
        have hcv2 := run_convert_bytes_back (P := Tryz.prog) wr 78 9 5 ⟨g, 0, none⟩ cap (l.flatMap hex2) Tryz.underlying78 Tryz.underlying5 Tryz.underlying9 (fun j hj => hown.cells (g := g) rfl j _ (by rw [bytesV, List.getElem?_map, List.getElem?_eq_getElem hj]; rfl))
        rw [flat_len] at hcv2
        have HD := Lib.hid (show digits l = l.flatMap hex2 from if_neg h0)
        go_wp2_with fail
        go_ret
        exact ⟨by rw [HD.out]; rfl, HF.out⟩

end Go.Proofs.YtnnahodajiolmaaGreatDoor.sc

namespace Go.Proofs.YtnnahodajiolmaaGreatDoor.sc
open Go.RowKit
set_option linter.unusedVariables false

/-! ### A slice of strings -/
def StrsAt (w : World) (v : Value) (l : List Bs) : Prop :=
  ∃ A c, v = .slice A l.length c ∧ l.length ≤ c ∧ (0 < l.length → ∃ b o, A = some ⟨b, o, none⟩ ∧ b < w.heap.size ∧ ∀ j x, l[j]? = some x → w.cell? ⟨b, o + j, none⟩ = some (.string (mk x)))

theorem StrsAt.below {w w' : World} {v : Value} {l : List Bs} {B : Nat} (h : StrsAt w v l) (hb : Below B w w') (hB : w.heap.size ≤ B) : StrsAt w' v l := by
  obtain ⟨A, c, h1, h2, h3⟩ := h
  refine ⟨A, c, h1, h2, fun hn => ?_⟩
  obtain ⟨b, o, e, hlt, hc⟩ := h3 hn
  exact ⟨b, o, e, Nat.lt_of_lt_of_le hlt (by have := hb.size; omega), fun j x hj => by rw [hb.cell (p := ⟨b, o + j, none⟩) (show b < B by omega)]; exact hc j x hj⟩
theorem StrsAt.next {w w' : World} {v : Value} {l : List Bs} (h : StrsAt w v l) (hb : Below w.heap.size w w') : StrsAt w' v l := h.below hb (Nat.le_refl _)
theorem add_plain (b o j : Nat) : (⟨b, o, none⟩ : Addr).add j = ⟨b, o + j, none⟩ := by
  unfold Addr.add; by_cases h : j = 0 <;> simp [h]
theorem StrsAt.of_own {w : World} {base : Nat} {v : Value} {l : List Bs} {n : Nat} (h : w.ownsRow base 9 1 v n (strs l)) : StrsAt w v l := by
  have hn : l.length = n := by have := h.1; rw [strs_length] at this; omega
  subst hn
  rcases h.2 with ⟨rfl, h0⟩ | ⟨g, cap, cur, rfl, h1, h2, h3, h4, h5, h6⟩
  · exact ⟨none, 0, by rw [h0], by omega, fun hn => by omega⟩
  · refine ⟨_, cap, rfl, h3, fun hn => ⟨g, 0, rfl, ?_, fun j x hj => ?_⟩⟩
    · exact (h.lt g rfl).2
    · have := h.cells (g := g) rfl j _ (strs_get hj)
      rw [add_plain] at this; exact this
theorem StrsAt.len {w : World} {v : Value} {l : List Bs} (h : StrsAt w v l) : ∃ A c, v = .slice A l.length c := by
  obtain ⟨A, c, e, _⟩ := h; exact ⟨A, c, e⟩
theorem StrsAt.cell {w : World} {A : Option Addr} {n c : Nat} {l : List Bs} (h : StrsAt w (.slice A n c) l) {k : Nat} {x : Bs} (hk : l[k]? = some x) : ∃ b o, A = some ⟨b, o, none⟩ ∧ n = l.length ∧ w.cell? ⟨b, o + k, none⟩ = some (.string (mk x)) := by
  obtain ⟨A', c', e, _, h3⟩ := h
  cases e
  have hl : k < l.length := (List.getElem?_eq_some_iff.1 hk).1
  obtain ⟨b, o, e, _, hc⟩ := h3 (by omega)
  exact ⟨b, o, e, rfl, hc k x hk⟩

/-! ### A slice of cells -/
def RowR (w : World) (v : Value) (n size : Nat) (cs : List Value) : Prop :=
  ∃ A c, v = .slice A n c ∧ n ≤ c ∧ cs.length = n * size ∧ (0 < n → ∃ b o, A = some ⟨b, o, none⟩ ∧ b < w.heap.size ∧ ∀ j u, cs[j]? = some u → w.cell? ⟨b, o + j, none⟩ = some u)
theorem RowR.below {w w' : World} {v : Value} {n size : Nat} {cs : List Value} {B : Nat} (h : RowR w v n size cs) (hb : Below B w w') (hB : w.heap.size ≤ B) : RowR w' v n size cs := by
  obtain ⟨A, c, h1, h2, h4, h3⟩ := h
  refine ⟨A, c, h1, h2, h4, fun hn => ?_⟩
  obtain ⟨b, o, e, hlt, hc⟩ := h3 hn
  exact ⟨b, o, e, Nat.lt_of_lt_of_le hlt (by have := hb.size; omega), fun j x hj => by rw [hb.cell (p := ⟨b, o + j, none⟩) (show b < B by omega)]; exact hc j x hj⟩
theorem RowR.next {w w' : World} {v : Value} {n size : Nat} {cs : List Value} (h : RowR w v n size cs) (hb : Below w.heap.size w w') : RowR w' v n size cs := h.below hb (Nat.le_refl _)
theorem RowR.nil (w : World) (size : Nat) : RowR w (.slice none 0 0) 0 size [] := ⟨none, 0, rfl, Nat.le_refl _, by simp, fun h => by omega⟩
theorem RowR.of_own {w : World} {base size : Nat} {T : TypeId} {v : Value} {n : Nat} {cs : List Value} (h : w.ownsRow base T size v n cs) : RowR w v n size cs := by
  have h0 := h.1
  rcases h.2 with ⟨rfl, h0'⟩ | ⟨g, cap, cur, rfl, h1, h2, h3, h4, h5, h6⟩
  · exact ⟨none, 0, by rw [h0'], by omega, h0, fun hn => by omega⟩
  · refine ⟨_, cap, rfl, h3, h0, fun hn => ⟨g, 0, rfl, (h.lt g rfl).2, fun j x hj => ?_⟩⟩
    have := h.cells (g := g) rfl j _ hj
    rw [add_plain] at this; exact this
theorem RowR.len {w : World} {v : Value} {n size : Nat} {cs : List Value} (h : RowR w v n size cs) : ∃ A c, v = .slice A n c := by
  obtain ⟨A, c, e, _⟩ := h; exact ⟨A, c, e⟩

theorem strInfo : (Tryz.prog.info? 9).map (fun i => (i.zero, i.size, i.bytes)) = some (some (.string ByteArray.empty), 1, 16) := by kernel_rfl
theorem StrsAt.reads {w : World} {A : Option Addr} {n c : Nat} {l : List Bs} (h : StrsAt w (.slice A n c) l) : n = l.length ∧ Reads w w.heap.size 1 A n (strs l) := by
  obtain ⟨A', c', e, _, h3⟩ := h
  cases e
  refine ⟨rfl, by rw [strs_length]; omega, fun hn => ?_⟩
  obtain ⟨b, o, e, hlt, hc⟩ := h3 hn
  refine ⟨_, e, hlt, fun j u hj => ?_⟩
  rw [strs, List.getElem?_map] at hj
  obtain ⟨x, hx, rfl⟩ := Option.map_eq_some_iff.1 hj
  rw [add_plain]; exact hc j x hx
theorem strs_one (l : List Bs) : ∀ u ∈ strs l, u.oneCell' = true := by
  intro u hu
  obtain ⟨x, _, rfl⟩ := List.mem_map.1 hu
  rfl
theorem strs_append (a b : List Bs) : strs (a ++ b) = strs a ++ strs b := by simp [strs]

/-- What an append to a row of the call's own (base) leaves: all below the base, all other blocks. -/
structure Grew (base : Nat) (v : Value) (w : World) (v' : Value) (w' : World) : Prop where
  below : Below base w w'
  far : ∀ b, b < w.heap.size → v.ownBlock ≠ some b → w'.heap[b]? = w.heap[b]?
  own : ∀ b, b < w.heap.size → v.ownBlock ≠ some b → v'.ownBlock ≠ some b
theorem Grew.of {base n : Nat} {e : TypeId} {size : Nat} {v v' : Value} {w w' : World} {xs : List Value} (hown : w.ownsRow base e size v n xs) (h3 : w.grownBy w' v.ownBlock) (h4 : v'.ownBlock = v.ownBlock ∨ v'.ownBlock = some w.heap.size) (hbase : base ≤ w.heap.size) : Grew base v w v' w' :=
  ⟨(Below.refl _ _).grown h3 hbase (fun k hk => (hown.lt k hk).1), fun b hb hne => h3.block b hb (Ne.symm hne), fun b hb hne => by
    rcases h4 with e | e
    · rw [e]; exact hne
    · rw [e]; intro h; injection h with h; omega⟩
theorem Blk.grew {base g : Nat} {t : TypeId} {cs : Array Value} {v v' : Value} {w w' : World} (h : Blk w g t cs) (G : Grew base v w v' w') (hne : v.ownBlock ≠ some g) : Blk w' g t cs := (G.far g h.lt hne).trans h

section
variable {w : World} {ops : Array Oper} {o : Oper} {a : Act}
/-- A slice of the call's own and strings of any slice: append. -/
theorem wpList_app_strs {rest : List Oper} {Q : Exit → Act → World → Prop} (hgd : o.guard = none) (s x : Operand)
    (ho : o.op = .call { callee := .builtin .append, args := #[s, x], argTypes := #[22, 22] })
    (base : Nat) (v : Value) (n : Nat) (l : List Bs) (hs : a.eval s = v) (hown : w.ownsRow base 9 1 v n (strs l))
    (vx : Value) (m : List Bs) (hx : a.eval x = vx) (hr : StrsAt w vx m) (hfew : n + m.length ≤ 1000000000) (hbase : base ≤ w.heap.size)
    (h : ∀ v' w', w'.ownsRow base 9 1 v' (n + m.length) (strs (l ++ m)) → Grew base v w v' w' → wpList Tryz.prog ops Q rest (a.put o.dst v') w') : wpList Tryz.prog ops Q (o :: rest) a w := by
  obtain ⟨A, c, rfl⟩ := hr.len
  obtain ⟨_, hr2⟩ := hr.reads
  obtain ⟨i0, hi0, hz0, hz1, hz2⟩ := info_parts strInfo
  refine wpList_append_any w hgd s x 22 ho base 9 i0 _ 1 16 Tryz.underlying22 hi0 hz0 hz1 hz2 rfl (by omega) v n _ hs hown _ A m.length c _ hx hr2 (strs_one m) (by unfold maxLen; omega) (by omega) hbase fun v' w' h2 h3 h4 => h v' w' ?_ ?_
  · rw [strs_append]; exact h2
  · exact Grew.of hown h3 h4 hbase
theorem step_app_strs {K : Act → World → Prop} {Q : Exit → Act → World → Prop} {E : Prop} (hgd : o.guard = none) (s x : Operand)
    (ho : o.op = .call { callee := .builtin .append, args := #[s, x], argTypes := #[22, 22] })
    (base : Nat) (v : Value) (n : Nat) (l : List Bs) (hs : a.eval s = v) (hown : w.ownsRow base 9 1 v n (strs l))
    (vx : Value) (m : List Bs) (hx : a.eval x = vx) (hr : StrsAt w vx m) (hfew : n + m.length ≤ 1000000000) (hbase : base ≤ w.heap.size)
    (h : ∀ v' w', w'.ownsRow base 9 1 v' (n + m.length) (strs (l ++ m)) → Grew base v w v' w' → K (a.put o.dst v') w') :
    if Region.wanted o (yielded ops a.tmps) = true then Oper.wp Tryz.prog o a w K Q else E := by
  obtain ⟨A, c, rfl⟩ := hr.len
  obtain ⟨_, hr2⟩ := hr.reads
  obtain ⟨i0, hi0, hz0, hz1, hz2⟩ := info_parts strInfo
  refine step_append_any w hgd s x 22 ho base 9 i0 _ 1 16 Tryz.underlying22 hi0 hz0 hz1 hz2 rfl (by omega) v n _ hs hown _ A m.length c _ hx hr2 (strs_one m) (by unfold maxLen; omega) (by omega) hbase fun v' w' h2 h3 h4 => h v' w' ?_ ?_
  · rw [strs_append]; exact h2
  · exact Grew.of hown h3 h4 hbase
end
/-- A literal slice of strings. -/
theorem own_lit (w : World) (l : List Bs) {base : Nat} (hb : base ≤ w.heap.size) (hm : l.length ≤ 1000000000) :
    (w.alloc (.cells (strs l).toArray 9)).ownsRow base 9 1 (.slice (some ⟨w.heap.size, 0, none⟩) l.length l.length) l.length (strs l) :=
  World.ownsRow_lit (base := base) (e := 9) (size := 1) w (strs l).toArray l.length hb (by unfold maxLen; omega) (by simp [strs])
theorem lit_strs (w : World) (l : List Bs) (hm : l.length ≤ 1000000000) :
    StrsAt (w.alloc (.cells (strs l).toArray 9)) (.slice (some ⟨w.heap.size, 0, none⟩) l.length l.length) l :=
  StrsAt.of_own (own_lit w l (Nat.zero_le _) hm)

set_option maxRecDepth 100000 in
theorem kinds_any (w : World) : Calls Tryz.prog 30 #[] w fun e w' => e = .returned (.agg #[.string (mk sNone), .string (mk sInvoke), .string (mk sPick), .string (mk sEvict), .string (mk sCrash), .string (mk sOpen), .string (mk sScavenge), .string (mk sBoot)]) ∧ Below w.heap.size w w' := by
  go_enter Tryz.func30, Tryz.ntmps30
  go_wp2
  exact bodyPost_ret (v := .agg #[.string (mk sNone), .string (mk sInvoke), .string (mk sPick), .string (mk sEvict), .string (mk sCrash), .string (mk sOpen), .string (mk sScavenge), .string (mk sBoot)]) (by simp [results, Tryz.results30, go_sem, mk, sNone, sInvoke, sPick, sEvict, sCrash, sOpen, sScavenge, sBoot]) rfl ⟨rfl, (Below.refl _ _).alloc (Nat.le_refl _) _⟩
set_option maxRecDepth 100000 in
theorem states_any (w : World) : Calls Tryz.prog 31 #[] w fun e w' => e = .returned (.agg #[.string (mk sNone), .string (mk sClosed), .string (mk sOpening), .string (mk sOpened), .string (mk sScavenging), .string (mk sReady), .string (mk sReadonly)]) ∧ Below w.heap.size w w' := by
  go_enter Tryz.func31, Tryz.ntmps31
  go_wp2
  exact bodyPost_ret (v := .agg #[.string (mk sNone), .string (mk sClosed), .string (mk sOpening), .string (mk sOpened), .string (mk sScavenging), .string (mk sReady), .string (mk sReadonly)]) (by simp [results, Tryz.results31, go_sem, mk, sNone, sClosed, sOpening, sOpened, sScavenging, sReady, sReadonly]) rfl ⟨rfl, (Below.refl _ _).alloc (Nat.le_refl _) _⟩
set_option maxRecDepth 100000 in
theorem ops_any (w : World) : Calls Tryz.prog 78 #[] w fun e w' => e = .returned (.agg #[.string (mk sNone), .string (mk sPut), .string (mk sGet), .string (mk sDelete), .string (mk sScan)]) ∧ Below w.heap.size w w' := by
  go_enter Tryz.func78, Tryz.ntmps78
  go_wp2
  exact bodyPost_ret (v := .agg #[.string (mk sNone), .string (mk sPut), .string (mk sGet), .string (mk sDelete), .string (mk sScan)]) (by simp [results, Tryz.results78, go_sem, mk, sNone, sPut, sGet, sDelete, sScan]) rfl ⟨rfl, (Below.refl _ _).alloc (Nat.le_refl _) _⟩

theorem kinds_row {w : World} {b : Nat} {T : TypeId} (h : Blk w b T #[.string (mk sNone), .string (mk sInvoke), .string (mk sPick), .string (mk sEvict), .string (mk sCrash), .string (mk sOpen), .string (mk sScavenge), .string (mk sBoot)]) : StrsAt w (.slice (some ⟨b, 0, none⟩) 8 8) kindsL :=
  ⟨_, _, rfl, Nat.le_refl _, fun _ => ⟨b, 0, rfl, h.lt, fun j x hj => by
    rw [Nat.zero_add, h.cell]
    have e : (strs kindsL)[j]? = some (.string (mk x)) := strs_get hj
    rw [← e, ← Array.getElem?_toList]; rfl⟩⟩
theorem states_row {w : World} {b : Nat} {T : TypeId} (h : Blk w b T #[.string (mk sNone), .string (mk sClosed), .string (mk sOpening), .string (mk sOpened), .string (mk sScavenging), .string (mk sReady), .string (mk sReadonly)]) : StrsAt w (.slice (some ⟨b, 0, none⟩) 7 7) statesL :=
  ⟨_, _, rfl, Nat.le_refl _, fun _ => ⟨b, 0, rfl, h.lt, fun j x hj => by
    rw [Nat.zero_add, h.cell]
    have e : (strs statesL)[j]? = some (.string (mk x)) := strs_get hj
    rw [← e, ← Array.getElem?_toList]; rfl⟩⟩
theorem ops_row {w : World} {b : Nat} {T : TypeId} (h : Blk w b T #[.string (mk sNone), .string (mk sPut), .string (mk sGet), .string (mk sDelete), .string (mk sScan)]) : StrsAt w (.slice (some ⟨b, 0, none⟩) 5 5) opsL :=
  ⟨_, _, rfl, Nat.le_refl _, fun _ => ⟨b, 0, rfl, h.lt, fun j x hj => by
    rw [Nat.zero_add, h.cell]
    have e : (strs opsL)[j]? = some (.string (mk x)) := strs_get hj
    rw [← e, ← Array.getElem?_toList]; rfl⟩⟩
/-- One of some names, or the first one. -/
def nameL (l : List Bs) (i : Int) : Bs := if i < 0 ∨ (l.length : Int) ≤ i then l.getD 0 [] else l.getD i.toNat []

theorem getD_get {l : List Bs} {k : Nat} (h : k < l.length) : l[k]? = some (l.getD k []) := by simp [h]

theorem nameKind_any {w : World} {A : Option Addr} {c : Nat} {l : List Bs} (i : Int) (h : StrsAt w (.slice A l.length c) l) (h0 : 0 < l.length) (h1 : l.length ≤ 100) :
    Calls Tryz.prog 33 #[.slice A l.length c, .int .i64 i] w fun e w' => e = .returned (.string (mk (nameL l i))) ∧ Below w.heap.size w w' := by
  obtain ⟨x, hx⟩ : ∃ x, l[0]? = some x := ⟨_, List.getElem?_eq_getElem h0⟩
  obtain ⟨b, o, rfl, _, c0⟩ := h.cell hx
  rw [Nat.add_zero] at c0
  have hx0 : l.getD 0 [] = x := by rw [List.getD, hx]; rfl
  by_cases hi : i < 0
  · have N := Lib.hid (show nameL l i = x from (if_pos (Or.inl hi)).trans hx0)
    clear hx hx0
    go_enter Tryz.func33, Tryz.ntmps33
    go_wp2
    go_ret
    exact ⟨by rw [N.out]; rfl, Below.refl _ _⟩
  · by_cases hj : (l.length : Int) ≤ i
    · have N := Lib.hid (show nameL l i = x from (if_pos (Or.inr hj)).trans hx0)
      clear hx hx0
      go_enter Tryz.func33, Tryz.ntmps33
      go_wp2
      go_ret
      exact ⟨by rw [N.out]; rfl, Below.refl _ _⟩
    · obtain ⟨k, rfl⟩ : ∃ k : Nat, i = k := ⟨i.toNat, by omega⟩
      have hk : k < l.length := by omega
      obtain ⟨y, hy⟩ : ∃ y, l[k]? = some y := ⟨_, List.getElem?_eq_getElem hk⟩
      have N := Lib.hid (show nameL l k = y from (if_neg (by omega)).trans (by rw [Int.toNat_natCast, List.getD, hy]; rfl))
      obtain ⟨b', o', e', _, c1⟩ := h.cell hy
      cases e'
      clear hx hx0 hy c0
      go_enter Tryz.func33, Tryz.ntmps33
      go_wp2
      go_ret
      exact ⟨by rw [N.out]; rfl, Below.refl _ _⟩

theorem nameState_any {w : World} {A : Option Addr} {c : Nat} {l : List Bs} (i : Int) (h : StrsAt w (.slice A l.length c) l) (h0 : 0 < l.length) (h1 : l.length ≤ 100) :
    Calls Tryz.prog 34 #[.slice A l.length c, .int .i64 i] w fun e w' => e = .returned (.string (mk (nameL l i))) ∧ Below w.heap.size w w' := by
  obtain ⟨x, hx⟩ : ∃ x, l[0]? = some x := ⟨_, List.getElem?_eq_getElem h0⟩
  obtain ⟨b, o, rfl, _, c0⟩ := h.cell hx
  rw [Nat.add_zero] at c0
  have hx0 : l.getD 0 [] = x := by rw [List.getD, hx]; rfl
  by_cases hi : i < 0
  · have N := Lib.hid (show nameL l i = x from (if_pos (Or.inl hi)).trans hx0)
    clear hx hx0
    go_enter Tryz.func34, Tryz.ntmps34
    go_wp2
    go_ret
    exact ⟨by rw [N.out]; rfl, Below.refl _ _⟩
  · by_cases hj : (l.length : Int) ≤ i
    · have N := Lib.hid (show nameL l i = x from (if_pos (Or.inr hj)).trans hx0)
      clear hx hx0
      go_enter Tryz.func34, Tryz.ntmps34
      go_wp2
      go_ret
      exact ⟨by rw [N.out]; rfl, Below.refl _ _⟩
    · obtain ⟨k, rfl⟩ : ∃ k : Nat, i = k := ⟨i.toNat, by omega⟩
      have hk : k < l.length := by omega
      obtain ⟨y, hy⟩ : ∃ y, l[k]? = some y := ⟨_, List.getElem?_eq_getElem hk⟩
      have N := Lib.hid (show nameL l k = y from (if_neg (by omega)).trans (by rw [Int.toNat_natCast, List.getD, hy]; rfl))
      obtain ⟨b', o', e', _, c1⟩ := h.cell hy
      cases e'
      clear hx hx0 hy c0
      go_enter Tryz.func34, Tryz.ntmps34
      go_wp2
      go_ret
      exact ⟨by rw [N.out]; rfl, Below.refl _ _⟩

theorem map_mk : ∀ l : List Bs, (l.map mk).map (·.data.toList) = l
  | [] => rfl
  | a :: r => by rw [List.map_cons, List.map_cons, map_mk r]

theorem strJoin_any {w : World} {v : Value} {l : List Bs} (h : StrsAt w v l) (hN : l.length ≤ 1000000000) (hlen : (joinB l).length ≤ 140737488355328) :
    Calls Tryz.prog 65 #[v, .string ⟨#[32]⟩] w fun e w' => e = .returned (.string (mk (joinB l))) ∧ Below w.heap.size w w' := by
  obtain ⟨A, c, rfl, hc, h3⟩ := h
  by_cases h0 : l = []
  · subst h0
    exact (Tryz.strings_Join_none A c _ w).mono fun e w' ⟨he, hw⟩ => ⟨he, hw ▸ Below.refl _ _⟩
  · obtain ⟨b, o, rfl, hb, hcell⟩ := h3 (List.length_pos_iff.2 h0)
    have e1 := map_mk l
    have H := Tryz.strings_Join b o c (l.map mk) ⟨#[32]⟩ w (fun j x hj => by
      rw [List.getElem?_map] at hj
      obtain ⟨y, hy, rfl⟩ := Option.map_eq_some_iff.1 hj
      exact hcell j y hy) hb (by rw [List.length_map]; omega) (by rw [List.length_map]; exact hc) (by rw [e1]; exact hlen)
    rw [List.length_map, e1] at H
    exact H

theorem join_any {w : World} {v : Value} {l : List Bs} (h : StrsAt w v l) (hN : l.length ≤ 1000000000) (hlen : (joinB l).length ≤ 140737488355328) :
    Calls Tryz.prog 38 #[v] w fun e w' => e = .returned (.string (mk (joinB l))) ∧ Below w.heap.size w w' := by
  have H := Lib.hid (strJoin_any h hN hlen)
  obtain ⟨A, c, rfl⟩ := h.len
  go_enter Tryz.func38, Tryz.ntmps38
  go_wp2_with (go_at_call 65; refine H.out.mono ?_; rintro e w' ⟨rfl, hb⟩)
  go_ret
  exact ⟨rfl, hb⟩

end Go.Proofs.YtnnahodajiolmaaGreatDoor.sc
