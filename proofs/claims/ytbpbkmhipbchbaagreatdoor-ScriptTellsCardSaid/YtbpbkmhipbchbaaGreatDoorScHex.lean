/-
  PROVED HERE: strconv.FormatUint at base 16 of a byte, word.Hex of a byte, and package script's digits: the hexadecimal digits of a string. Conditions: the library's tables lie (Env); the string is short.
-/
import Derived.Test.YtbpbkmhipbchbaaGreatDoorScNum
namespace Go.Proofs.YtbpbkmhipbchbaaGreatDoor.sc
open Go.RowKit Go.Shelf Go.Sort Go.Lib
set_option linter.unusedVariables false

theorem isPow2_16 (w : World) : Calls Tryz.prog 124 #[.int .i64 16] w fun e w' => e = .returned (.bool true) ∧ w = w' := by
  go_enter Tryz.func124, Tryz.ntmps124
  go_wp2
  go_ret
  exact ⟨rfl, rfl⟩

theorem trail64_16 {w : World} (h : w.cell? ⟨7, 15, none⟩ = some (.int .u8 4)) : Calls Tryz.prog 134 #[.int .u64 16] w fun e w' => e = .returned (.int .i64 4) ∧ w = w' := by
  have key : IntKind.u64.wrap (bits BinOp.and IntKind.u64 16 (IntKind.u64.wrap (-16)) * 285870213051353865) / 288230376151711744 = 15 := by decide +kernel
  go_enter Tryz.func134, Tryz.ntmps134
  go_wp2_with (simp only [key])
  go_ret
  exact ⟨rfl, rfl⟩
theorem trail_16 {w : World} (h : w.cell? ⟨7, 15, none⟩ = some (.int .u8 4)) : Calls Tryz.prog 125 #[.int .u64 16] w fun e w' => e = .returned (.int .i64 4) ∧ w = w' := by
  go_enter Tryz.func125, Tryz.ntmps125
  go_wp2_with (go_at_call 134; refine (trail64_16 h).mono ?_; rintro e w' ⟨rfl, rfl⟩)
  go_ret
  exact ⟨rfl, rfl⟩

/-- The digits' letters. -/
def letters : ByteArray := ⟨#[48, 49, 50, 51, 52, 53, 54, 55, 56, 57, 97, 98, 99, 100, 101, 102, 103, 104, 105, 106, 107, 108, 109, 110, 111, 112, 113, 114, 115, 116, 117, 118, 119, 120, 121, 122]⟩
theorem letter (u : Nat) (hu : u < 16) (h : u < letters.size) : letters[u] = hexd u := by
  have k : ∀ v : Fin 16, letters.data.getD v.val 0 = hexd v.val := by decide +kernel
  have e : letters[u] = letters.data.getD u 0 := by
    have h2 : u < letters.data.size := h
    simp only [Array.getD, dif_pos h2]; rfl
  rw [e]; exact k ⟨u, hu⟩

theorem conv1 (w : World) (x : UInt8) : (convert 92 9 (.slice (some ⟨w.heap.size, 64, none⟩) 1 1)).run Tryz.prog (w.alloc (.cells (Tryz.zeroCells160.setIfInBounds 64 (.int .u8 x.toNat)) 160)) = .ok (.string (mk [x])) (w.alloc (.cells (Tryz.zeroCells160.setIfInBounds 64 (.int .u8 x.toNat)) 160)) := by
  refine run_convert_bytes_back (P := Tryz.prog) _ 92 9 5 ⟨w.heap.size, 64, none⟩ 1 [x] Tryz.underlying92 Tryz.underlying5 Tryz.underlying9 (fun j hj => ?_)
  obtain rfl : j = 0 := by simpa using hj
  rw [Lib.add_plain, World.cell?_alloc_new]
  rfl

set_option maxHeartbeats 3200000 in
set_option maxRecDepth 100000 in
theorem bits16_lo {w : World} (u : Nat) (hu : u < 16) (E : Env w) :
    Calls Tryz.prog 105 #[.slice none 0 0, .int .u64 u, .int .i64 16, .bool false, .bool false] w fun e w' => e = .returned (.tuple #[.slice none 0 0, .string (mk [hexd u])]) ∧ Below w.heap.size w w' := by
  have hc : ∀ o, (w.alloc o).cell? ⟨7, 15, none⟩ = some (.int .u8 4) := fun o => by
    have := E.2.2.2.2.2
    rw [World.cell?_alloc_lt _ _ _ (lt_of_cell this)]; exact this
  have HC := Lib.hid hc; clear hc
  have hcv := conv1 w
  have HL := Lib.hid (letter u hu (by show u < 36; omega))
  go_enter Tryz.func105, Tryz.ntmps105
  go_wp2_with (first
    | (go_at_call 124; refine (isPow2_16 _).mono ?_; rintro e w' ⟨rfl, rfl⟩)
    | (go_at_call 125; refine (trail_16 (HC.out _)).mono ?_; rintro e w' ⟨rfl, rfl⟩))
  go_loopw [1, 13] (fun s1 s13 wr => wr = w.alloc (.cells Tryz.zeroCells160 160) ∧ s1 = .int .u64 u ∧ s13 = .int .i64 65) (fun _ _ _ => 0)
  case atStart => exact ⟨rfl, rfl, rfl⟩
  case round =>
    obtain ⟨rfl, rfl, rfl⟩ := hrel
    go_wp2
    go_ret2
    exact ⟨by rw [← HL.out]; rfl, (Below.refl _ _).alloc (Nat.le_refl _) _⟩

theorem and15 (u : Nat) (hu : u < 256) : bits BinOp.and IntKind.u64 (u : Int) 15 = ((u % 16 : Nat) : Int) := by
  have k : ∀ v : Fin 256, bits BinOp.and IntKind.u64 ((v.val : Nat) : Int) 15 = ((v.val % 16 : Nat) : Int) := by decide +kernel
  exact k ⟨u, hu⟩

theorem conv2 (w : World) (x y : UInt8) : (convert 92 9 (.slice (some ⟨w.heap.size, 63, none⟩) 2 2)).run Tryz.prog (w.alloc (.cells ((Tryz.zeroCells160.setIfInBounds 64 (.int .u8 y.toNat)).setIfInBounds 63 (.int .u8 x.toNat)) 160)) = .ok (.string (mk [x, y])) (w.alloc (.cells ((Tryz.zeroCells160.setIfInBounds 64 (.int .u8 y.toNat)).setIfInBounds 63 (.int .u8 x.toNat)) 160)) := by
  refine run_convert_bytes_back (P := Tryz.prog) _ 92 9 5 ⟨w.heap.size, 63, none⟩ 2 [x, y] Tryz.underlying92 Tryz.underlying5 Tryz.underlying9 (fun j hj => ?_)
  rw [Lib.add_plain, World.cell?_alloc_new]
  match j, hj with
  | 0, _ => rfl
  | 1, _ => rfl

/-- The loop over the digits: ahead of it, and behind one round. -/
def R16 (w : World) (u : Nat) (s1 s13 : Value) (wr : World) : Prop :=
  (wr = w.alloc (.cells Tryz.zeroCells160 160) ∧ s1 = .int .u64 u ∧ s13 = .int .i64 65) ∨ (wr = w.alloc (.cells (Tryz.zeroCells160.setIfInBounds 64 (.int .u8 (hexd (u % 16)).toNat)) 160) ∧ s1 = .int .u64 ((u / 16 : Nat) : Int) ∧ s13 = .int .i64 64)

set_option maxHeartbeats 3200000 in
set_option maxRecDepth 100000 in
theorem bits16_hi {w : World} (u : Nat) (h16 : 16 ≤ u) (hu : u < 256) (E : Env w) :
    Calls Tryz.prog 105 #[.slice none 0 0, .int .u64 u, .int .i64 16, .bool false, .bool false] w fun e w' => e = .returned (.tuple #[.slice none 0 0, .string (mk [hexd (u / 16), hexd (u % 16)])]) ∧ Below w.heap.size w w' := by
  have hc : ∀ o, (w.alloc o).cell? ⟨7, 15, none⟩ = some (.int .u8 4) := fun o => by
    have := E.2.2.2.2.2
    rw [World.cell?_alloc_lt _ _ _ (lt_of_cell this)]; exact this
  have HC := Lib.hid hc; clear hc
  have hcv := conv2 w
  have hand := and15 u hu
  have ha1 : u % 16 < 16 := by omega
  have ha2 : u / 16 < 16 := by omega
  have HL := Lib.hid (letter (u / 16) (by omega) (by show u / 16 < 36; omega))
  have HL2 := Lib.hid (letter (u % 16) (by omega) (by show u % 16 < 36; omega))
  go_enter Tryz.func105, Tryz.ntmps105
  go_wp2_with (first
    | (go_at_call 124; refine (isPow2_16 _).mono ?_; rintro e w' ⟨rfl, rfl⟩)
    | (go_at_call 125; refine (trail_16 (HC.out _)).mono ?_; rintro e w' ⟨rfl, rfl⟩))
  go_loopw [1, 13] (fun s1 s13 wr => R16 w u s1 s13 wr) (fun s1 _ _ => (RowKit.intOf s1).toNat)
  case atStart => exact Or.inl ⟨rfl, rfl, rfl⟩
  case round =>
    rcases hrel with ⟨rfl, rfl, rfl⟩ | ⟨rfl, rfl, rfl⟩
    · go_wp2
      go_roundw
      case rel => exact Or.inr ⟨by rw [← HL2.out]; rfl, rfl, rfl⟩
      case measure => simp [RowKit.intOf]; omega
    · go_wp2
      go_ret2
      exact ⟨by rw [← HL.out]; rfl, (Below.refl _ _).alloc (Nat.le_refl _) _⟩

/-- A byte's digits without a leading 0. -/
def hexS (u : Nat) : Bs := if u < 16 then [hexd u] else [hexd (u / 16), hexd (u % 16)]

theorem ifmt16 {w : World} (u : Nat) (hu : u < 256) (E : Env w) :
    Calls Tryz.prog 89 #[.int .u64 u, .int .i64 16] w fun e w' => e = .returned (.string (mk (hexS u))) ∧ Below w.heap.size w w' := by
  by_cases h : u < 16
  · have H := Lib.hid (bits16_lo u h E)
    have S := Lib.hid (show hexS u = [hexd u] from if_pos h)
    go_enter Tryz.func89, Tryz.ntmps89
    go_wp2_with (go_at_call 105; refine H.out.mono ?_; rintro e w' ⟨rfl, hb⟩)
    go_ret
    exact ⟨by rw [S.out]; rfl, hb⟩
  · have H := Lib.hid (bits16_hi u (by omega) hu E)
    have S := Lib.hid (show hexS u = [hexd (u / 16), hexd (u % 16)] from if_neg h)
    go_enter Tryz.func89, Tryz.ntmps89
    go_wp2_with (go_at_call 105; refine H.out.mono ?_; rintro e w' ⟨rfl, hb⟩)
    go_ret
    exact ⟨by rw [S.out]; rfl, hb⟩

theorem fmt16 {w : World} (u : Nat) (hu : u < 256) (E : Env w) :
    Calls Tryz.prog 70 #[.int .u64 u, .int .i64 16] w fun e w' => e = .returned (.string (mk (hexS u))) ∧ Below w.heap.size w w' := by
  have H := Lib.hid (ifmt16 u hu E)
  go_enter Tryz.func70, Tryz.ntmps70
  go_wp2_with (go_at_call 89; refine H.out.mono ?_; rintro e w' ⟨rfl, hb⟩)
  go_ret
  exact ⟨rfl, hb⟩

def hexW (u : Nat) : Bs := List.replicate 14 48 ++ [hexd (u / 16), hexd (u % 16)]
theorem hexW_of (u : Nat) (hu : u < 256) : Lib.repeatL [48] (16 - (hexS u).length) ++ hexS u = hexW u := by
  have k : ∀ v : Fin 256, Lib.repeatL [48] (16 - (hexS v.val).length) ++ hexS v.val = hexW v.val := by decide +kernel
  exact k ⟨u, hu⟩

theorem hexS_len (u : Nat) : 1 ≤ (hexS u).length ∧ (hexS u).length ≤ 2 := by unfold hexS; split <;> simp

theorem wordHex_any {w : World} (u : Nat) (hu : u < 256) (E : Env w) :
    Calls Tryz.prog 71 #[.int .u64 u] w fun e w' => e = .returned (.string (mk (hexW u))) ∧ Below w.heap.size w w' := by
  have H := Lib.hid (fmt16 u hu E)
  have hl := hexS_len u
  have hL := Lib.hid (hexW_of u hu)
  obtain ⟨hl1, hl2⟩ := hl
  go_enter Tryz.func71, Tryz.ntmps71
  go_wp2_with fail
  refine H.out.mono ?_; rintro e w1 ⟨rfl, hb⟩
  go_wp2_with fail
  rw [show (16 : Int) - ((hexS u).length : Int) = ((16 - (hexS u).length : Nat) : Int) by omega]
  refine (Tryz.strings_Repeat ⟨#[48]⟩ (16 - (hexS u).length) w1 (by omega) (by show 1 * _ ≤ _; omega)).mono ?_; rintro e w2 ⟨rfl, hb2⟩
  have hr : (Lib.repeatL [48] (16 - (hexS u).length)).length ≤ 16 := by rw [Lib.repeatL_length]; simp
  go_wp2_with fail
  go_ret
  refine ⟨?_, hb.trans (hb2.mono hb.size)⟩
  rw [← hL.out]
  show Ending.returned (.string (mk (Lib.repeatL [48] (16 - (hexS u).length)) ++ mk (hexS u))) = _
  rw [mk_append]

end Go.Proofs.YtbpbkmhipbchbaaGreatDoor.sc
