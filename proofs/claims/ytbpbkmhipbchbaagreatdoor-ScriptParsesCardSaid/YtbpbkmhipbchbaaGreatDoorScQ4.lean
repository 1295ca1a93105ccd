/-
  PROVED HERE: the contract of the reference's Line, of an act that may be. Conditions: numbers of their kinds, short values. (Printed by a program of mine.)
-/
import Derived.Test.YtbpbkmhipbchbaaGreatDoorScRef
import Derived.Test.YtbpbkmhipbchbaaGreatDoorScQ1
import Derived.Test.YtbpbkmhipbchbaaGreatDoorScPlain
import Derived.Deep.RegionHeld3
namespace Go.Proofs.YtbpbkmhipbchbaaGreatDoor.sc
open Go.RowKit
set_option linter.unusedVariables false
set_option linter.unusedSimpArgs false

theorem below_past {W0 X w : World} (h : Below W0.heap.size W0 X) (hb : Below X.heap.size X w) : Below W0.heap.size W0 w := h.trans (hb.mono h.size)
theorem below_more {W0 X : World} (h : Below W0.heap.size W0 X) (o : Obj) : Below W0.heap.size W0 (X.alloc o) := h.alloc h.size o
theorem digits_bd (v : Bs) (h : v.length ≤ 100000) : (digits v).length ≤ 200001 := Nat.le_trans (digits_le v) (by omega)
theorem num_bd (n : Int) (h0 : 0 ≤ n) (h1 : n < 18446744073709551616) : (num n).length ≤ 21 := num_le n (by omega) h1

set_option maxHeartbeats 4000000 in
set_option maxRecDepth 100000 in
theorem line_get {w : World} (c key hi lim : Int) (val : Bs) (at_ an : Int) (keep : List Int) (n : Int) (kA : Option Addr) (kL kC : Nat) (hc : 0 ≤ c ∧ c ≤ 1099511627776) (hk : U64 key) :
    Calls Tryz.prog 18 #[.agg (acC ⟨1, c, ⟨2, key, hi, lim, val⟩, at_, an, keep⟩ (.slice kA kL kC)), .int .i64 n] w (fun e w' => e = .returned (.string (mk (lineR ⟨1, c, ⟨2, key, hi, lim, val⟩, at_, an, keep⟩ n))) ∧ Below w.heap.size w w') := by
  obtain ⟨W, hW⟩ : ∃ W, W = w.alloc (.cells (acC ⟨1, c, ⟨2, key, hi, lim, val⟩, at_, an, keep⟩ (.slice kA kL kC)) 31) := ⟨_, rfl⟩
  have hN : Blk W w.heap.size 31 (acC ⟨1, c, ⟨2, key, hi, lim, val⟩, at_, an, keep⟩ (.slice kA kL kC)) := by rw [hW]; exact Blk.new _ _ _
  have hB : Below w.heap.size w W := by rw [hW]; exact (Below.refl _ _).alloc (Nat.le_refl _) _
  have HI := Lib.hid (And.intro hN hB)
  obtain ⟨d0, d1, d2, d3, d4, d5, d6, d7, d8, d9⟩ := acCells hN
  dsimp only at d0 d1 d2 d3 d4 d5 d6 d7 d8 d9
  clear hN hB
  have lc := num_bd c hc.1 (by omega)
  have lk := num_bd key hk.1 hk.2
  have s0 : ¬ 9223372036854775807 < 7 + (num c).length := by omega
  have s1 : ¬ 9223372036854775807 < 7 + (num c).length + 5 := by omega
  have s2 : ¬ 9223372036854775807 < 7 + (num c).length + 5 + (num key).length := by omega
  clear lc lk
  go_enter Tryz.func18, Tryz.ntmps18
  go_upto_region 1 with fail
  rw [← hW]
  clear hW
  go_wp2_with fail
  refine (rnum_any c hc.1 (by omega)).mono ?_; rintro e w1 ⟨rfl, hbw1⟩
  have Hw1 := Lib.hid (hbw1); clear hbw1
  clear d0 d1 d2 d3 d4 d5 d6 d7 d8 d9
  obtain ⟨d0, d1, d2, d3, d4, d5, d6, d7, d8, d9⟩ := acCells (HI.out.1.below Hw1.out HI.out.1.lt)
  dsimp only at d0 d1 d2 d3 d4 d5 d6 d7 d8 d9
  go_wp2_with fail
  refine (rNum08_int key hk).mono ?_; rintro e w2 ⟨rfl, hbw2⟩
  have Hw2 := Lib.hid (Hw1.out.trans (hbw2.mono Hw1.out.size)); clear hbw2
  clear d0 d1 d2 d3 d4 d5 d6 d7 d8 d9
  obtain ⟨d0, d1, d2, d3, d4, d5, d6, d7, d8, d9⟩ := acCells (HI.out.1.below Hw2.out HI.out.1.lt)
  dsimp only at d0 d1 d2 d3 d4 d5 d6 d7 d8 d9
  go_wp2_with fail
  go_ret
  refine ⟨?_, HI.out.2.trans (Hw2.out.mono HI.out.2.size)⟩
  show Ending.returned (.string (mk [105, 110, 118, 111, 107, 101, 32] ++ mk (num c) ++ mk [32, 103, 101, 116, 32] ++ mk (num key))) = _
  rw [mk_append, mk_append, mk_append]
  simp [lineR, sInvoke, sPick, sEvict, sBoot, List.append_assoc]

set_option maxHeartbeats 4000000 in
set_option maxRecDepth 100000 in
theorem line_del {w : World} (c key hi lim : Int) (val : Bs) (at_ an : Int) (keep : List Int) (n : Int) (kA : Option Addr) (kL kC : Nat) (hc : 0 ≤ c ∧ c ≤ 1099511627776) (hk : U64 key) :
    Calls Tryz.prog 18 #[.agg (acC ⟨1, c, ⟨3, key, hi, lim, val⟩, at_, an, keep⟩ (.slice kA kL kC)), .int .i64 n] w (fun e w' => e = .returned (.string (mk (lineR ⟨1, c, ⟨3, key, hi, lim, val⟩, at_, an, keep⟩ n))) ∧ Below w.heap.size w w') := by
  obtain ⟨W, hW⟩ : ∃ W, W = w.alloc (.cells (acC ⟨1, c, ⟨3, key, hi, lim, val⟩, at_, an, keep⟩ (.slice kA kL kC)) 31) := ⟨_, rfl⟩
  have hN : Blk W w.heap.size 31 (acC ⟨1, c, ⟨3, key, hi, lim, val⟩, at_, an, keep⟩ (.slice kA kL kC)) := by rw [hW]; exact Blk.new _ _ _
  have hB : Below w.heap.size w W := by rw [hW]; exact (Below.refl _ _).alloc (Nat.le_refl _) _
  have HI := Lib.hid (And.intro hN hB)
  obtain ⟨d0, d1, d2, d3, d4, d5, d6, d7, d8, d9⟩ := acCells hN
  dsimp only at d0 d1 d2 d3 d4 d5 d6 d7 d8 d9
  clear hN hB
  have lc := num_bd c hc.1 (by omega)
  have lk := num_bd key hk.1 hk.2
  have s0 : ¬ 9223372036854775807 < 7 + (num c).length := by omega
  have s1 : ¬ 9223372036854775807 < 7 + (num c).length + 8 := by omega
  have s2 : ¬ 9223372036854775807 < 7 + (num c).length + 8 + (num key).length := by omega
  clear lc lk
  go_enter Tryz.func18, Tryz.ntmps18
  go_upto_region 1 with fail
  rw [← hW]
  clear hW
  go_wp2_with fail
  refine (rnum_any c hc.1 (by omega)).mono ?_; rintro e w1 ⟨rfl, hbw1⟩
  have Hw1 := Lib.hid (hbw1); clear hbw1
  clear d0 d1 d2 d3 d4 d5 d6 d7 d8 d9
  obtain ⟨d0, d1, d2, d3, d4, d5, d6, d7, d8, d9⟩ := acCells (HI.out.1.below Hw1.out HI.out.1.lt)
  dsimp only at d0 d1 d2 d3 d4 d5 d6 d7 d8 d9
  go_wp2_with fail
  refine (rNum08_int key hk).mono ?_; rintro e w2 ⟨rfl, hbw2⟩
  have Hw2 := Lib.hid (Hw1.out.trans (hbw2.mono Hw1.out.size)); clear hbw2
  clear d0 d1 d2 d3 d4 d5 d6 d7 d8 d9
  obtain ⟨d0, d1, d2, d3, d4, d5, d6, d7, d8, d9⟩ := acCells (HI.out.1.below Hw2.out HI.out.1.lt)
  dsimp only at d0 d1 d2 d3 d4 d5 d6 d7 d8 d9
  go_wp2_with fail
  go_ret
  refine ⟨?_, HI.out.2.trans (Hw2.out.mono HI.out.2.size)⟩
  show Ending.returned (.string (mk [105, 110, 118, 111, 107, 101, 32] ++ mk (num c) ++ mk [32, 100, 101, 108, 101, 116, 101, 32] ++ mk (num key))) = _
  rw [mk_append, mk_append, mk_append]
  simp [lineR, sInvoke, sPick, sEvict, sBoot, List.append_assoc]

set_option maxHeartbeats 4000000 in
set_option maxRecDepth 100000 in
theorem line_put {w : World} (c key hi lim : Int) (val : Bs) (at_ an : Int) (keep : List Int) (n : Int) (kA : Option Addr) (kL kC : Nat) (hc : 0 ≤ c ∧ c ≤ 1099511627776) (hk : U64 key) (hv : val.length ≤ 100000) :
    Calls Tryz.prog 18 #[.agg (acC ⟨1, c, ⟨1, key, hi, lim, val⟩, at_, an, keep⟩ (.slice kA kL kC)), .int .i64 n] w (fun e w' => e = .returned (.string (mk (lineR ⟨1, c, ⟨1, key, hi, lim, val⟩, at_, an, keep⟩ n))) ∧ Below w.heap.size w w') := by
  obtain ⟨W, hW⟩ : ∃ W, W = w.alloc (.cells (acC ⟨1, c, ⟨1, key, hi, lim, val⟩, at_, an, keep⟩ (.slice kA kL kC)) 31) := ⟨_, rfl⟩
  have hN : Blk W w.heap.size 31 (acC ⟨1, c, ⟨1, key, hi, lim, val⟩, at_, an, keep⟩ (.slice kA kL kC)) := by rw [hW]; exact Blk.new _ _ _
  have hB : Below w.heap.size w W := by rw [hW]; exact (Below.refl _ _).alloc (Nat.le_refl _) _
  have HI := Lib.hid (And.intro hN hB)
  obtain ⟨d0, d1, d2, d3, d4, d5, d6, d7, d8, d9⟩ := acCells hN
  dsimp only at d0 d1 d2 d3 d4 d5 d6 d7 d8 d9
  clear hN hB
  have lc := num_bd c hc.1 (by omega)
  have lk := num_bd key hk.1 hk.2
  have ld := digits_bd val hv
  have s0 : ¬ 9223372036854775807 < 7 + (num c).length := by omega
  have s1 : ¬ 9223372036854775807 < 7 + (num c).length + 5 := by omega
  have s2 : ¬ 9223372036854775807 < 7 + (num c).length + 5 + (num key).length := by omega
  have s3 : ¬ 9223372036854775807 < 7 + (num c).length + 5 + (num key).length + 1 := by omega
  have s4 : ¬ 9223372036854775807 < 7 + (num c).length + 5 + (num key).length + 1 + (digits val).length := by omega
  clear lc lk ld
  go_enter Tryz.func18, Tryz.ntmps18
  go_upto_region 1 with fail
  rw [← hW]
  clear hW
  go_wp2_with fail
  refine (rnum_any c hc.1 (by omega)).mono ?_; rintro e w1 ⟨rfl, hbw1⟩
  have Hw1 := Lib.hid (hbw1); clear hbw1
  clear d0 d1 d2 d3 d4 d5 d6 d7 d8 d9
  obtain ⟨d0, d1, d2, d3, d4, d5, d6, d7, d8, d9⟩ := acCells (HI.out.1.below Hw1.out HI.out.1.lt)
  dsimp only at d0 d1 d2 d3 d4 d5 d6 d7 d8 d9
  go_wp2_with fail
  refine (rNum08_int key hk).mono ?_; rintro e w2 ⟨rfl, hbw2⟩
  have Hw2 := Lib.hid (Hw1.out.trans (hbw2.mono Hw1.out.size)); clear hbw2
  clear d0 d1 d2 d3 d4 d5 d6 d7 d8 d9
  obtain ⟨d0, d1, d2, d3, d4, d5, d6, d7, d8, d9⟩ := acCells (HI.out.1.below Hw2.out HI.out.1.lt)
  dsimp only at d0 d1 d2 d3 d4 d5 d6 d7 d8 d9
  go_wp2_with fail
  refine (rHex_any val (by omega)).mono ?_; rintro e w3 ⟨rfl, hbw3⟩
  have Hw3 := Lib.hid (Hw2.out.trans (hbw3.mono Hw2.out.size)); clear hbw3
  clear d0 d1 d2 d3 d4 d5 d6 d7 d8 d9
  obtain ⟨d0, d1, d2, d3, d4, d5, d6, d7, d8, d9⟩ := acCells (HI.out.1.below Hw3.out HI.out.1.lt)
  dsimp only at d0 d1 d2 d3 d4 d5 d6 d7 d8 d9
  go_wp2_with fail
  go_ret
  refine ⟨?_, HI.out.2.trans (Hw3.out.mono HI.out.2.size)⟩
  show Ending.returned (.string (mk [105, 110, 118, 111, 107, 101, 32] ++ mk (num c) ++ mk [32, 112, 117, 116, 32] ++ mk (num key) ++ mk [32] ++ mk (digits val))) = _
  rw [mk_append, mk_append, mk_append, mk_append, mk_append]
  simp [lineR, sInvoke, sPick, sEvict, sBoot, List.append_assoc]

set_option maxHeartbeats 4000000 in
set_option maxRecDepth 100000 in
theorem line_scan {w : World} (c key hi lim : Int) (val : Bs) (at_ an : Int) (keep : List Int) (n : Int) (kA : Option Addr) (kL kC : Nat) (hc : 0 ≤ c ∧ c ≤ 1099511627776) (hk : U64 key) (hh : U64 hi) (hl : 0 ≤ lim ∧ lim ≤ 1099511627776) :
    Calls Tryz.prog 18 #[.agg (acC ⟨1, c, ⟨4, key, hi, lim, val⟩, at_, an, keep⟩ (.slice kA kL kC)), .int .i64 n] w (fun e w' => e = .returned (.string (mk (lineR ⟨1, c, ⟨4, key, hi, lim, val⟩, at_, an, keep⟩ n))) ∧ Below w.heap.size w w') := by
  obtain ⟨W, hW⟩ : ∃ W, W = w.alloc (.cells (acC ⟨1, c, ⟨4, key, hi, lim, val⟩, at_, an, keep⟩ (.slice kA kL kC)) 31) := ⟨_, rfl⟩
  have hN : Blk W w.heap.size 31 (acC ⟨1, c, ⟨4, key, hi, lim, val⟩, at_, an, keep⟩ (.slice kA kL kC)) := by rw [hW]; exact Blk.new _ _ _
  have hB : Below w.heap.size w W := by rw [hW]; exact (Below.refl _ _).alloc (Nat.le_refl _) _
  have HI := Lib.hid (And.intro hN hB)
  obtain ⟨d0, d1, d2, d3, d4, d5, d6, d7, d8, d9⟩ := acCells hN
  dsimp only at d0 d1 d2 d3 d4 d5 d6 d7 d8 d9
  clear hN hB
  have lc := num_bd c hc.1 (by omega)
  have lk := num_bd key hk.1 hk.2
  have lh := num_bd hi hh.1 hh.2
  have ll := num_bd lim hl.1 (by omega)
  have s0 : ¬ 9223372036854775807 < 7 + (num c).length := by omega
  have s1 : ¬ 9223372036854775807 < 7 + (num c).length + 6 := by omega
  have s2 : ¬ 9223372036854775807 < 7 + (num c).length + 6 + (num key).length := by omega
  have s3 : ¬ 9223372036854775807 < 7 + (num c).length + 6 + (num key).length + 1 := by omega
  have s4 : ¬ 9223372036854775807 < 7 + (num c).length + 6 + (num key).length + 1 + (num hi).length := by omega
  have s5 : ¬ 9223372036854775807 < 7 + (num c).length + 6 + (num key).length + 1 + (num hi).length + 1 := by omega
  have s6 : ¬ 9223372036854775807 < 7 + (num c).length + 6 + (num key).length + 1 + (num hi).length + 1 + (num lim).length := by omega
  clear lc lk lh ll
  go_enter Tryz.func18, Tryz.ntmps18
  go_upto_region 1 with fail
  rw [← hW]
  clear hW
  go_wp2_with fail
  refine (rnum_any c hc.1 (by omega)).mono ?_; rintro e w1 ⟨rfl, hbw1⟩
  have Hw1 := Lib.hid (hbw1); clear hbw1
  clear d0 d1 d2 d3 d4 d5 d6 d7 d8 d9
  obtain ⟨d0, d1, d2, d3, d4, d5, d6, d7, d8, d9⟩ := acCells (HI.out.1.below Hw1.out HI.out.1.lt)
  dsimp only at d0 d1 d2 d3 d4 d5 d6 d7 d8 d9
  go_wp2_with fail
  refine (rNum08_int key hk).mono ?_; rintro e w2 ⟨rfl, hbw2⟩
  have Hw2 := Lib.hid (Hw1.out.trans (hbw2.mono Hw1.out.size)); clear hbw2
  clear d0 d1 d2 d3 d4 d5 d6 d7 d8 d9
  obtain ⟨d0, d1, d2, d3, d4, d5, d6, d7, d8, d9⟩ := acCells (HI.out.1.below Hw2.out HI.out.1.lt)
  dsimp only at d0 d1 d2 d3 d4 d5 d6 d7 d8 d9
  have HS2 := Lib.hid (show ∀ wx, Below W.heap.size W wx → (fun wx => wx.cell? ⟨w.heap.size, 4, none⟩ = some (.int .u64 hi) ∧ wx.cell? ⟨w.heap.size, 5, none⟩ = some (.int .i64 lim) ∧ Below W.heap.size W wx) wx from fun wx hk => by
    obtain ⟨b0, b1, b2, b3, b4, b5, b6, b7, b8, b9⟩ := acCells (HI.out.1.below hk HI.out.1.lt)
    exact ⟨b4, b5, hk⟩)
  have hk0 : Below W.heap.size W w2.drew := Hw2.out.drew
  have HH := Lib.hid (And.intro hh hl); clear hh hl
  go_upto_region 12 with fail
  clear d0 d1 d2 d3 d4 d5 d6 d7 d8 d9
  go_region_held3 (fun wx => wx.cell? ⟨w.heap.size, 4, none⟩ = some (.int .u64 hi) ∧ wx.cell? ⟨w.heap.size, 5, none⟩ = some (.int .i64 lim) ∧ Below W.heap.size W wx)
    (exact HS2.out _ (by (first | with_reducible assumption | ((repeat (first | with_reducible refine below_more ?_ _ | with_reducible refine Below.drew ?_)); (first | with_reducible assumption | with_reducible exact Below.refl _ _)))))
    (first
      | (go_at_call 47; with_reducible refine (rNum08_int hi HH.out.1).mono ?_; rintro e w4 ⟨rfl, hb4⟩; have K4 : Below W.heap.size W w4 := below_past ?hk4 hb4; (case hk4 => (first | with_reducible assumption | ((repeat (first | with_reducible refine below_more ?_ _ | with_reducible refine Below.drew ?_)); (first | with_reducible assumption | with_reducible exact Below.refl _ _)))))
      | (go_at_call 44; with_reducible refine (rnum_any lim HH.out.2.1 (by have := HH.out.2.2; omega)).mono ?_; rintro e w5 ⟨rfl, hb5⟩; have K5 : Below W.heap.size W w5 := below_past ?hk5 hb5; (case hk5 => (first | with_reducible assumption | ((repeat (first | with_reducible refine below_more ?_ _ | with_reducible refine Below.drew ?_)); (first | with_reducible assumption | with_reducible exact Below.refl _ _))))))
  all_goals
    rename_i hHeld
    have hlast := hHeld.2.2
    have HL := Lib.hid hlast
    clear hHeld hlast
    go_wp2_with fail
    go_ret
    refine ⟨?_, HI.out.2.trans (HL.out.mono HI.out.2.size)⟩
    show Ending.returned (.string (mk [105, 110, 118, 111, 107, 101, 32] ++ mk (num c) ++ mk [32, 115, 99, 97, 110, 32] ++ mk (num key) ++ mk [32] ++ mk (num hi) ++ mk [32] ++ mk (num lim))) = _
    rw [mk_append, mk_append, mk_append, mk_append, mk_append, mk_append, mk_append]
    simp [lineR, sInvoke, sPick, sEvict, sBoot, List.append_assoc]

set_option maxHeartbeats 4000000 in
set_option maxRecDepth 100000 in
theorem line_pick {w : World} (c op key hi lim : Int) (val : Bs) (at_ an : Int) (keep : List Int) (n : Int) (kA : Option Addr) (kL kC : Nat) (hc : 0 ≤ c ∧ c ≤ 1099511627776) (hn : 0 ≤ n ∧ n ≤ 9223372036854775807) :
    Calls Tryz.prog 18 #[.agg (acC ⟨2, c, ⟨op, key, hi, lim, val⟩, at_, an, keep⟩ (.slice kA kL kC)), .int .i64 n] w (fun e w' => e = .returned (.string (mk (lineR ⟨2, c, ⟨op, key, hi, lim, val⟩, at_, an, keep⟩ n))) ∧ Below w.heap.size w w') := by
  obtain ⟨W, hW⟩ : ∃ W, W = w.alloc (.cells (acC ⟨2, c, ⟨op, key, hi, lim, val⟩, at_, an, keep⟩ (.slice kA kL kC)) 31) := ⟨_, rfl⟩
  have hN : Blk W w.heap.size 31 (acC ⟨2, c, ⟨op, key, hi, lim, val⟩, at_, an, keep⟩ (.slice kA kL kC)) := by rw [hW]; exact Blk.new _ _ _
  have hB : Below w.heap.size w W := by rw [hW]; exact (Below.refl _ _).alloc (Nat.le_refl _) _
  have HI := Lib.hid (And.intro hN hB)
  obtain ⟨d0, d1, d2, d3, d4, d5, d6, d7, d8, d9⟩ := acCells hN
  dsimp only at d0 d1 d2 d3 d4 d5 d6 d7 d8 d9
  clear hN hB
  have lc := num_bd c hc.1 (by omega)
  have ln := num_bd n hn.1 (by omega)
  have s0 : ¬ 9223372036854775807 < 5 + (num c).length := by omega
  have s1 : ¬ 9223372036854775807 < 5 + (num c).length + 1 := by omega
  have s2 : ¬ 9223372036854775807 < 5 + (num c).length + 1 + (num n).length := by omega
  clear lc ln
  go_enter Tryz.func18, Tryz.ntmps18
  go_upto_region 1 with fail
  rw [← hW]
  clear hW
  go_wp2_with fail
  refine (rnum_any c hc.1 (by omega)).mono ?_; rintro e w1 ⟨rfl, hbw1⟩
  have Hw1 := Lib.hid (hbw1); clear hbw1
  clear d0 d1 d2 d3 d4 d5 d6 d7 d8 d9
  obtain ⟨d0, d1, d2, d3, d4, d5, d6, d7, d8, d9⟩ := acCells (HI.out.1.below Hw1.out HI.out.1.lt)
  dsimp only at d0 d1 d2 d3 d4 d5 d6 d7 d8 d9
  go_wp2_with fail
  refine (rnum_any n hn.1 hn.2).mono ?_; rintro e w2 ⟨rfl, hbw2⟩
  have Hw2 := Lib.hid (Hw1.out.trans (hbw2.mono Hw1.out.size)); clear hbw2
  clear d0 d1 d2 d3 d4 d5 d6 d7 d8 d9
  obtain ⟨d0, d1, d2, d3, d4, d5, d6, d7, d8, d9⟩ := acCells (HI.out.1.below Hw2.out HI.out.1.lt)
  dsimp only at d0 d1 d2 d3 d4 d5 d6 d7 d8 d9
  go_wp2_with fail
  go_ret
  refine ⟨?_, HI.out.2.trans (Hw2.out.mono HI.out.2.size)⟩
  show Ending.returned (.string (mk [112, 105, 99, 107, 32] ++ mk (num c) ++ mk [32] ++ mk (num n))) = _
  rw [mk_append, mk_append, mk_append]
  simp [lineR, sInvoke, sPick, sEvict, sBoot, List.append_assoc]

set_option maxHeartbeats 4000000 in
set_option maxRecDepth 100000 in
theorem line_evict {w : World} (c op key hi lim : Int) (val : Bs) (at_ an : Int) (keep : List Int) (n : Int) (kA : Option Addr) (kL kC : Nat) (ha : U64 at_) (hm : 0 ≤ an ∧ an ≤ 1099511627776) :
    Calls Tryz.prog 18 #[.agg (acC ⟨3, c, ⟨op, key, hi, lim, val⟩, at_, an, keep⟩ (.slice kA kL kC)), .int .i64 n] w (fun e w' => e = .returned (.string (mk (lineR ⟨3, c, ⟨op, key, hi, lim, val⟩, at_, an, keep⟩ n))) ∧ Below w.heap.size w w') := by
  obtain ⟨W, hW⟩ : ∃ W, W = w.alloc (.cells (acC ⟨3, c, ⟨op, key, hi, lim, val⟩, at_, an, keep⟩ (.slice kA kL kC)) 31) := ⟨_, rfl⟩
  have hN : Blk W w.heap.size 31 (acC ⟨3, c, ⟨op, key, hi, lim, val⟩, at_, an, keep⟩ (.slice kA kL kC)) := by rw [hW]; exact Blk.new _ _ _
  have hB : Below w.heap.size w W := by rw [hW]; exact (Below.refl _ _).alloc (Nat.le_refl _) _
  have HI := Lib.hid (And.intro hN hB)
  obtain ⟨d0, d1, d2, d3, d4, d5, d6, d7, d8, d9⟩ := acCells hN
  dsimp only at d0 d1 d2 d3 d4 d5 d6 d7 d8 d9
  clear hN hB
  have lc := num_bd at_ ha.1 ha.2
  have ln := num_bd an hm.1 (by omega)
  have s0 : ¬ 9223372036854775807 < 6 + (num at_).length := by omega
  have s1 : ¬ 9223372036854775807 < 6 + (num at_).length + 1 := by omega
  have s2 : ¬ 9223372036854775807 < 6 + (num at_).length + 1 + (num an).length := by omega
  clear lc ln
  go_enter Tryz.func18, Tryz.ntmps18
  go_upto_region 1 with fail
  rw [← hW]
  clear hW
  have HS2 := Lib.hid (show ∀ wx, Below W.heap.size W wx → (fun wx => wx.cell? ⟨w.heap.size, 7, none⟩ = some (.int .u64 at_) ∧ wx.cell? ⟨w.heap.size, 8, none⟩ = some (.int .i64 an) ∧ Below W.heap.size W wx) wx from fun wx hk => by
    obtain ⟨b0, b1, b2, b3, b4, b5, b6, b7, b8, b9⟩ := acCells (HI.out.1.below hk HI.out.1.lt)
    exact ⟨b7, b8, hk⟩)
  have hk0 : Below W.heap.size W W.drew := (Below.refl _ _).drew
  have HH := Lib.hid (And.intro ha hm); clear ha hm
  go_upto_region 16 with fail
  clear d0 d1 d2 d3 d4 d5 d6 d7 d8 d9
  go_region_held3 (fun wx => wx.cell? ⟨w.heap.size, 7, none⟩ = some (.int .u64 at_) ∧ wx.cell? ⟨w.heap.size, 8, none⟩ = some (.int .i64 an) ∧ Below W.heap.size W wx)
    (exact HS2.out _ (by (first | with_reducible assumption | ((repeat (first | with_reducible refine below_more ?_ _ | with_reducible refine Below.drew ?_)); (first | with_reducible assumption | with_reducible exact Below.refl _ _)))))
    (first
      | (go_at_call 47; with_reducible refine (rNum08_int at_ HH.out.1).mono ?_; rintro e w4 ⟨rfl, hb4⟩; have K4 : Below W.heap.size W w4 := below_past ?hk4 hb4; (case hk4 => (first | with_reducible assumption | ((repeat (first | with_reducible refine below_more ?_ _ | with_reducible refine Below.drew ?_)); (first | with_reducible assumption | with_reducible exact Below.refl _ _)))))
      | (go_at_call 44; with_reducible refine (rnum_any an HH.out.2.1 (by have := HH.out.2.2; omega)).mono ?_; rintro e w5 ⟨rfl, hb5⟩; have K5 : Below W.heap.size W w5 := below_past ?hk5 hb5; (case hk5 => (first | with_reducible assumption | ((repeat (first | with_reducible refine below_more ?_ _ | with_reducible refine Below.drew ?_)); (first | with_reducible assumption | with_reducible exact Below.refl _ _))))))
  all_goals
    rename_i hHeld
    have hlast := hHeld.2.2
    have HL := Lib.hid hlast
    clear hHeld hlast
    go_wp2_with fail
    go_ret
    refine ⟨?_, HI.out.2.trans (HL.out.mono HI.out.2.size)⟩
    show Ending.returned (.string (mk [101, 118, 105, 99, 116, 32] ++ mk (num at_) ++ mk [32] ++ mk (num an))) = _
    rw [mk_append, mk_append, mk_append]
    simp [lineR, sInvoke, sPick, sEvict, sBoot, List.append_assoc]

set_option maxHeartbeats 4000000 in
set_option maxRecDepth 100000 in
theorem line_open {w : World} (c op key hi lim : Int) (val : Bs) (at_ an : Int) (keep : List Int) (n : Int) (kA : Option Addr) (kL kC : Nat)  :
    Calls Tryz.prog 18 #[.agg (acC ⟨5, c, ⟨op, key, hi, lim, val⟩, at_, an, keep⟩ (.slice kA kL kC)), .int .i64 n] w (fun e w' => e = .returned (.string (mk (lineR ⟨5, c, ⟨op, key, hi, lim, val⟩, at_, an, keep⟩ n))) ∧ Below w.heap.size w w') := by
  obtain ⟨W, hW⟩ : ∃ W, W = w.alloc (.cells (acC ⟨5, c, ⟨op, key, hi, lim, val⟩, at_, an, keep⟩ (.slice kA kL kC)) 31) := ⟨_, rfl⟩
  have hN : Blk W w.heap.size 31 (acC ⟨5, c, ⟨op, key, hi, lim, val⟩, at_, an, keep⟩ (.slice kA kL kC)) := by rw [hW]; exact Blk.new _ _ _
  have hB : Below w.heap.size w W := by rw [hW]; exact (Below.refl _ _).alloc (Nat.le_refl _) _
  have HI := Lib.hid (And.intro hN hB)
  obtain ⟨d0, d1, d2, d3, d4, d5, d6, d7, d8, d9⟩ := acCells hN
  dsimp only at d0 d1 d2 d3 d4 d5 d6 d7 d8 d9
  clear hN hB
  go_enter Tryz.func18, Tryz.ntmps18
  go_upto_region 1 with fail
  rw [← hW]
  clear hW
  go_wp2_with fail
  go_ret
  exact ⟨rfl, HI.out.2⟩

set_option maxHeartbeats 4000000 in
set_option maxRecDepth 100000 in
theorem line_scavenge {w : World} (c op key hi lim : Int) (val : Bs) (at_ an : Int) (keep : List Int) (n : Int) (kA : Option Addr) (kL kC : Nat)  :
    Calls Tryz.prog 18 #[.agg (acC ⟨6, c, ⟨op, key, hi, lim, val⟩, at_, an, keep⟩ (.slice kA kL kC)), .int .i64 n] w (fun e w' => e = .returned (.string (mk (lineR ⟨6, c, ⟨op, key, hi, lim, val⟩, at_, an, keep⟩ n))) ∧ Below w.heap.size w w') := by
  obtain ⟨W, hW⟩ : ∃ W, W = w.alloc (.cells (acC ⟨6, c, ⟨op, key, hi, lim, val⟩, at_, an, keep⟩ (.slice kA kL kC)) 31) := ⟨_, rfl⟩
  have hN : Blk W w.heap.size 31 (acC ⟨6, c, ⟨op, key, hi, lim, val⟩, at_, an, keep⟩ (.slice kA kL kC)) := by rw [hW]; exact Blk.new _ _ _
  have hB : Below w.heap.size w W := by rw [hW]; exact (Below.refl _ _).alloc (Nat.le_refl _) _
  have HI := Lib.hid (And.intro hN hB)
  obtain ⟨d0, d1, d2, d3, d4, d5, d6, d7, d8, d9⟩ := acCells hN
  dsimp only at d0 d1 d2 d3 d4 d5 d6 d7 d8 d9
  clear hN hB
  go_enter Tryz.func18, Tryz.ntmps18
  go_upto_region 1 with fail
  rw [← hW]
  clear hW
  go_wp2_with fail
  go_ret
  exact ⟨rfl, HI.out.2⟩

set_option maxHeartbeats 4000000 in
set_option maxRecDepth 100000 in
theorem line_boot {w : World} (c op key hi lim : Int) (val : Bs) (at_ an : Int) (keep : List Int) (n : Int) (kA : Option Addr) (kL kC : Nat) (hn : 0 ≤ n ∧ n ≤ 9223372036854775807) :
    Calls Tryz.prog 18 #[.agg (acC ⟨7, c, ⟨op, key, hi, lim, val⟩, at_, an, keep⟩ (.slice kA kL kC)), .int .i64 n] w (fun e w' => e = .returned (.string (mk (lineR ⟨7, c, ⟨op, key, hi, lim, val⟩, at_, an, keep⟩ n))) ∧ Below w.heap.size w w') := by
  obtain ⟨W, hW⟩ : ∃ W, W = w.alloc (.cells (acC ⟨7, c, ⟨op, key, hi, lim, val⟩, at_, an, keep⟩ (.slice kA kL kC)) 31) := ⟨_, rfl⟩
  have hN : Blk W w.heap.size 31 (acC ⟨7, c, ⟨op, key, hi, lim, val⟩, at_, an, keep⟩ (.slice kA kL kC)) := by rw [hW]; exact Blk.new _ _ _
  have hB : Below w.heap.size w W := by rw [hW]; exact (Below.refl _ _).alloc (Nat.le_refl _) _
  have HI := Lib.hid (And.intro hN hB)
  obtain ⟨d0, d1, d2, d3, d4, d5, d6, d7, d8, d9⟩ := acCells hN
  dsimp only at d0 d1 d2 d3 d4 d5 d6 d7 d8 d9
  clear hN hB
  have ln := num_bd n hn.1 (by omega)
  have s0 : ¬ 9223372036854775807 < 5 + (num n).length := by omega
  clear ln
  go_enter Tryz.func18, Tryz.ntmps18
  go_upto_region 1 with fail
  rw [← hW]
  clear hW
  go_wp2_with fail
  refine (rnum_any n hn.1 hn.2).mono ?_; rintro e w1 ⟨rfl, hbw1⟩
  have Hw1 := Lib.hid (hbw1); clear hbw1
  clear d0 d1 d2 d3 d4 d5 d6 d7 d8 d9
  obtain ⟨d0, d1, d2, d3, d4, d5, d6, d7, d8, d9⟩ := acCells (HI.out.1.below Hw1.out HI.out.1.lt)
  dsimp only at d0 d1 d2 d3 d4 d5 d6 d7 d8 d9
  go_wp2_with fail
  go_ret
  refine ⟨?_, HI.out.2.trans (Hw1.out.mono HI.out.2.size)⟩
  show Ending.returned (.string (mk [98, 111, 111, 116, 32] ++ mk (num n))) = _
  rw [mk_append]
  simp [lineR, sInvoke, sPick, sEvict, sBoot, List.append_assoc]

def crashTo (keep : List Int) (k : Nat) : Bs := sCrash ++ (keep.take k).flatMap (fun x => 32 :: num x)
theorem crashTo_succ {keep : List Int} {k : Nat} {z : Int} (h : keep[k]? = some z) : crashTo keep (k + 1) = crashTo keep k ++ 32 :: num z := by
  unfold crashTo
  rw [List.take_add_one, h]
  simp
theorem crashTo_le {keep : List Int} (h : ∀ z ∈ keep, 0 ≤ z ∧ z ≤ 1099511627776) : ∀ k, k ≤ keep.length → (crashTo keep k).length ≤ 5 + 22 * k := by
  intro k
  induction k with
  | zero => intro _; simp [crashTo, sCrash]
  | succ k ih =>
    intro hk
    obtain ⟨z, hz⟩ : ∃ z, keep[k]? = some z := ⟨_, List.getElem?_eq_getElem (by omega)⟩
    have := ih (by omega)
    have hb := h z (List.mem_of_getElem? hz)
    have := num_bd z hb.1 (by omega)
    rw [crashTo_succ hz, List.length_append, List.length_cons]
    omega

set_option maxHeartbeats 4000000 in
set_option maxRecDepth 100000 in
theorem line_crash {w : World} (c op key hi lim : Int) (val : Bs) (at_ an : Int) (keep : List Int) (n : Int) (va : Value) (hva : RowR w va keep.length 1 (keep.map (Value.int .i64))) (hkp : ∀ z ∈ keep, 0 ≤ z ∧ z ≤ 1099511627776) (hla : keep.length ≤ 1000000000) :
    Calls Tryz.prog 18 #[.agg (acC ⟨4, c, ⟨op, key, hi, lim, val⟩, at_, an, keep⟩ va), .int .i64 n] w (fun e w' => e = .returned (.string (mk (lineR ⟨4, c, ⟨op, key, hi, lim, val⟩, at_, an, keep⟩ n))) ∧ Below w.heap.size w w') := by
  obtain ⟨A, cA, rfl⟩ := hva.len
  obtain ⟨W, hW⟩ : ∃ W, W = w.alloc (.cells (acC ⟨4, c, ⟨op, key, hi, lim, val⟩, at_, an, keep⟩ (.slice A keep.length cA)) 31) := ⟨_, rfl⟩
  have hN : Blk W w.heap.size 31 (acC ⟨4, c, ⟨op, key, hi, lim, val⟩, at_, an, keep⟩ (.slice A keep.length cA)) := by rw [hW]; exact Blk.new _ _ _
  have hB : Below w.heap.size w W := by rw [hW]; exact (Below.refl _ _).alloc (Nat.le_refl _) _
  obtain ⟨m, hm⟩ : ∃ m, m = keep.length := ⟨_, rfl⟩
  have HI := Lib.hid (And.intro hN (And.intro hB (And.intro (hva.next hB) (And.intro hkp hm))))
  obtain ⟨d0, d1, d2, d3, d4, d5, d6, d7, d8, d9⟩ := acCells hN
  dsimp only at d0 d1 d2 d3 d4 d5 d6 d7 d8 d9
  rw [← hm] at d9 hla ⊢
  rw [← hm] at hW
  clear hN hB hva hkp hm
  go_enter Tryz.func18, Tryz.ntmps18
  go_upto_region 1 with fail
  rw [← hW]
  clear hW
  go_wp2_with fail
  go_loopw [7, 8] (fun s7 s8 wr => ∃ k : Nat, k ≤ m ∧ s8 = .int .i64 k ∧ s7 = .string (mk (crashTo keep k)) ∧ Below W.heap.size W wr) (fun _ s8 _ => m - (RowKit.intOf s8).toNat)
  case atStart => exact ⟨0, Nat.zero_le _, rfl, by simp [crashTo, sCrash], Below.refl _ _⟩
  case round =>
    obtain ⟨k, hk, rfl, rfl, hbel⟩ := hrel
    clear d0 d1 d2 d3 d4 d5 d6 d7 d8 d9
    obtain ⟨d0, d1, d2, d3, d4, d5, d6, d7, d8, d9⟩ := acCells (HI.out.1.below hbel HI.out.1.lt)
    dsimp only at d0 d1 d2 d3 d4 d5 d6 d7 d8 d9
    have hm := HI.out.2.2.2.2
    rw [← hm] at d9
    have hcl := crashTo_le HI.out.2.2.2.1 k (by omega)
    clear hm
    have HR := Lib.hid hbel; clear hbel
    by_cases hlt : k < m
    · obtain ⟨z, hz⟩ : ∃ z, keep[k]? = some z := ⟨_, List.getElem?_eq_getElem (by have := HI.out.2.2.2.2; omega)⟩
      obtain ⟨ab, ao, rfl, _, ca⟩ := keep_row (l := keep) HI.out.2.2.1 hz
      have c1 := ca _ HR.out
      clear ca
      have hzb := HI.out.2.2.2.1 z (List.mem_of_getElem? hz)
      have ln := num_bd z hzb.1 (by omega)
      have s0 : ¬ 9223372036854775807 < (crashTo keep k).length + 1 := by omega
      have s1 : ¬ 9223372036854775807 < (crashTo keep k).length + 1 + (num z).length := by omega
      have HZ := Lib.hid (And.intro hz hzb); clear hz hzb ln hcl
      go_wp2_with fail
      refine (rnum_any z HZ.out.2.1 (by have := HZ.out.2.2; omega)).mono ?_; rintro e w1 ⟨rfl, hb1⟩
      have H1 := Lib.hid (HR.out.trans (hb1.mono HR.out.size)); clear hb1 d0 d1 d2 d3 d4 d5 d6 d7 d8 d9 c1
      go_wp2_with fail
      go_roundw
      case rel =>
        refine ⟨k + 1, by omega, by go_num, ?_, H1.out⟩
        rw [crashTo_succ HZ.out.1]
        show Value.string (mk (crashTo keep k) ++ mk [32] ++ mk (num z)) = _
        rw [mk_append, mk_append]
        simp
      case measure => simp [RowKit.intOf]; omega
    · obtain rfl : k = m := by omega
      have HF := Lib.hid (show lineR ⟨4, c, ⟨op, key, hi, lim, val⟩, at_, an, keep⟩ n = crashTo keep k by
        have := HI.out.2.2.2.2
        unfold crashTo
        rw [List.take_of_length_le (by omega)]
        simp [lineR])
      clear hcl
      go_wp2_with fail
      go_ret
      exact ⟨by rw [HF.out]; rfl, HI.out.2.1.trans (HR.out.mono HI.out.2.1.size)⟩

/-- Line, of an act that may be. -/
theorem rLine_any {w : World} (a : Ac) (va : Value) (n : Int) (hva : RowR w va a.keep.length 1 (a.keep.map (Value.int .i64))) (M : May a) (T : Typed a) (hv : a.call.val.length ≤ 100000) (hla : a.keep.length ≤ 1000000000) (hn : 0 ≤ n ∧ n ≤ 9223372036854775807) :
    Calls Tryz.prog 18 #[.agg (acC a va), .int .i64 n] w (fun e w' => e = .returned (.string (mk (lineL a n))) ∧ Below w.heap.size w w') := by
  rw [← lineR_eq M n]
  obtain ⟨A, cA, rfl⟩ := hva.len
  have k1 := M.k1
  have k7 := M.k7
  have ho := M.op
  have hc := M.client
  have hm := M.n
  have hl := M.lim
  obtain ⟨kind, client, ⟨op, key, hi, lim, val⟩, at_, an, keep⟩ := a
  simp only at k1 k7 ho hc hm hl hv hla hva
  have : kind = 1 ∨ kind = 2 ∨ kind = 3 ∨ kind = 4 ∨ kind = 5 ∨ kind = 6 ∨ kind = 7 := by omega
  rcases this with rfl | rfl | rfl | rfl | rfl | rfl | rfl
  · have : op = 1 ∨ op = 2 ∨ op = 3 ∨ op = 4 := by have := ho rfl; omega
    rcases this with rfl | rfl | rfl | rfl
    · exact line_put client key hi lim val at_ an keep n _ _ _ hc T.key hv
    · exact line_get client key hi lim val at_ an keep n _ _ _ hc T.key
    · exact line_del client key hi lim val at_ an keep n _ _ _ hc T.key
    · exact line_scan client key hi lim val at_ an keep n _ _ _ hc T.key T.hi hl
  · exact line_pick client op key hi lim val at_ an keep n _ _ _ hc hn
  · exact line_evict client op key hi lim val at_ an keep n _ _ _ T.at_ hm
  · exact line_crash client op key hi lim val at_ an keep n _ hva M.keep hla
  · exact line_open client op key hi lim val at_ an keep n _ _ _
  · exact line_scavenge client op key hi lim val at_ an keep n _ _ _
  · exact line_boot client op key hi lim val at_ an keep n _ _ _ hn

end Go.Proofs.YtbpbkmhipbchbaaGreatDoor.sc
