/-
  ScQ2: PROVED HERE: the contract of the reference's Clear. Conditions: none. (Printed by a program of mine.)
  ScQ3: PROVED HERE: the contract of the reference's MayAct. Conditions: rows that read.
-/
import Derived.Test.YtbpbkmhipbchbaaGreatDoorScQ1
import Derived.Test.YtbpbkmhipbchbaaGreatDoorScMays
import Derived.Test.YtbpbkmhipbchbaaGreatDoorScQ4
import Derived.Deep.RegionHeld3
namespace Go.Proofs.YtbpbkmhipbchbaaGreatDoor.sc
open Go.RowKit
set_option linter.unusedVariables false

theorem res_clear {X : World} {b : Nat} {a : Ac} {kv : Value} {tmps : Array Value} (hB : Blk X b 31 (acC a kv)) (h2 : tmps[2]? = some (.pointer (some ⟨b, 0, none⟩))) :
    (results Tryz.f52 tmps).run Tryz.prog X = .ok (.agg (acC a kv)) X := by
  obtain ⟨e0, e1, e2, e3, e4, e5, e6, e7, e8, e9⟩ := acCells hB
  simp [results, Tryz.results52, go_sem, h2, e0, e1, e2, e3, e4, e5, e6, e7, e8, e9, acC]
def ClearPost (w : World) (a : Ac) (kv : Value) (e : Ending) (w' : World) : Prop := e = .returned (.agg (acC a kv)) ∧ Below w.heap.size w w'

set_option maxHeartbeats 2000000 in
set_option maxRecDepth 100000 in
theorem clear_put {w : World} (client key hi lim : Int) (val : Bs) (at_ an : Int) (keep : List Int) (A : Option Addr) (m c : Nat)  :
    Calls Tryz.prog 52 #[.agg (acC ⟨1, client, ⟨1, key, hi, lim, val⟩, at_, an, keep⟩ (.slice A m c))] w (ClearPost w (⟨1, client, ⟨1, key, 0, 0, val⟩, 0, 0, []⟩) (.slice none 0 0)) := by
  obtain ⟨W, hW⟩ : ∃ W, W = (w.alloc (.cells (acC ⟨1, client, ⟨1, key, hi, lim, val⟩, at_, an, keep⟩ (.slice A m c)) 31)).alloc (.cells zCs 31) := ⟨_, rfl⟩
  have hN : Blk W w.heap.size 31 (acC ⟨1, client, ⟨1, key, hi, lim, val⟩, at_, an, keep⟩ (.slice A m c)) := by rw [hW]; exact (Blk.new _ _ _).alloc _
  have hR : Blk W (w.heap.size + 1) 31 zCs := by
    rw [hW]
    have h := Blk.new (w.alloc (.cells (acC ⟨1, client, ⟨1, key, hi, lim, val⟩, at_, an, keep⟩ (.slice A m c)) 31)) 31 zCs
    simpa using h
  have hB : Below w.heap.size w W := by rw [hW]; exact ((Below.refl _ _).alloc (Nat.le_refl _) _).alloc (by simp) _
  have hsz : W.heap.size = w.heap.size + 2 := by rw [hW]; simp
  have HI := Lib.hid (And.intro hN (And.intro hR (And.intro hB hsz)))
  obtain ⟨d0, d1, d2, d3, d4, d5, d6, d7, d8, d9⟩ := acCells hN
  dsimp only at d0 d1 d2 d3 d4 d5 d6 d7 d8 d9
  clear hN hR hB
  go_enter Tryz.func52, Tryz.ntmps52
  go_upto_region 1 with fail
  rw [← hW]
  clear hW
  go_upto_region 2 with fail
  obtain ⟨X, hX⟩ : ∃ X, X = W.alloc (.cells (acC ⟨1, 0, Cl.zero, 0, 0, []⟩ (.slice none 0 0)) 31) := ⟨_, rfl⟩
  have hXN : Blk X (w.heap.size + 2) 31 (acC ⟨1, 0, Cl.zero, 0, 0, []⟩ (.slice none 0 0)) := by
    rw [hX]
    have h := Blk.new W 31 (acC ⟨1, 0, Cl.zero, 0, 0, []⟩ (.slice none 0 0))
    rw [hsz] at h
    exact h
  have hXA : Blk X w.heap.size 31 (acC ⟨1, client, ⟨1, key, hi, lim, val⟩, at_, an, keep⟩ (.slice A m c)) := by rw [hX]; exact HI.out.1.alloc _
  have HX := Lib.hid (And.intro hXN (And.intro (show Blk X (w.heap.size + 1) 31 zCs by rw [hX]; exact HI.out.2.1.alloc _) (show Below w.heap.size w X by rw [hX]; exact HI.out.2.2.1.alloc (by omega) _)))
  have hX' : X = W.alloc (.cells #[.int .i64 1, .int .i64 0, .int .i64 0, .int .u64 0, .int .u64 0, .int .i64 0, .string ⟨#[]⟩, .int .u64 0, .int .i64 0, .slice none 0 0] 31) := hX
  rw [← hX']
  clear hX hX' d0 d1 d2 d3 d4 d5 d6 d7 d8 d9 hXN hsz
  obtain ⟨d0, d1, d2, d3, d4, d5, d6, d7, d8, d9⟩ := acCells hXA
  dsimp only at d0 d1 d2 d3 d4 d5 d6 d7 d8 d9
  clear hXA
  have z1 := HX.out.1.frozen 1
  have y1 := HX.out.1.cell 1
  have z2 := HX.out.1.frozen 2
  have y2 := HX.out.1.cell 2
  have z3 := HX.out.1.frozen 3
  have y3 := HX.out.1.cell 3
  have z6 := HX.out.1.frozen 6
  have y6 := HX.out.1.cell 6
  go_upto_region 19 with fail
  have b1 : Blk (X.setCell ⟨w.heap.size + 2, 1, none⟩ (.int .i64 client)) (w.heap.size + 2) 31 (acC ⟨1, client, ⟨0, 0, 0, 0, []⟩, 0, 0, []⟩ (.slice none 0 0)) := HX.out.1.set_ 1 _
  have b2 : Blk ((X.setCell ⟨w.heap.size + 2, 1, none⟩ (.int .i64 client)).setCell ⟨w.heap.size + 2, 2, none⟩ (.int .i64 1)) (w.heap.size + 2) 31 (acC ⟨1, client, ⟨1, 0, 0, 0, []⟩, 0, 0, []⟩ (.slice none 0 0)) := b1.set_ 2 _
  have b3 : Blk (((X.setCell ⟨w.heap.size + 2, 1, none⟩ (.int .i64 client)).setCell ⟨w.heap.size + 2, 2, none⟩ (.int .i64 1)).setCell ⟨w.heap.size + 2, 3, none⟩ (.int .u64 key)) (w.heap.size + 2) 31 (acC ⟨1, client, ⟨1, key, 0, 0, []⟩, 0, 0, []⟩ (.slice none 0 0)) := b2.set_ 3 _
  have b4 : Blk ((((X.setCell ⟨w.heap.size + 2, 1, none⟩ (.int .i64 client)).setCell ⟨w.heap.size + 2, 2, none⟩ (.int .i64 1)).setCell ⟨w.heap.size + 2, 3, none⟩ (.int .u64 key)).setCell ⟨w.heap.size + 2, 6, none⟩ (.string (mk val))) (w.heap.size + 2) 31 (acC ⟨1, client, ⟨1, key, 0, 0, val⟩, 0, 0, []⟩ (.slice none 0 0)) := b3.set_ 6 _
  obtain ⟨Y, hY⟩ : ∃ Y, Y = ((((X.setCell ⟨w.heap.size + 2, 1, none⟩ (.int .i64 client)).setCell ⟨w.heap.size + 2, 2, none⟩ (.int .i64 1)).setCell ⟨w.heap.size + 2, 3, none⟩ (.int .u64 key)).setCell ⟨w.heap.size + 2, 6, none⟩ (.string (mk val))) := ⟨_, rfl⟩
  have HY := Lib.hid (And.intro (show Blk Y (w.heap.size + 2) 31 (acC (⟨1, client, ⟨1, key, 0, 0, val⟩, 0, 0, []⟩) (.slice none 0 0)) by rw [hY]; exact b4) (And.intro (show Blk Y (w.heap.size + 1) 31 zCs by rw [hY]; exact ((((HX.out.2.1.far (p := ⟨w.heap.size + 2, 1, none⟩) (by simp) _).far (p := ⟨w.heap.size + 2, 2, none⟩) (by simp) _).far (p := ⟨w.heap.size + 2, 3, none⟩) (by simp) _).far (p := ⟨w.heap.size + 2, 6, none⟩) (by simp) _)) (show Below w.heap.size w Y by rw [hY]; exact ((((HX.out.2.2.setCell (p := ⟨w.heap.size + 2, 1, none⟩) (by simp) _).setCell (p := ⟨w.heap.size + 2, 2, none⟩) (by simp) _).setCell (p := ⟨w.heap.size + 2, 3, none⟩) (by simp) _).setCell (p := ⟨w.heap.size + 2, 6, none⟩) (by simp) _))))
  rw [← hY]
  clear hY b1 b2 b3 b4
  try clear d0 d1 d2 d3 d4 d5 d6 d7 d8 d9
  obtain ⟨g0, g1, g2, g3, g4, g5, g6, g7, g8, g9⟩ := acCells HY.out.1
  have x0 := HY.out.2.1.frozen 0
  have x1 := HY.out.2.1.frozen 1
  have x2 := HY.out.2.1.frozen 2
  have x3 := HY.out.2.1.frozen 3
  have x4 := HY.out.2.1.frozen 4
  have x5 := HY.out.2.1.frozen 5
  have x6 := HY.out.2.1.frozen 6
  have x7 := HY.out.2.1.frozen 7
  have x8 := HY.out.2.1.frozen 8
  have x9 := HY.out.2.1.frozen 9
  have w0 := HY.out.2.1.cell 0
  have w1 := HY.out.2.1.cell 1
  have w2 := HY.out.2.1.cell 2
  have w3 := HY.out.2.1.cell 3
  have w4 := HY.out.2.1.cell 4
  have w5 := HY.out.2.1.cell 5
  have w6 := HY.out.2.1.cell 6
  have w7 := HY.out.2.1.cell 7
  have w8 := HY.out.2.1.cell 8
  have w9 := HY.out.2.1.cell 9
  go_wp2_with fail
  clear w0 w1 w2 w3 w4 w5 w6 w7 w8 w9 x0 x1 x2 x3 x4 x5 x6 x7 x8 x9 g0 g1 g2 g3 g4 g5 g6 g7 g8 g9
  refine bodyPost_ret (res_clear (a := ⟨1, client, ⟨1, key, 0, 0, val⟩, 0, 0, []⟩) (kv := .slice none 0 0) (put10_blk HY.out.2.1 rfl (⟨1, client, ⟨1, key, 0, 0, val⟩, 0, 0, []⟩) (.slice none 0 0)) rfl) rfl ⟨?_, put10_below HY.out.2.2 (by simp) (⟨1, client, ⟨1, key, 0, 0, val⟩, 0, 0, []⟩) (.slice none 0 0)⟩
  rfl

set_option maxHeartbeats 2000000 in
set_option maxRecDepth 100000 in
theorem clear_scan {w : World} (client key hi lim : Int) (val : Bs) (at_ an : Int) (keep : List Int) (A : Option Addr) (m c : Nat)  :
    Calls Tryz.prog 52 #[.agg (acC ⟨1, client, ⟨4, key, hi, lim, val⟩, at_, an, keep⟩ (.slice A m c))] w (ClearPost w (⟨1, client, ⟨4, key, hi, lim, []⟩, 0, 0, []⟩) (.slice none 0 0)) := by
  obtain ⟨W, hW⟩ : ∃ W, W = (w.alloc (.cells (acC ⟨1, client, ⟨4, key, hi, lim, val⟩, at_, an, keep⟩ (.slice A m c)) 31)).alloc (.cells zCs 31) := ⟨_, rfl⟩
  have hN : Blk W w.heap.size 31 (acC ⟨1, client, ⟨4, key, hi, lim, val⟩, at_, an, keep⟩ (.slice A m c)) := by rw [hW]; exact (Blk.new _ _ _).alloc _
  have hR : Blk W (w.heap.size + 1) 31 zCs := by
    rw [hW]
    have h := Blk.new (w.alloc (.cells (acC ⟨1, client, ⟨4, key, hi, lim, val⟩, at_, an, keep⟩ (.slice A m c)) 31)) 31 zCs
    simpa using h
  have hB : Below w.heap.size w W := by rw [hW]; exact ((Below.refl _ _).alloc (Nat.le_refl _) _).alloc (by simp) _
  have hsz : W.heap.size = w.heap.size + 2 := by rw [hW]; simp
  have HI := Lib.hid (And.intro hN (And.intro hR (And.intro hB hsz)))
  obtain ⟨d0, d1, d2, d3, d4, d5, d6, d7, d8, d9⟩ := acCells hN
  dsimp only at d0 d1 d2 d3 d4 d5 d6 d7 d8 d9
  clear hN hR hB
  go_enter Tryz.func52, Tryz.ntmps52
  go_upto_region 1 with fail
  rw [← hW]
  clear hW
  go_upto_region 2 with fail
  obtain ⟨X, hX⟩ : ∃ X, X = W.alloc (.cells (acC ⟨1, 0, Cl.zero, 0, 0, []⟩ (.slice none 0 0)) 31) := ⟨_, rfl⟩
  have hXN : Blk X (w.heap.size + 2) 31 (acC ⟨1, 0, Cl.zero, 0, 0, []⟩ (.slice none 0 0)) := by
    rw [hX]
    have h := Blk.new W 31 (acC ⟨1, 0, Cl.zero, 0, 0, []⟩ (.slice none 0 0))
    rw [hsz] at h
    exact h
  have hXA : Blk X w.heap.size 31 (acC ⟨1, client, ⟨4, key, hi, lim, val⟩, at_, an, keep⟩ (.slice A m c)) := by rw [hX]; exact HI.out.1.alloc _
  have HX := Lib.hid (And.intro hXN (And.intro (show Blk X (w.heap.size + 1) 31 zCs by rw [hX]; exact HI.out.2.1.alloc _) (show Below w.heap.size w X by rw [hX]; exact HI.out.2.2.1.alloc (by omega) _)))
  have hX' : X = W.alloc (.cells #[.int .i64 1, .int .i64 0, .int .i64 0, .int .u64 0, .int .u64 0, .int .i64 0, .string ⟨#[]⟩, .int .u64 0, .int .i64 0, .slice none 0 0] 31) := hX
  rw [← hX']
  clear hX hX' d0 d1 d2 d3 d4 d5 d6 d7 d8 d9 hXN hsz
  obtain ⟨d0, d1, d2, d3, d4, d5, d6, d7, d8, d9⟩ := acCells hXA
  dsimp only at d0 d1 d2 d3 d4 d5 d6 d7 d8 d9
  clear hXA
  have z1 := HX.out.1.frozen 1
  have y1 := HX.out.1.cell 1
  have z2 := HX.out.1.frozen 2
  have y2 := HX.out.1.cell 2
  have z3 := HX.out.1.frozen 3
  have y3 := HX.out.1.cell 3
  have z4 := HX.out.1.frozen 4
  have y4 := HX.out.1.cell 4
  have z5 := HX.out.1.frozen 5
  have y5 := HX.out.1.cell 5
  go_upto_region 19 with fail
  have b1 : Blk (X.setCell ⟨w.heap.size + 2, 1, none⟩ (.int .i64 client)) (w.heap.size + 2) 31 (acC ⟨1, client, ⟨0, 0, 0, 0, []⟩, 0, 0, []⟩ (.slice none 0 0)) := HX.out.1.set_ 1 _
  have b2 : Blk ((X.setCell ⟨w.heap.size + 2, 1, none⟩ (.int .i64 client)).setCell ⟨w.heap.size + 2, 2, none⟩ (.int .i64 4)) (w.heap.size + 2) 31 (acC ⟨1, client, ⟨4, 0, 0, 0, []⟩, 0, 0, []⟩ (.slice none 0 0)) := b1.set_ 2 _
  have b3 : Blk (((X.setCell ⟨w.heap.size + 2, 1, none⟩ (.int .i64 client)).setCell ⟨w.heap.size + 2, 2, none⟩ (.int .i64 4)).setCell ⟨w.heap.size + 2, 3, none⟩ (.int .u64 key)) (w.heap.size + 2) 31 (acC ⟨1, client, ⟨4, key, 0, 0, []⟩, 0, 0, []⟩ (.slice none 0 0)) := b2.set_ 3 _
  have b4 : Blk ((((X.setCell ⟨w.heap.size + 2, 1, none⟩ (.int .i64 client)).setCell ⟨w.heap.size + 2, 2, none⟩ (.int .i64 4)).setCell ⟨w.heap.size + 2, 3, none⟩ (.int .u64 key)).setCell ⟨w.heap.size + 2, 4, none⟩ (.int .u64 hi)) (w.heap.size + 2) 31 (acC ⟨1, client, ⟨4, key, hi, 0, []⟩, 0, 0, []⟩ (.slice none 0 0)) := b3.set_ 4 _
  have b5 : Blk (((((X.setCell ⟨w.heap.size + 2, 1, none⟩ (.int .i64 client)).setCell ⟨w.heap.size + 2, 2, none⟩ (.int .i64 4)).setCell ⟨w.heap.size + 2, 3, none⟩ (.int .u64 key)).setCell ⟨w.heap.size + 2, 4, none⟩ (.int .u64 hi)).setCell ⟨w.heap.size + 2, 5, none⟩ (.int .i64 lim)) (w.heap.size + 2) 31 (acC ⟨1, client, ⟨4, key, hi, lim, []⟩, 0, 0, []⟩ (.slice none 0 0)) := b4.set_ 5 _
  obtain ⟨Y, hY⟩ : ∃ Y, Y = (((((X.setCell ⟨w.heap.size + 2, 1, none⟩ (.int .i64 client)).setCell ⟨w.heap.size + 2, 2, none⟩ (.int .i64 4)).setCell ⟨w.heap.size + 2, 3, none⟩ (.int .u64 key)).setCell ⟨w.heap.size + 2, 4, none⟩ (.int .u64 hi)).setCell ⟨w.heap.size + 2, 5, none⟩ (.int .i64 lim)) := ⟨_, rfl⟩
  have HY := Lib.hid (And.intro (show Blk Y (w.heap.size + 2) 31 (acC (⟨1, client, ⟨4, key, hi, lim, []⟩, 0, 0, []⟩) (.slice none 0 0)) by rw [hY]; exact b5) (And.intro (show Blk Y (w.heap.size + 1) 31 zCs by rw [hY]; exact (((((HX.out.2.1.far (p := ⟨w.heap.size + 2, 1, none⟩) (by simp) _).far (p := ⟨w.heap.size + 2, 2, none⟩) (by simp) _).far (p := ⟨w.heap.size + 2, 3, none⟩) (by simp) _).far (p := ⟨w.heap.size + 2, 4, none⟩) (by simp) _).far (p := ⟨w.heap.size + 2, 5, none⟩) (by simp) _)) (show Below w.heap.size w Y by rw [hY]; exact (((((HX.out.2.2.setCell (p := ⟨w.heap.size + 2, 1, none⟩) (by simp) _).setCell (p := ⟨w.heap.size + 2, 2, none⟩) (by simp) _).setCell (p := ⟨w.heap.size + 2, 3, none⟩) (by simp) _).setCell (p := ⟨w.heap.size + 2, 4, none⟩) (by simp) _).setCell (p := ⟨w.heap.size + 2, 5, none⟩) (by simp) _))))
  rw [← hY]
  clear hY b1 b2 b3 b4 b5
  try clear d0 d1 d2 d3 d4 d5 d6 d7 d8 d9
  obtain ⟨g0, g1, g2, g3, g4, g5, g6, g7, g8, g9⟩ := acCells HY.out.1
  have x0 := HY.out.2.1.frozen 0
  have x1 := HY.out.2.1.frozen 1
  have x2 := HY.out.2.1.frozen 2
  have x3 := HY.out.2.1.frozen 3
  have x4 := HY.out.2.1.frozen 4
  have x5 := HY.out.2.1.frozen 5
  have x6 := HY.out.2.1.frozen 6
  have x7 := HY.out.2.1.frozen 7
  have x8 := HY.out.2.1.frozen 8
  have x9 := HY.out.2.1.frozen 9
  have w0 := HY.out.2.1.cell 0
  have w1 := HY.out.2.1.cell 1
  have w2 := HY.out.2.1.cell 2
  have w3 := HY.out.2.1.cell 3
  have w4 := HY.out.2.1.cell 4
  have w5 := HY.out.2.1.cell 5
  have w6 := HY.out.2.1.cell 6
  have w7 := HY.out.2.1.cell 7
  have w8 := HY.out.2.1.cell 8
  have w9 := HY.out.2.1.cell 9
  go_wp2_with fail
  clear w0 w1 w2 w3 w4 w5 w6 w7 w8 w9 x0 x1 x2 x3 x4 x5 x6 x7 x8 x9 g0 g1 g2 g3 g4 g5 g6 g7 g8 g9
  refine bodyPost_ret (res_clear (a := ⟨1, client, ⟨4, key, hi, lim, []⟩, 0, 0, []⟩) (kv := .slice none 0 0) (put10_blk HY.out.2.1 rfl (⟨1, client, ⟨4, key, hi, lim, []⟩, 0, 0, []⟩) (.slice none 0 0)) rfl) rfl ⟨?_, put10_below HY.out.2.2 (by simp) (⟨1, client, ⟨4, key, hi, lim, []⟩, 0, 0, []⟩) (.slice none 0 0)⟩
  rfl

set_option maxHeartbeats 2000000 in
set_option maxRecDepth 100000 in
theorem clear_op {w : World} (client op key hi lim : Int) (val : Bs) (at_ an : Int) (keep : List Int) (A : Option Addr) (m c : Nat) (p1 : (op == 1) = false) (p4 : (op == 4) = false) :
    Calls Tryz.prog 52 #[.agg (acC ⟨1, client, ⟨op, key, hi, lim, val⟩, at_, an, keep⟩ (.slice A m c))] w (ClearPost w (⟨1, client, ⟨op, key, 0, 0, []⟩, 0, 0, []⟩) (.slice none 0 0)) := by
  obtain ⟨W, hW⟩ : ∃ W, W = (w.alloc (.cells (acC ⟨1, client, ⟨op, key, hi, lim, val⟩, at_, an, keep⟩ (.slice A m c)) 31)).alloc (.cells zCs 31) := ⟨_, rfl⟩
  have hN : Blk W w.heap.size 31 (acC ⟨1, client, ⟨op, key, hi, lim, val⟩, at_, an, keep⟩ (.slice A m c)) := by rw [hW]; exact (Blk.new _ _ _).alloc _
  have hR : Blk W (w.heap.size + 1) 31 zCs := by
    rw [hW]
    have h := Blk.new (w.alloc (.cells (acC ⟨1, client, ⟨op, key, hi, lim, val⟩, at_, an, keep⟩ (.slice A m c)) 31)) 31 zCs
    simpa using h
  have hB : Below w.heap.size w W := by rw [hW]; exact ((Below.refl _ _).alloc (Nat.le_refl _) _).alloc (by simp) _
  have hsz : W.heap.size = w.heap.size + 2 := by rw [hW]; simp
  have HI := Lib.hid (And.intro hN (And.intro hR (And.intro hB hsz)))
  obtain ⟨d0, d1, d2, d3, d4, d5, d6, d7, d8, d9⟩ := acCells hN
  dsimp only at d0 d1 d2 d3 d4 d5 d6 d7 d8 d9
  clear hN hR hB
  go_enter Tryz.func52, Tryz.ntmps52
  go_upto_region 1 with fail
  rw [← hW]
  clear hW
  go_upto_region 2 with fail
  obtain ⟨X, hX⟩ : ∃ X, X = W.alloc (.cells (acC ⟨1, 0, Cl.zero, 0, 0, []⟩ (.slice none 0 0)) 31) := ⟨_, rfl⟩
  have hXN : Blk X (w.heap.size + 2) 31 (acC ⟨1, 0, Cl.zero, 0, 0, []⟩ (.slice none 0 0)) := by
    rw [hX]
    have h := Blk.new W 31 (acC ⟨1, 0, Cl.zero, 0, 0, []⟩ (.slice none 0 0))
    rw [hsz] at h
    exact h
  have hXA : Blk X w.heap.size 31 (acC ⟨1, client, ⟨op, key, hi, lim, val⟩, at_, an, keep⟩ (.slice A m c)) := by rw [hX]; exact HI.out.1.alloc _
  have HX := Lib.hid (And.intro hXN (And.intro (show Blk X (w.heap.size + 1) 31 zCs by rw [hX]; exact HI.out.2.1.alloc _) (show Below w.heap.size w X by rw [hX]; exact HI.out.2.2.1.alloc (by omega) _)))
  have hX' : X = W.alloc (.cells #[.int .i64 1, .int .i64 0, .int .i64 0, .int .u64 0, .int .u64 0, .int .i64 0, .string ⟨#[]⟩, .int .u64 0, .int .i64 0, .slice none 0 0] 31) := hX
  rw [← hX']
  clear hX hX' d0 d1 d2 d3 d4 d5 d6 d7 d8 d9 hXN hsz
  obtain ⟨d0, d1, d2, d3, d4, d5, d6, d7, d8, d9⟩ := acCells hXA
  dsimp only at d0 d1 d2 d3 d4 d5 d6 d7 d8 d9
  clear hXA
  have z1 := HX.out.1.frozen 1
  have y1 := HX.out.1.cell 1
  have z2 := HX.out.1.frozen 2
  have y2 := HX.out.1.cell 2
  have z3 := HX.out.1.frozen 3
  have y3 := HX.out.1.cell 3
  go_upto_region 19 with fail
  have b1 : Blk (X.setCell ⟨w.heap.size + 2, 1, none⟩ (.int .i64 client)) (w.heap.size + 2) 31 (acC ⟨1, client, ⟨0, 0, 0, 0, []⟩, 0, 0, []⟩ (.slice none 0 0)) := HX.out.1.set_ 1 _
  have b2 : Blk ((X.setCell ⟨w.heap.size + 2, 1, none⟩ (.int .i64 client)).setCell ⟨w.heap.size + 2, 2, none⟩ (.int .i64 op)) (w.heap.size + 2) 31 (acC ⟨1, client, ⟨op, 0, 0, 0, []⟩, 0, 0, []⟩ (.slice none 0 0)) := b1.set_ 2 _
  have b3 : Blk (((X.setCell ⟨w.heap.size + 2, 1, none⟩ (.int .i64 client)).setCell ⟨w.heap.size + 2, 2, none⟩ (.int .i64 op)).setCell ⟨w.heap.size + 2, 3, none⟩ (.int .u64 key)) (w.heap.size + 2) 31 (acC ⟨1, client, ⟨op, key, 0, 0, []⟩, 0, 0, []⟩ (.slice none 0 0)) := b2.set_ 3 _
  obtain ⟨Y, hY⟩ : ∃ Y, Y = (((X.setCell ⟨w.heap.size + 2, 1, none⟩ (.int .i64 client)).setCell ⟨w.heap.size + 2, 2, none⟩ (.int .i64 op)).setCell ⟨w.heap.size + 2, 3, none⟩ (.int .u64 key)) := ⟨_, rfl⟩
  have HY := Lib.hid (And.intro (show Blk Y (w.heap.size + 2) 31 (acC (⟨1, client, ⟨op, key, 0, 0, []⟩, 0, 0, []⟩) (.slice none 0 0)) by rw [hY]; exact b3) (And.intro (show Blk Y (w.heap.size + 1) 31 zCs by rw [hY]; exact (((HX.out.2.1.far (p := ⟨w.heap.size + 2, 1, none⟩) (by simp) _).far (p := ⟨w.heap.size + 2, 2, none⟩) (by simp) _).far (p := ⟨w.heap.size + 2, 3, none⟩) (by simp) _)) (show Below w.heap.size w Y by rw [hY]; exact (((HX.out.2.2.setCell (p := ⟨w.heap.size + 2, 1, none⟩) (by simp) _).setCell (p := ⟨w.heap.size + 2, 2, none⟩) (by simp) _).setCell (p := ⟨w.heap.size + 2, 3, none⟩) (by simp) _))))
  rw [← hY]
  clear hY b1 b2 b3
  try clear d0 d1 d2 d3 d4 d5 d6 d7 d8 d9
  obtain ⟨g0, g1, g2, g3, g4, g5, g6, g7, g8, g9⟩ := acCells HY.out.1
  have x0 := HY.out.2.1.frozen 0
  have x1 := HY.out.2.1.frozen 1
  have x2 := HY.out.2.1.frozen 2
  have x3 := HY.out.2.1.frozen 3
  have x4 := HY.out.2.1.frozen 4
  have x5 := HY.out.2.1.frozen 5
  have x6 := HY.out.2.1.frozen 6
  have x7 := HY.out.2.1.frozen 7
  have x8 := HY.out.2.1.frozen 8
  have x9 := HY.out.2.1.frozen 9
  have w0 := HY.out.2.1.cell 0
  have w1 := HY.out.2.1.cell 1
  have w2 := HY.out.2.1.cell 2
  have w3 := HY.out.2.1.cell 3
  have w4 := HY.out.2.1.cell 4
  have w5 := HY.out.2.1.cell 5
  have w6 := HY.out.2.1.cell 6
  have w7 := HY.out.2.1.cell 7
  have w8 := HY.out.2.1.cell 8
  have w9 := HY.out.2.1.cell 9
  go_wp2_with fail
  clear w0 w1 w2 w3 w4 w5 w6 w7 w8 w9 x0 x1 x2 x3 x4 x5 x6 x7 x8 x9 g0 g1 g2 g3 g4 g5 g6 g7 g8 g9
  refine bodyPost_ret (res_clear (a := ⟨1, client, ⟨op, key, 0, 0, []⟩, 0, 0, []⟩) (kv := .slice none 0 0) (put10_blk HY.out.2.1 rfl (⟨1, client, ⟨op, key, 0, 0, []⟩, 0, 0, []⟩) (.slice none 0 0)) rfl) rfl ⟨?_, put10_below HY.out.2.2 (by simp) (⟨1, client, ⟨op, key, 0, 0, []⟩, 0, 0, []⟩) (.slice none 0 0)⟩
  rfl

set_option maxHeartbeats 2000000 in
set_option maxRecDepth 100000 in
theorem clear_pick {w : World} (client op key hi lim : Int) (val : Bs) (at_ an : Int) (keep : List Int) (A : Option Addr) (m c : Nat)  :
    Calls Tryz.prog 52 #[.agg (acC ⟨2, client, ⟨op, key, hi, lim, val⟩, at_, an, keep⟩ (.slice A m c))] w (ClearPost w (⟨2, client, Cl.zero, 0, 0, []⟩) (.slice none 0 0)) := by
  obtain ⟨W, hW⟩ : ∃ W, W = (w.alloc (.cells (acC ⟨2, client, ⟨op, key, hi, lim, val⟩, at_, an, keep⟩ (.slice A m c)) 31)).alloc (.cells zCs 31) := ⟨_, rfl⟩
  have hN : Blk W w.heap.size 31 (acC ⟨2, client, ⟨op, key, hi, lim, val⟩, at_, an, keep⟩ (.slice A m c)) := by rw [hW]; exact (Blk.new _ _ _).alloc _
  have hR : Blk W (w.heap.size + 1) 31 zCs := by
    rw [hW]
    have h := Blk.new (w.alloc (.cells (acC ⟨2, client, ⟨op, key, hi, lim, val⟩, at_, an, keep⟩ (.slice A m c)) 31)) 31 zCs
    simpa using h
  have hB : Below w.heap.size w W := by rw [hW]; exact ((Below.refl _ _).alloc (Nat.le_refl _) _).alloc (by simp) _
  have hsz : W.heap.size = w.heap.size + 2 := by rw [hW]; simp
  have HI := Lib.hid (And.intro hN (And.intro hR (And.intro hB hsz)))
  obtain ⟨d0, d1, d2, d3, d4, d5, d6, d7, d8, d9⟩ := acCells hN
  dsimp only at d0 d1 d2 d3 d4 d5 d6 d7 d8 d9
  clear hN hR hB
  go_enter Tryz.func52, Tryz.ntmps52
  go_upto_region 1 with fail
  rw [← hW]
  clear hW
  go_upto_region 2 with fail
  obtain ⟨X, hX⟩ : ∃ X, X = W.alloc (.cells (acC ⟨2, 0, Cl.zero, 0, 0, []⟩ (.slice none 0 0)) 31) := ⟨_, rfl⟩
  have hXN : Blk X (w.heap.size + 2) 31 (acC ⟨2, 0, Cl.zero, 0, 0, []⟩ (.slice none 0 0)) := by
    rw [hX]
    have h := Blk.new W 31 (acC ⟨2, 0, Cl.zero, 0, 0, []⟩ (.slice none 0 0))
    rw [hsz] at h
    exact h
  have hXA : Blk X w.heap.size 31 (acC ⟨2, client, ⟨op, key, hi, lim, val⟩, at_, an, keep⟩ (.slice A m c)) := by rw [hX]; exact HI.out.1.alloc _
  have HX := Lib.hid (And.intro hXN (And.intro (show Blk X (w.heap.size + 1) 31 zCs by rw [hX]; exact HI.out.2.1.alloc _) (show Below w.heap.size w X by rw [hX]; exact HI.out.2.2.1.alloc (by omega) _)))
  have hX' : X = W.alloc (.cells #[.int .i64 2, .int .i64 0, .int .i64 0, .int .u64 0, .int .u64 0, .int .i64 0, .string ⟨#[]⟩, .int .u64 0, .int .i64 0, .slice none 0 0] 31) := hX
  rw [← hX']
  clear hX hX' d0 d1 d2 d3 d4 d5 d6 d7 d8 d9 hXN hsz
  obtain ⟨d0, d1, d2, d3, d4, d5, d6, d7, d8, d9⟩ := acCells hXA
  dsimp only at d0 d1 d2 d3 d4 d5 d6 d7 d8 d9
  clear hXA
  have z1 := HX.out.1.frozen 1
  have y1 := HX.out.1.cell 1
  go_upto_region 19 with fail
  have b1 : Blk (X.setCell ⟨w.heap.size + 2, 1, none⟩ (.int .i64 client)) (w.heap.size + 2) 31 (acC ⟨2, client, ⟨0, 0, 0, 0, []⟩, 0, 0, []⟩ (.slice none 0 0)) := HX.out.1.set_ 1 _
  obtain ⟨Y, hY⟩ : ∃ Y, Y = (X.setCell ⟨w.heap.size + 2, 1, none⟩ (.int .i64 client)) := ⟨_, rfl⟩
  have HY := Lib.hid (And.intro (show Blk Y (w.heap.size + 2) 31 (acC (⟨2, client, Cl.zero, 0, 0, []⟩) (.slice none 0 0)) by rw [hY]; exact b1) (And.intro (show Blk Y (w.heap.size + 1) 31 zCs by rw [hY]; exact (HX.out.2.1.far (p := ⟨w.heap.size + 2, 1, none⟩) (by simp) _)) (show Below w.heap.size w Y by rw [hY]; exact (HX.out.2.2.setCell (p := ⟨w.heap.size + 2, 1, none⟩) (by simp) _))))
  rw [← hY]
  clear hY b1
  try clear d0 d1 d2 d3 d4 d5 d6 d7 d8 d9
  obtain ⟨g0, g1, g2, g3, g4, g5, g6, g7, g8, g9⟩ := acCells HY.out.1
  have x0 := HY.out.2.1.frozen 0
  have x1 := HY.out.2.1.frozen 1
  have x2 := HY.out.2.1.frozen 2
  have x3 := HY.out.2.1.frozen 3
  have x4 := HY.out.2.1.frozen 4
  have x5 := HY.out.2.1.frozen 5
  have x6 := HY.out.2.1.frozen 6
  have x7 := HY.out.2.1.frozen 7
  have x8 := HY.out.2.1.frozen 8
  have x9 := HY.out.2.1.frozen 9
  have w0 := HY.out.2.1.cell 0
  have w1 := HY.out.2.1.cell 1
  have w2 := HY.out.2.1.cell 2
  have w3 := HY.out.2.1.cell 3
  have w4 := HY.out.2.1.cell 4
  have w5 := HY.out.2.1.cell 5
  have w6 := HY.out.2.1.cell 6
  have w7 := HY.out.2.1.cell 7
  have w8 := HY.out.2.1.cell 8
  have w9 := HY.out.2.1.cell 9
  go_wp2_with fail
  clear w0 w1 w2 w3 w4 w5 w6 w7 w8 w9 x0 x1 x2 x3 x4 x5 x6 x7 x8 x9 g0 g1 g2 g3 g4 g5 g6 g7 g8 g9
  refine bodyPost_ret (res_clear (a := ⟨2, client, Cl.zero, 0, 0, []⟩) (kv := .slice none 0 0) (put10_blk HY.out.2.1 rfl (⟨2, client, Cl.zero, 0, 0, []⟩) (.slice none 0 0)) rfl) rfl ⟨?_, put10_below HY.out.2.2 (by simp) (⟨2, client, Cl.zero, 0, 0, []⟩) (.slice none 0 0)⟩
  rfl

set_option maxHeartbeats 2000000 in
set_option maxRecDepth 100000 in
theorem clear_evict {w : World} (client op key hi lim : Int) (val : Bs) (at_ an : Int) (keep : List Int) (A : Option Addr) (m c : Nat)  :
    Calls Tryz.prog 52 #[.agg (acC ⟨3, client, ⟨op, key, hi, lim, val⟩, at_, an, keep⟩ (.slice A m c))] w (ClearPost w (⟨3, 0, Cl.zero, at_, an, []⟩) (.slice none 0 0)) := by
  obtain ⟨W, hW⟩ : ∃ W, W = (w.alloc (.cells (acC ⟨3, client, ⟨op, key, hi, lim, val⟩, at_, an, keep⟩ (.slice A m c)) 31)).alloc (.cells zCs 31) := ⟨_, rfl⟩
  have hN : Blk W w.heap.size 31 (acC ⟨3, client, ⟨op, key, hi, lim, val⟩, at_, an, keep⟩ (.slice A m c)) := by rw [hW]; exact (Blk.new _ _ _).alloc _
  have hR : Blk W (w.heap.size + 1) 31 zCs := by
    rw [hW]
    have h := Blk.new (w.alloc (.cells (acC ⟨3, client, ⟨op, key, hi, lim, val⟩, at_, an, keep⟩ (.slice A m c)) 31)) 31 zCs
    simpa using h
  have hB : Below w.heap.size w W := by rw [hW]; exact ((Below.refl _ _).alloc (Nat.le_refl _) _).alloc (by simp) _
  have hsz : W.heap.size = w.heap.size + 2 := by rw [hW]; simp
  have HI := Lib.hid (And.intro hN (And.intro hR (And.intro hB hsz)))
  obtain ⟨d0, d1, d2, d3, d4, d5, d6, d7, d8, d9⟩ := acCells hN
  dsimp only at d0 d1 d2 d3 d4 d5 d6 d7 d8 d9
  clear hN hR hB
  go_enter Tryz.func52, Tryz.ntmps52
  go_upto_region 1 with fail
  rw [← hW]
  clear hW
  go_upto_region 2 with fail
  obtain ⟨X, hX⟩ : ∃ X, X = W.alloc (.cells (acC ⟨3, 0, Cl.zero, 0, 0, []⟩ (.slice none 0 0)) 31) := ⟨_, rfl⟩
  have hXN : Blk X (w.heap.size + 2) 31 (acC ⟨3, 0, Cl.zero, 0, 0, []⟩ (.slice none 0 0)) := by
    rw [hX]
    have h := Blk.new W 31 (acC ⟨3, 0, Cl.zero, 0, 0, []⟩ (.slice none 0 0))
    rw [hsz] at h
    exact h
  have hXA : Blk X w.heap.size 31 (acC ⟨3, client, ⟨op, key, hi, lim, val⟩, at_, an, keep⟩ (.slice A m c)) := by rw [hX]; exact HI.out.1.alloc _
  have HX := Lib.hid (And.intro hXN (And.intro (show Blk X (w.heap.size + 1) 31 zCs by rw [hX]; exact HI.out.2.1.alloc _) (show Below w.heap.size w X by rw [hX]; exact HI.out.2.2.1.alloc (by omega) _)))
  have hX' : X = W.alloc (.cells #[.int .i64 3, .int .i64 0, .int .i64 0, .int .u64 0, .int .u64 0, .int .i64 0, .string ⟨#[]⟩, .int .u64 0, .int .i64 0, .slice none 0 0] 31) := hX
  rw [← hX']
  clear hX hX' d0 d1 d2 d3 d4 d5 d6 d7 d8 d9 hXN hsz
  obtain ⟨d0, d1, d2, d3, d4, d5, d6, d7, d8, d9⟩ := acCells hXA
  dsimp only at d0 d1 d2 d3 d4 d5 d6 d7 d8 d9
  clear hXA
  have z7 := HX.out.1.frozen 7
  have y7 := HX.out.1.cell 7
  have z8 := HX.out.1.frozen 8
  have y8 := HX.out.1.cell 8
  go_upto_region 19 with fail
  have b1 : Blk (X.setCell ⟨w.heap.size + 2, 7, none⟩ (.int .u64 at_)) (w.heap.size + 2) 31 (acC ⟨3, 0, ⟨0, 0, 0, 0, []⟩, at_, 0, []⟩ (.slice none 0 0)) := HX.out.1.set_ 7 _
  have b2 : Blk ((X.setCell ⟨w.heap.size + 2, 7, none⟩ (.int .u64 at_)).setCell ⟨w.heap.size + 2, 8, none⟩ (.int .i64 an)) (w.heap.size + 2) 31 (acC ⟨3, 0, ⟨0, 0, 0, 0, []⟩, at_, an, []⟩ (.slice none 0 0)) := b1.set_ 8 _
  obtain ⟨Y, hY⟩ : ∃ Y, Y = ((X.setCell ⟨w.heap.size + 2, 7, none⟩ (.int .u64 at_)).setCell ⟨w.heap.size + 2, 8, none⟩ (.int .i64 an)) := ⟨_, rfl⟩
  have HY := Lib.hid (And.intro (show Blk Y (w.heap.size + 2) 31 (acC (⟨3, 0, Cl.zero, at_, an, []⟩) (.slice none 0 0)) by rw [hY]; exact b2) (And.intro (show Blk Y (w.heap.size + 1) 31 zCs by rw [hY]; exact ((HX.out.2.1.far (p := ⟨w.heap.size + 2, 7, none⟩) (by simp) _).far (p := ⟨w.heap.size + 2, 8, none⟩) (by simp) _)) (show Below w.heap.size w Y by rw [hY]; exact ((HX.out.2.2.setCell (p := ⟨w.heap.size + 2, 7, none⟩) (by simp) _).setCell (p := ⟨w.heap.size + 2, 8, none⟩) (by simp) _))))
  rw [← hY]
  clear hY b1 b2
  try clear d0 d1 d2 d3 d4 d5 d6 d7 d8 d9
  obtain ⟨g0, g1, g2, g3, g4, g5, g6, g7, g8, g9⟩ := acCells HY.out.1
  have x0 := HY.out.2.1.frozen 0
  have x1 := HY.out.2.1.frozen 1
  have x2 := HY.out.2.1.frozen 2
  have x3 := HY.out.2.1.frozen 3
  have x4 := HY.out.2.1.frozen 4
  have x5 := HY.out.2.1.frozen 5
  have x6 := HY.out.2.1.frozen 6
  have x7 := HY.out.2.1.frozen 7
  have x8 := HY.out.2.1.frozen 8
  have x9 := HY.out.2.1.frozen 9
  have w0 := HY.out.2.1.cell 0
  have w1 := HY.out.2.1.cell 1
  have w2 := HY.out.2.1.cell 2
  have w3 := HY.out.2.1.cell 3
  have w4 := HY.out.2.1.cell 4
  have w5 := HY.out.2.1.cell 5
  have w6 := HY.out.2.1.cell 6
  have w7 := HY.out.2.1.cell 7
  have w8 := HY.out.2.1.cell 8
  have w9 := HY.out.2.1.cell 9
  go_wp2_with fail
  clear w0 w1 w2 w3 w4 w5 w6 w7 w8 w9 x0 x1 x2 x3 x4 x5 x6 x7 x8 x9 g0 g1 g2 g3 g4 g5 g6 g7 g8 g9
  refine bodyPost_ret (res_clear (a := ⟨3, 0, Cl.zero, at_, an, []⟩) (kv := .slice none 0 0) (put10_blk HY.out.2.1 rfl (⟨3, 0, Cl.zero, at_, an, []⟩) (.slice none 0 0)) rfl) rfl ⟨?_, put10_below HY.out.2.2 (by simp) (⟨3, 0, Cl.zero, at_, an, []⟩) (.slice none 0 0)⟩
  rfl

set_option maxHeartbeats 2000000 in
set_option maxRecDepth 100000 in
theorem clear_crash {w : World} (client op key hi lim : Int) (val : Bs) (at_ an : Int) (keep : List Int) (A : Option Addr) (m c : Nat)  :
    Calls Tryz.prog 52 #[.agg (acC ⟨4, client, ⟨op, key, hi, lim, val⟩, at_, an, keep⟩ (.slice A m c))] w (ClearPost w (⟨4, 0, Cl.zero, 0, 0, keep⟩) (.slice A m c)) := by
  obtain ⟨W, hW⟩ : ∃ W, W = (w.alloc (.cells (acC ⟨4, client, ⟨op, key, hi, lim, val⟩, at_, an, keep⟩ (.slice A m c)) 31)).alloc (.cells zCs 31) := ⟨_, rfl⟩
  have hN : Blk W w.heap.size 31 (acC ⟨4, client, ⟨op, key, hi, lim, val⟩, at_, an, keep⟩ (.slice A m c)) := by rw [hW]; exact (Blk.new _ _ _).alloc _
  have hR : Blk W (w.heap.size + 1) 31 zCs := by
    rw [hW]
    have h := Blk.new (w.alloc (.cells (acC ⟨4, client, ⟨op, key, hi, lim, val⟩, at_, an, keep⟩ (.slice A m c)) 31)) 31 zCs
    simpa using h
  have hB : Below w.heap.size w W := by rw [hW]; exact ((Below.refl _ _).alloc (Nat.le_refl _) _).alloc (by simp) _
  have hsz : W.heap.size = w.heap.size + 2 := by rw [hW]; simp
  have HI := Lib.hid (And.intro hN (And.intro hR (And.intro hB hsz)))
  obtain ⟨d0, d1, d2, d3, d4, d5, d6, d7, d8, d9⟩ := acCells hN
  dsimp only at d0 d1 d2 d3 d4 d5 d6 d7 d8 d9
  clear hN hR hB
  go_enter Tryz.func52, Tryz.ntmps52
  go_upto_region 1 with fail
  rw [← hW]
  clear hW
  go_upto_region 2 with fail
  obtain ⟨X, hX⟩ : ∃ X, X = W.alloc (.cells (acC ⟨4, 0, Cl.zero, 0, 0, []⟩ (.slice none 0 0)) 31) := ⟨_, rfl⟩
  have hXN : Blk X (w.heap.size + 2) 31 (acC ⟨4, 0, Cl.zero, 0, 0, []⟩ (.slice none 0 0)) := by
    rw [hX]
    have h := Blk.new W 31 (acC ⟨4, 0, Cl.zero, 0, 0, []⟩ (.slice none 0 0))
    rw [hsz] at h
    exact h
  have hXA : Blk X w.heap.size 31 (acC ⟨4, client, ⟨op, key, hi, lim, val⟩, at_, an, keep⟩ (.slice A m c)) := by rw [hX]; exact HI.out.1.alloc _
  have HX := Lib.hid (And.intro hXN (And.intro (show Blk X (w.heap.size + 1) 31 zCs by rw [hX]; exact HI.out.2.1.alloc _) (show Below w.heap.size w X by rw [hX]; exact HI.out.2.2.1.alloc (by omega) _)))
  have hX' : X = W.alloc (.cells #[.int .i64 4, .int .i64 0, .int .i64 0, .int .u64 0, .int .u64 0, .int .i64 0, .string ⟨#[]⟩, .int .u64 0, .int .i64 0, .slice none 0 0] 31) := hX
  rw [← hX']
  clear hX hX' d0 d1 d2 d3 d4 d5 d6 d7 d8 d9 hXN hsz
  obtain ⟨d0, d1, d2, d3, d4, d5, d6, d7, d8, d9⟩ := acCells hXA
  dsimp only at d0 d1 d2 d3 d4 d5 d6 d7 d8 d9
  clear hXA
  have z9 := HX.out.1.frozen 9
  have y9 := HX.out.1.cell 9
  go_upto_region 19 with fail
  have b1 : Blk (X.setCell ⟨w.heap.size + 2, 9, none⟩ (.slice A m c)) (w.heap.size + 2) 31 (acC ⟨4, 0, ⟨0, 0, 0, 0, []⟩, 0, 0, keep⟩ (.slice A m c)) := HX.out.1.set_ 9 _
  obtain ⟨Y, hY⟩ : ∃ Y, Y = (X.setCell ⟨w.heap.size + 2, 9, none⟩ (.slice A m c)) := ⟨_, rfl⟩
  have HY := Lib.hid (And.intro (show Blk Y (w.heap.size + 2) 31 (acC (⟨4, 0, Cl.zero, 0, 0, keep⟩) (.slice A m c)) by rw [hY]; exact b1) (And.intro (show Blk Y (w.heap.size + 1) 31 zCs by rw [hY]; exact (HX.out.2.1.far (p := ⟨w.heap.size + 2, 9, none⟩) (by simp) _)) (show Below w.heap.size w Y by rw [hY]; exact (HX.out.2.2.setCell (p := ⟨w.heap.size + 2, 9, none⟩) (by simp) _))))
  rw [← hY]
  clear hY b1
  try clear d0 d1 d2 d3 d4 d5 d6 d7 d8 d9
  obtain ⟨g0, g1, g2, g3, g4, g5, g6, g7, g8, g9⟩ := acCells HY.out.1
  have x0 := HY.out.2.1.frozen 0
  have x1 := HY.out.2.1.frozen 1
  have x2 := HY.out.2.1.frozen 2
  have x3 := HY.out.2.1.frozen 3
  have x4 := HY.out.2.1.frozen 4
  have x5 := HY.out.2.1.frozen 5
  have x6 := HY.out.2.1.frozen 6
  have x7 := HY.out.2.1.frozen 7
  have x8 := HY.out.2.1.frozen 8
  have x9 := HY.out.2.1.frozen 9
  have w0 := HY.out.2.1.cell 0
  have w1 := HY.out.2.1.cell 1
  have w2 := HY.out.2.1.cell 2
  have w3 := HY.out.2.1.cell 3
  have w4 := HY.out.2.1.cell 4
  have w5 := HY.out.2.1.cell 5
  have w6 := HY.out.2.1.cell 6
  have w7 := HY.out.2.1.cell 7
  have w8 := HY.out.2.1.cell 8
  have w9 := HY.out.2.1.cell 9
  go_wp2_with fail
  clear w0 w1 w2 w3 w4 w5 w6 w7 w8 w9 x0 x1 x2 x3 x4 x5 x6 x7 x8 x9 g0 g1 g2 g3 g4 g5 g6 g7 g8 g9
  refine bodyPost_ret (res_clear (a := ⟨4, 0, Cl.zero, 0, 0, keep⟩) (kv := .slice A m c) (put10_blk HY.out.2.1 rfl (⟨4, 0, Cl.zero, 0, 0, keep⟩) (.slice A m c)) rfl) rfl ⟨?_, put10_below HY.out.2.2 (by simp) (⟨4, 0, Cl.zero, 0, 0, keep⟩) (.slice A m c)⟩
  rfl

set_option maxHeartbeats 2000000 in
set_option maxRecDepth 100000 in
theorem clear_other {w : World} (kind client op key hi lim : Int) (val : Bs) (at_ an : Int) (keep : List Int) (A : Option Addr) (m c : Nat) (p1 : (kind == 1) = false) (p2 : (kind == 2) = false) (p3 : (kind == 3) = false) (p4 : (kind == 4) = false) :
    Calls Tryz.prog 52 #[.agg (acC ⟨kind, client, ⟨op, key, hi, lim, val⟩, at_, an, keep⟩ (.slice A m c))] w (ClearPost w (⟨kind, 0, Cl.zero, 0, 0, []⟩) (.slice none 0 0)) := by
  obtain ⟨W, hW⟩ : ∃ W, W = (w.alloc (.cells (acC ⟨kind, client, ⟨op, key, hi, lim, val⟩, at_, an, keep⟩ (.slice A m c)) 31)).alloc (.cells zCs 31) := ⟨_, rfl⟩
  have hN : Blk W w.heap.size 31 (acC ⟨kind, client, ⟨op, key, hi, lim, val⟩, at_, an, keep⟩ (.slice A m c)) := by rw [hW]; exact (Blk.new _ _ _).alloc _
  have hR : Blk W (w.heap.size + 1) 31 zCs := by
    rw [hW]
    have h := Blk.new (w.alloc (.cells (acC ⟨kind, client, ⟨op, key, hi, lim, val⟩, at_, an, keep⟩ (.slice A m c)) 31)) 31 zCs
    simpa using h
  have hB : Below w.heap.size w W := by rw [hW]; exact ((Below.refl _ _).alloc (Nat.le_refl _) _).alloc (by simp) _
  have hsz : W.heap.size = w.heap.size + 2 := by rw [hW]; simp
  have HI := Lib.hid (And.intro hN (And.intro hR (And.intro hB hsz)))
  obtain ⟨d0, d1, d2, d3, d4, d5, d6, d7, d8, d9⟩ := acCells hN
  dsimp only at d0 d1 d2 d3 d4 d5 d6 d7 d8 d9
  clear hN hR hB
  go_enter Tryz.func52, Tryz.ntmps52
  go_upto_region 1 with fail
  rw [← hW]
  clear hW
  go_upto_region 2 with fail
  obtain ⟨X, hX⟩ : ∃ X, X = W.alloc (.cells (acC ⟨kind, 0, Cl.zero, 0, 0, []⟩ (.slice none 0 0)) 31) := ⟨_, rfl⟩
  have hXN : Blk X (w.heap.size + 2) 31 (acC ⟨kind, 0, Cl.zero, 0, 0, []⟩ (.slice none 0 0)) := by
    rw [hX]
    have h := Blk.new W 31 (acC ⟨kind, 0, Cl.zero, 0, 0, []⟩ (.slice none 0 0))
    rw [hsz] at h
    exact h
  have hXA : Blk X w.heap.size 31 (acC ⟨kind, client, ⟨op, key, hi, lim, val⟩, at_, an, keep⟩ (.slice A m c)) := by rw [hX]; exact HI.out.1.alloc _
  have HX := Lib.hid (And.intro hXN (And.intro (show Blk X (w.heap.size + 1) 31 zCs by rw [hX]; exact HI.out.2.1.alloc _) (show Below w.heap.size w X by rw [hX]; exact HI.out.2.2.1.alloc (by omega) _)))
  have hX' : X = W.alloc (.cells #[.int .i64 kind, .int .i64 0, .int .i64 0, .int .u64 0, .int .u64 0, .int .i64 0, .string ⟨#[]⟩, .int .u64 0, .int .i64 0, .slice none 0 0] 31) := hX
  rw [← hX']
  clear hX hX' d0 d1 d2 d3 d4 d5 d6 d7 d8 d9 hXN hsz
  obtain ⟨d0, d1, d2, d3, d4, d5, d6, d7, d8, d9⟩ := acCells hXA
  dsimp only at d0 d1 d2 d3 d4 d5 d6 d7 d8 d9
  clear hXA
  go_upto_region 19 with fail
  obtain ⟨Y, hY⟩ : ∃ Y, Y = X := ⟨_, rfl⟩
  have HY := Lib.hid (And.intro (show Blk Y (w.heap.size + 2) 31 (acC (⟨kind, 0, Cl.zero, 0, 0, []⟩) (.slice none 0 0)) by rw [hY]; exact HX.out.1) (And.intro (show Blk Y (w.heap.size + 1) 31 zCs by rw [hY]; exact HX.out.2.1) (show Below w.heap.size w Y by rw [hY]; exact HX.out.2.2)))
  rw [← hY]
  clear hY
  try clear d0 d1 d2 d3 d4 d5 d6 d7 d8 d9
  obtain ⟨g0, g1, g2, g3, g4, g5, g6, g7, g8, g9⟩ := acCells HY.out.1
  have x0 := HY.out.2.1.frozen 0
  have x1 := HY.out.2.1.frozen 1
  have x2 := HY.out.2.1.frozen 2
  have x3 := HY.out.2.1.frozen 3
  have x4 := HY.out.2.1.frozen 4
  have x5 := HY.out.2.1.frozen 5
  have x6 := HY.out.2.1.frozen 6
  have x7 := HY.out.2.1.frozen 7
  have x8 := HY.out.2.1.frozen 8
  have x9 := HY.out.2.1.frozen 9
  have w0 := HY.out.2.1.cell 0
  have w1 := HY.out.2.1.cell 1
  have w2 := HY.out.2.1.cell 2
  have w3 := HY.out.2.1.cell 3
  have w4 := HY.out.2.1.cell 4
  have w5 := HY.out.2.1.cell 5
  have w6 := HY.out.2.1.cell 6
  have w7 := HY.out.2.1.cell 7
  have w8 := HY.out.2.1.cell 8
  have w9 := HY.out.2.1.cell 9
  go_wp2_with fail
  clear w0 w1 w2 w3 w4 w5 w6 w7 w8 w9 x0 x1 x2 x3 x4 x5 x6 x7 x8 x9 g0 g1 g2 g3 g4 g5 g6 g7 g8 g9
  refine bodyPost_ret (res_clear (a := ⟨kind, 0, Cl.zero, 0, 0, []⟩) (kv := .slice none 0 0) (put10_blk HY.out.2.1 rfl (⟨kind, 0, Cl.zero, 0, 0, []⟩) (.slice none 0 0)) rfl) rfl ⟨?_, put10_below HY.out.2.2 (by simp) (⟨kind, 0, Cl.zero, 0, 0, []⟩) (.slice none 0 0)⟩
  rfl

theorem rClear_any {w : World} (a : Ac) (A : Option Addr) (m c : Nat) :
    Calls Tryz.prog 52 #[.agg (acC a (.slice A m c))] w (fun e w' => e = .returned (.agg (acC (clear a) (if a.kind = 4 then .slice A m c else .slice none 0 0))) ∧ Below w.heap.size w w') := by
  have key : Calls Tryz.prog 52 #[.agg (acC a (.slice A m c))] w (ClearPost w (clear a) (if a.kind = 4 then .slice A m c else .slice none 0 0)) := by
    obtain ⟨kind, client, ⟨op, key, hi, lim, val⟩, at_, an, keep⟩ := a
    by_cases k1 : kind = 1
    · subst k1
      by_cases o1 : op = 1
      · subst o1; exact clear_put client key hi lim val at_ an keep A m c
      by_cases o4 : op = 4
      · subst o4; exact clear_scan client key hi lim val at_ an keep A m c
      have e : clear ⟨1, client, ⟨op, key, hi, lim, val⟩, at_, an, keep⟩ = ⟨1, client, ⟨op, key, 0, 0, []⟩, 0, 0, []⟩ := by simp [clear, o1, o4]
      rw [e]
      exact clear_op client op key hi lim val at_ an keep A m c (by simpa using o1) (by simpa using o4)
    by_cases k2 : kind = 2
    · subst k2; exact clear_pick client op key hi lim val at_ an keep A m c
    by_cases k3 : kind = 3
    · subst k3; exact clear_evict client op key hi lim val at_ an keep A m c
    by_cases k4 : kind = 4
    · subst k4; exact clear_crash client op key hi lim val at_ an keep A m c
    have e : clear ⟨kind, client, ⟨op, key, hi, lim, val⟩, at_, an, keep⟩ = ⟨kind, 0, Cl.zero, 0, 0, []⟩ := by simp [clear, k1, k2, k3, k4]
    have e2 : (if kind = 4 then Value.slice A m c else .slice none 0 0) = .slice none 0 0 := if_neg k4
    rw [e]
    show Calls Tryz.prog 52 _ w (ClearPost w _ (if kind = 4 then Value.slice A m c else .slice none 0 0))
    rw [e2]
    exact clear_other kind client op key hi lim val at_ an keep A m c (by simpa using k1) (by simpa using k2) (by simpa using k3) (by simpa using k4)
  exact key

end Go.Proofs.YtbpbkmhipbchbaaGreatDoor.sc

namespace Go.Proofs.YtbpbkmhipbchbaaGreatDoor.sc
open Go.RowKit
set_option linter.unusedVariables false

theorem rFits_is {w : World} {n : Int} {b : Bool} (h : fits n = b) : Calls Tryz.prog 51 #[.int .i64 n] w fun e w' => e = .returned (.bool b) ∧ w' = w := by
  rw [← h]; exact rFits_any w n
theorem clear_row {w : World} {a : Ac} {va : Value} (h : RowR w va a.keep.length 1 (a.keep.map (Value.int .i64))) : RowR w (if a.kind = 4 then va else .slice none 0 0) (clear a).keep.length 1 ((clear a).keep.map (Value.int .i64)) := by
  by_cases h4 : a.kind = 4
  · rw [if_pos h4, show (clear a).keep = a.keep from if_pos h4]; exact h
  · rw [if_neg h4, show (clear a).keep = [] from if_neg h4]; exact RowR.nil _ _
theorem may_clear {w : World} {kind client op key hi lim : Int} {val : Bs} {at_ an : Int} {keep : List Int} {A : Option Addr} {m c : Nat} {CL : Array Value} (h : CL = acC (clear ⟨kind, client, ⟨op, key, hi, lim, val⟩, at_, an, keep⟩) (if kind = 4 then .slice A m c else .slice none 0 0)) :
    Calls Tryz.prog 52 #[.agg #[.int .i64 kind, .int .i64 client, .int .i64 op, .int .u64 key, .int .u64 hi, .int .i64 lim, .string (mk val), .int .u64 at_, .int .i64 an, .slice A m c]] w (fun e w' => e = .returned (.agg CL) ∧ Below w.heap.size w w') := by
  rw [h]; exact rClear_any ⟨kind, client, ⟨op, key, hi, lim, val⟩, at_, an, keep⟩ A m c
theorem may_same {w : World} {kind client op key hi lim : Int} {val : Bs} {at_ an : Int} {keep : List Int} {A : Option Addr} {c : Nat} {CL : Array Value} {ec : Bool} (h : CL = acC (clear ⟨kind, client, ⟨op, key, hi, lim, val⟩, at_, an, keep⟩) (if kind = 4 then .slice A keep.length c else .slice none 0 0)) (hr : RowR w (.slice A keep.length c) keep.length 1 (keep.map (Value.int .i64))) (hla : keep.length ≤ 1000000000) (he : ec = decide ((⟨kind, client, ⟨op, key, hi, lim, val⟩, at_, an, keep⟩ : Ac) = clear ⟨kind, client, ⟨op, key, hi, lim, val⟩, at_, an, keep⟩)) :
    Calls Tryz.prog 11 #[.agg #[.int .i64 kind, .int .i64 client, .int .i64 op, .int .u64 key, .int .u64 hi, .int .i64 lim, .string (mk val), .int .u64 at_, .int .i64 an, .slice A keep.length c], .agg CL] w (fun e w' => e = .returned (.bool ec) ∧ Below w.heap.size w w') := by
  rw [h, he]
  exact rSame_any ⟨kind, client, ⟨op, key, hi, lim, val⟩, at_, an, keep⟩ (clear ⟨kind, client, ⟨op, key, hi, lim, val⟩, at_, an, keep⟩) _ _ hr (clear_row (a := ⟨kind, client, ⟨op, key, hi, lim, val⟩, at_, an, keep⟩) hr) hla
theorem all_take {l : List Int} (f : Int → Bool) (h : ∀ x ∈ l, f x = true) : l.all f = true := List.all_eq_true.2 h

set_option maxHeartbeats 4000000 in
set_option maxRecDepth 100000 in
theorem rMayAct_any {w : World} (a : Ac) (va : Value) (hva : RowR w va a.keep.length 1 (a.keep.map (Value.int .i64))) (hla : a.keep.length ≤ 1000000000) :
    Calls Tryz.prog 16 #[.agg (acC a va)] w (fun e w' => e = .returned (.bool (mayAct a)) ∧ Below w.heap.size w w') := by
  obtain ⟨A, cA, rfl⟩ := hva.len
  obtain ⟨kind, client, ⟨op, key, hi, lim, val⟩, at_, an, keep⟩ := a
  simp only at hva hla
  obtain ⟨W, hW⟩ : ∃ W, W = w.alloc (.cells (acC ⟨kind, client, ⟨op, key, hi, lim, val⟩, at_, an, keep⟩ (.slice A keep.length cA)) 31) := ⟨_, rfl⟩
  have hN : Blk W w.heap.size 31 (acC ⟨kind, client, ⟨op, key, hi, lim, val⟩, at_, an, keep⟩ (.slice A keep.length cA)) := by rw [hW]; exact Blk.new _ _ _
  have hB : Below w.heap.size w W := by rw [hW]; exact (Below.refl _ _).alloc (Nat.le_refl _) _
  have HI := Lib.hid (And.intro hN (And.intro hB (And.intro (hva.next hB) hla)))
  obtain ⟨d0, d1, d2, d3, d4, d5, d6, d7, d8, d9⟩ := acCells hN
  dsimp only at d0 d1 d2 d3 d4 d5 d6 d7 d8 d9
  clear hN hB hva
  obtain ⟨q, hq⟩ : ∃ q, q = mayAct ⟨kind, client, ⟨op, key, hi, lim, val⟩, at_, an, keep⟩ := ⟨_, rfl⟩
  have HD := Lib.hid (show q = (decide (1 ≤ kind) && decide (kind ≤ 7) && fits client && fits an && fits lim && decide ((⟨kind, client, ⟨op, key, hi, lim, val⟩, at_, an, keep⟩ : Ac) = clear ⟨kind, client, ⟨op, key, hi, lim, val⟩, at_, an, keep⟩) && (if kind = 1 then decide (1 ≤ op) && decide (op ≤ 4) else true) && keep.all fits) from hq)
  rw [← hq]
  clear hq
  go_enter Tryz.func16, Tryz.ntmps16
  go_upto_region 1 with fail
  rw [← hW]
  clear hW
  by_cases c0 : kind < 1
  · have HG := Lib.hid (show q = false from HD.out.trans (by rw [decide_eq_false (show ¬ 1 ≤ kind by omega)]; simp))
    clear HD
    go_quiet (fail)
    go_wp2_with fail
    go_ret
    exact ⟨by rw [HG.out]; first | done | rfl, below_drewN HI.out.2.1 _⟩
  by_cases c1 : 7 < kind
  · have HG := Lib.hid (show q = false from HD.out.trans (by rw [decide_eq_false (show ¬ kind ≤ 7 by omega)]; simp))
    clear HD
    go_quiet (fail)
    go_wp2_with fail
    go_ret
    exact ⟨by rw [HG.out]; first | done | rfl, below_drewN HI.out.2.1 _⟩
  rw [decide_eq_true (show 1 ≤ kind by omega), decide_eq_true (show kind ≤ 7 by omega)] at HD
  cases f1 : fits client with
  | false =>
    have HG := Lib.hid (show q = false from HD.out.trans (by rw [f1]; simp))
    have F1 := Lib.hid f1; clear f1 HD
    go_quiet (first | (go_at_call 51; exact Calls.quiet_of_same (rFits_is F1.out)))
    go_wp2_with fail
    go_ret
    exact ⟨by rw [HG.out]; first | done | rfl, below_drewN HI.out.2.1 _⟩
  | true =>
  cases f2 : fits an with
  | false =>
    have HG := Lib.hid (show q = false from HD.out.trans (by rw [f2]; simp))
    have F1 := Lib.hid f1; clear f1 HD
    have F2 := Lib.hid f2; clear f2
    go_quiet (first | (go_at_call 51; exact Calls.quiet_of_same (rFits_is F1.out)) | (go_at_call 51; exact Calls.quiet_of_same (rFits_is F2.out)))
    go_wp2_with fail
    go_ret
    exact ⟨by rw [HG.out]; first | done | rfl, below_drewN HI.out.2.1 _⟩
  | true =>
  cases f3 : fits lim with
  | false =>
    have HG := Lib.hid (show q = false from HD.out.trans (by rw [f3]; simp))
    have F1 := Lib.hid f1; clear f1 HD
    have F2 := Lib.hid f2; clear f2
    have F3 := Lib.hid f3; clear f3
    go_quiet (first | (go_at_call 51; exact Calls.quiet_of_same (rFits_is F1.out)) | (go_at_call 51; exact Calls.quiet_of_same (rFits_is F2.out)) | (go_at_call 51; exact Calls.quiet_of_same (rFits_is F3.out)))
    go_wp2_with fail
    go_ret
    exact ⟨by rw [HG.out]; first | done | rfl, below_drewN HI.out.2.1 _⟩
  | true =>
  have F1 := Lib.hid f1
  have F2 := Lib.hid f2
  have F3 := Lib.hid f3
  rw [f1, f2, f3] at HD
  clear f1 f2 f3
  have HS2 := Lib.hid (show ∀ wx, Below W.heap.size W wx → (fun wx => wx.cell? ⟨w.heap.size, 0, none⟩ = some (.int .i64 kind) ∧ wx.cell? ⟨w.heap.size, 1, none⟩ = some (.int .i64 client) ∧ wx.cell? ⟨w.heap.size, 2, none⟩ = some (.int .i64 op) ∧ wx.cell? ⟨w.heap.size, 3, none⟩ = some (.int .u64 key) ∧ wx.cell? ⟨w.heap.size, 4, none⟩ = some (.int .u64 hi) ∧ wx.cell? ⟨w.heap.size, 5, none⟩ = some (.int .i64 lim) ∧ wx.cell? ⟨w.heap.size, 6, none⟩ = some (.string (mk val)) ∧ wx.cell? ⟨w.heap.size, 7, none⟩ = some (.int .u64 at_) ∧ wx.cell? ⟨w.heap.size, 8, none⟩ = some (.int .i64 an) ∧ wx.cell? ⟨w.heap.size, 9, none⟩ = some (.slice A keep.length cA) ∧ Below W.heap.size W wx) wx from fun wx hk => by
    obtain ⟨b0, b1, b2, b3, b4, b5, b6, b7, b8, b9⟩ := acCells (HI.out.1.below hk HI.out.1.lt)
    exact ⟨b0, b1, b2, b3, b4, b5, b6, b7, b8, b9, hk⟩)
  have HR := Lib.hid (show ∀ wx, Below W.heap.size W wx → RowR wx (.slice A keep.length cA) keep.length 1 (keep.map (Value.int .i64)) from fun wx hk => HI.out.2.2.1.next hk)
  have hk0 : Below W.heap.size W W.drew := (Below.refl _ _).drew
  have g1 : ¬ (7 : Int) < kind := c1
  obtain ⟨ec, hec⟩ : ∃ ec, ec = decide ((⟨kind, client, ⟨op, key, hi, lim, val⟩, at_, an, keep⟩ : Ac) = clear ⟨kind, client, ⟨op, key, hi, lim, val⟩, at_, an, keep⟩) := ⟨_, rfl⟩
  rw [← hec] at HD
  have HEC := Lib.hid hec; clear hec
  obtain ⟨CL, hCL⟩ : ∃ CL, CL = acC (clear ⟨kind, client, ⟨op, key, hi, lim, val⟩, at_, an, keep⟩) (if kind = 4 then .slice A keep.length cA else .slice none 0 0) := ⟨_, rfl⟩
  have HCL := Lib.hid hCL; clear hCL
  clear d0 d1 d2 d3 d4 d5 d6 d7 d8 d9
  go_cut [37] (fun s37 wx => s37 = .bool (!ec) ∧ Below W.heap.size W wx)
  case first =>
    cases ec with
    | true =>
      go_region_held3 (fun wx => wx.cell? ⟨w.heap.size, 0, none⟩ = some (.int .i64 kind) ∧ wx.cell? ⟨w.heap.size, 1, none⟩ = some (.int .i64 client) ∧ wx.cell? ⟨w.heap.size, 2, none⟩ = some (.int .i64 op) ∧ wx.cell? ⟨w.heap.size, 3, none⟩ = some (.int .u64 key) ∧ wx.cell? ⟨w.heap.size, 4, none⟩ = some (.int .u64 hi) ∧ wx.cell? ⟨w.heap.size, 5, none⟩ = some (.int .i64 lim) ∧ wx.cell? ⟨w.heap.size, 6, none⟩ = some (.string (mk val)) ∧ wx.cell? ⟨w.heap.size, 7, none⟩ = some (.int .u64 at_) ∧ wx.cell? ⟨w.heap.size, 8, none⟩ = some (.int .i64 an) ∧ wx.cell? ⟨w.heap.size, 9, none⟩ = some (.slice A keep.length cA) ∧ Below W.heap.size W wx)
        (exact HS2.out _ (by (first | with_reducible assumption | ((repeat (first | with_reducible refine below_more ?_ _ | with_reducible refine Below.drew ?_)); (first | with_reducible assumption | with_reducible exact Below.refl _ _)))))
        (first
          | (go_at_call 51; with_reducible refine (rFits_is F1.out).mono ?_; rintro e w3 ⟨rfl, rfl⟩)
          | (go_at_call 51; with_reducible refine (rFits_is F2.out).mono ?_; rintro e w3 ⟨rfl, rfl⟩)
          | (go_at_call 51; with_reducible refine (rFits_is F3.out).mono ?_; rintro e w3 ⟨rfl, rfl⟩)
          | (go_at_call 52; with_reducible refine (may_clear HCL.out).mono ?_; rintro e w4 ⟨rfl, hb4⟩; have K4 : Below W.heap.size W w4 := below_past ?hk4 hb4; (case hk4 => (first | with_reducible assumption | ((repeat (first | with_reducible refine below_more ?_ _ | with_reducible refine Below.drew ?_)); (first | with_reducible assumption | with_reducible exact Below.refl _ _)))))
          | (go_at_call 11; with_reducible refine (may_same HCL.out (HR.out _ ?hx) HI.out.2.2.2 HEC.out).mono ?_; (case hx => (first | with_reducible assumption | ((repeat (first | with_reducible refine below_more ?_ _ | with_reducible refine Below.drew ?_)); (first | with_reducible assumption | with_reducible exact Below.refl _ _)))); rintro e w5 ⟨rfl, hb5⟩; have K5 : Below W.heap.size W w5 := below_past ?hk5 hb5; (case hk5 => (first | with_reducible assumption | ((repeat (first | with_reducible refine below_more ?_ _ | with_reducible refine Below.drew ?_)); (first | with_reducible assumption | with_reducible exact Below.refl _ _))))))
      all_goals
        go_wp2_with fail
        go_meet
        exact ⟨rfl, K5⟩
    | false =>
      go_region_held3 (fun wx => wx.cell? ⟨w.heap.size, 0, none⟩ = some (.int .i64 kind) ∧ wx.cell? ⟨w.heap.size, 1, none⟩ = some (.int .i64 client) ∧ wx.cell? ⟨w.heap.size, 2, none⟩ = some (.int .i64 op) ∧ wx.cell? ⟨w.heap.size, 3, none⟩ = some (.int .u64 key) ∧ wx.cell? ⟨w.heap.size, 4, none⟩ = some (.int .u64 hi) ∧ wx.cell? ⟨w.heap.size, 5, none⟩ = some (.int .i64 lim) ∧ wx.cell? ⟨w.heap.size, 6, none⟩ = some (.string (mk val)) ∧ wx.cell? ⟨w.heap.size, 7, none⟩ = some (.int .u64 at_) ∧ wx.cell? ⟨w.heap.size, 8, none⟩ = some (.int .i64 an) ∧ wx.cell? ⟨w.heap.size, 9, none⟩ = some (.slice A keep.length cA) ∧ Below W.heap.size W wx)
        (exact HS2.out _ (by (first | with_reducible assumption | ((repeat (first | with_reducible refine below_more ?_ _ | with_reducible refine Below.drew ?_)); (first | with_reducible assumption | with_reducible exact Below.refl _ _)))))
        (first
          | (go_at_call 51; with_reducible refine (rFits_is F1.out).mono ?_; rintro e w3 ⟨rfl, rfl⟩)
          | (go_at_call 51; with_reducible refine (rFits_is F2.out).mono ?_; rintro e w3 ⟨rfl, rfl⟩)
          | (go_at_call 51; with_reducible refine (rFits_is F3.out).mono ?_; rintro e w3 ⟨rfl, rfl⟩)
          | (go_at_call 52; with_reducible refine (may_clear HCL.out).mono ?_; rintro e w4 ⟨rfl, hb4⟩; have K4 : Below W.heap.size W w4 := below_past ?hk4 hb4; (case hk4 => (first | with_reducible assumption | ((repeat (first | with_reducible refine below_more ?_ _ | with_reducible refine Below.drew ?_)); (first | with_reducible assumption | with_reducible exact Below.refl _ _)))))
          | (go_at_call 11; with_reducible refine (may_same HCL.out (HR.out _ ?hx) HI.out.2.2.2 HEC.out).mono ?_; (case hx => (first | with_reducible assumption | ((repeat (first | with_reducible refine below_more ?_ _ | with_reducible refine Below.drew ?_)); (first | with_reducible assumption | with_reducible exact Below.refl _ _)))); rintro e w5 ⟨rfl, hb5⟩; have K5 : Below W.heap.size W w5 := below_past ?hk5 hb5; (case hk5 => (first | with_reducible assumption | ((repeat (first | with_reducible refine below_more ?_ _ | with_reducible refine Below.drew ?_)); (first | with_reducible assumption | with_reducible exact Below.refl _ _))))))
      all_goals
        go_wp2_with fail
        go_meet
        exact ⟨rfl, K5⟩
  case rest =>
    obtain ⟨rfl, hwc⟩ := hcut
    have HWC := Lib.hid (And.intro hwc (HI.out.2.1.trans (hwc.mono HI.out.2.1.size))); clear hwc hk0
    cases ec with
    | false =>
      have HG := Lib.hid (show q = false from HD.out.trans (by simp))
      go_wp2_with fail
      go_ret
      exact ⟨by rw [HG.out]; first | done | rfl, HWC.out.2⟩
    | true =>
      obtain ⟨d0, d1, d2, d3, d4, d5, d6, d7, d8, d9, _⟩ := HS2.out _ HWC.out.1
      obtain ⟨qq, hqq⟩ : ∃ qq, qq = (if kind = 1 then decide (1 ≤ op) && decide (op ≤ 4) else true) := ⟨_, rfl⟩
      rw [← hqq] at HD
      have HQQ := Lib.hid hqq; clear hqq
      go_upto_region 3 with fail
      go_cut [52] (fun s52 wx => s52 = .bool (!qq) ∧ wc = wx)
      case first =>
        by_cases k1 : kind = 1
        · have HQ1 := Lib.hid (show qq = (decide (1 ≤ op) && decide (op ≤ 4)) from HQQ.out.trans (if_pos k1))
          have e1 : (kind == 1) = true := by simpa using k1
          clear k1
          by_cases o1 : op < 1
          · have HQ2 := Lib.hid (show qq = false by rw [HQ1.out, decide_eq_false (show ¬ 1 ≤ op by omega)]; rfl)
            go_wp2_with fail
            go_meet
            exact ⟨by rw [HQ2.out]; first | done | rfl, rfl⟩
          · by_cases o4 : 4 < op
            · have HQ2 := Lib.hid (show qq = false by rw [HQ1.out, decide_eq_false (show ¬ op ≤ 4 by omega), Bool.and_false])
              go_wp2_with fail
              go_meet
              exact ⟨by rw [HQ2.out]; first | done | rfl, rfl⟩
            · have HQ2 := Lib.hid (show qq = true by rw [HQ1.out, decide_eq_true (show 1 ≤ op by omega), decide_eq_true (show op ≤ 4 by omega)]; rfl)
              go_wp2_with fail
              go_meet
              exact ⟨by rw [HQ2.out]; first | done | rfl, rfl⟩
        · have HQ2 := Lib.hid (show qq = true from HQQ.out.trans (if_neg k1))
          have e1 : (kind == 1) = false := by simpa using k1
          clear k1
          go_wp2_with fail
          go_meet
          exact ⟨by rw [HQ2.out]; first | done | rfl, rfl⟩
      case rest =>
        obtain ⟨rfl, hwc2⟩ := hcut
        obtain rfl := hwc2
        cases qq with
        | false =>
          have HG := Lib.hid (show q = false from HD.out.trans (by simp))
          go_wp2_with fail
          go_ret
          exact ⟨by rw [HG.out]; first | done | rfl, HWC.out.2⟩
        | true =>
          have HG := Lib.hid (show q = keep.all fits from HD.out.trans (by simp))
          obtain ⟨m, hm⟩ : ∃ m, m = keep.length := ⟨_, rfl⟩
          have hmb : m ≤ 1000000000 := by rw [hm]; exact HI.out.2.2.2
          have HM := Lib.hid hm
          rw [← hm] at d9
          clear hm
          go_wp2_with fail
          go_loopw [3] (fun s3 wr => ∃ k : Nat, k ≤ m ∧ s3 = .int .i64 k ∧ (∀ x ∈ keep.take k, fits x = true) ∧ wr = wc) (fun s3 _ => m - (RowKit.intOf s3).toNat)
          case atStart => exact ⟨0, Nat.zero_le _, rfl, by simp, rfl⟩
          case round =>
            obtain ⟨k, hk, rfl, hgood, rfl⟩ := hrel
            have HGD := Lib.hid hgood; clear hgood
            by_cases hlt : k < m
            · obtain ⟨z, hz⟩ : ∃ z, keep[k]? = some z := ⟨_, List.getElem?_eq_getElem (by have := HM.out; omega)⟩
              obtain ⟨ab, ao, rfl, _, ca⟩ := keep_row (l := keep) HI.out.2.2.1 hz
              have c1 := ca _ HWC.out.1
              clear ca
              have HZ := Lib.hid hz; clear hz
              cases fz : fits z with
              | false =>
                have HF := Lib.hid fz; clear fz
                go_wp2_with fail
                refine (rFits_is HF.out).mono ?_; rintro e w3 ⟨rfl, rfl⟩
                go_wp2_with fail
                go_ret
                refine ⟨?_, HWC.out.2⟩
                rw [HG.out, show keep.all fits = false from List.all_eq_false.2 ⟨z, List.mem_of_getElem? HZ.out, by rw [HF.out]; decide⟩]
                rfl
              | true =>
                have HF := Lib.hid fz; clear fz
                go_wp2_with fail
                refine (rFits_is HF.out).mono ?_; rintro e w3 ⟨rfl, rfl⟩
                go_wp2_with fail
                go_roundw
                case rel =>
                  refine ⟨k + 1, by omega, by go_num, ?_, by trivial⟩
                  rw [List.take_add_one, HZ.out]
                  intro x hx
                  rcases List.mem_append.1 hx with hx | hx
                  · exact HGD.out x hx
                  · simp only [Option.toList_some, List.mem_singleton] at hx
                    subst hx; exact HF.out
                case measure => simp [RowKit.intOf]; omega
            · obtain rfl : k = m := by omega
              have HA := Lib.hid (show keep.all fits = true from List.all_eq_true.2 (fun x hx => HGD.out x (by rw [List.take_of_length_le (by have := HM.out; omega)]; exact hx)))
              go_wp2_with fail
              go_ret
              exact ⟨by rw [HG.out, HA.out]; first | done | rfl, HWC.out.2⟩

end Go.Proofs.YtbpbkmhipbchbaaGreatDoor.sc
