/-
  PROVED HERE: the reference's OfLine, at lines of one kind each. Conditions: a line of at most 100000 bytes. (Printed by a program of mine.)
-/
import Derived.Test.YtbpbkmhipbchbaaGreatDoorScQ7
import Derived.StillTail
import Derived.StillTactics
namespace Go.Proofs.YtbpbkmhipbchbaaGreatDoor.sc
open Go.RowKit
set_option linter.unusedVariables false
set_option linter.unusedSimpArgs false

set_option maxHeartbeats 4000000 in
set_option maxRecDepth 100000 in
theorem rof_get {w : World} (l : Bs) (hl : l.length ≤ 100000) (h0 : wd l 0 = sInvoke) (h2 : wd l 2 = sGet) : Calls Tryz.prog 10 #[.string (mk l)] w (ROfPost w l) := by
  obtain ⟨W, hW⟩ : ∃ W, W = w.alloc (.cells zCs 31) := ⟨_, rfl⟩
  have hR : Blk W w.heap.size 31 zCs := by rw [hW]; exact Blk.new _ _ _
  have hB : Below w.heap.size w W := by rw [hW]; exact (Below.refl _ _).alloc (Nat.le_refl _) _
  have hWs : W.heap.size = w.heap.size + 1 := by rw [hW]; simp
  have HI := Lib.hid (And.intro hR (And.intro hB (And.intro hWs hl)))
  clear hR hB hWs hl
  go_enter Tryz.func10, Tryz.ntmps10
  go_upto_region 1 with fail
  rw [← hW]
  clear hW
  go_wp2_with fail
  refine (rWords_any l (by have := HI.out.2.2.2; omega)).mono ?_; rintro e w1 ⟨v1, rfl, ho1, hb1⟩
  have H1 := Lib.hid (And.intro ho1 hb1); clear ho1 hb1
  go_wp2_with (at_builtin; refine wpList_app_strs rfl _ _ rfl W.heap.size v1 _ _ rfl (H1.out.1.alloc _) (.slice (some ⟨w1.heap.size, 0, none⟩) 6 6) [[], [], [], [], [], []] rfl (lit_strs w1 [[], [], [], [], [], []] (by simp)) ?few ?base ?_)
  case few => have := splitC_few 32 l; have := HI.out.2.2.2; simp; omega
  case base => have := H1.out.2.size; simp; omega
  intro v2 w2 o2 g2
  obtain ⟨L6, hL6⟩ : ∃ L6, L6 = splitC 32 l ++ [[], [], [], [], [], []] := ⟨_, rfl⟩
  obtain ⟨N6, hN6⟩ : ∃ N6, N6 = (splitC 32 l).length + 6 := ⟨_, rfl⟩
  have o3 : w2.ownsRow W.heap.size 9 1 v2 N6 (strs L6) := by rw [hL6, hN6]; exact o2
  have hn7 : 7 ≤ N6 := by
    have : 0 < (splitC 32 l).length := List.length_pos_iff.2 (splitC_ne 32 l)
    omega
  have hnb : N6 ≤ 1000000 := by have := splitC_few 32 l; have := HI.out.2.2.2; omega
  obtain ⟨gb, cap, rfl, hg, hgl⟩ := o3.form (by omega)
  have hb2 : Below W.heap.size W w2 := (H1.out.2.alloc H1.out.2.size _).trans (g2.below.mono (by first | exact Nat.le_refl _ | omega))
  have hwd : ∀ i, i < 6 → w2.cell? ⟨gb, i, none⟩ = some (.string (mk ((splitC 32 l).getD i []))) := fun i hi => by
    rw [o3.cellAt i (by omega), hL6, strs, List.getElem?_map, List.getElem?_append, List.getD]
    by_cases hlt : i < (splitC 32 l).length
    · rw [if_pos hlt, List.getElem?_eq_getElem hlt]; rfl
    · rw [if_neg hlt, List.getElem?_eq_none (by omega : (splitC 32 l).length ≤ i)]
      have h6 : i - (splitC 32 l).length < 6 := by omega
      generalize i - (splitC 32 l).length = q at h6
      have : ∀ q, q < 6 → ([[], [], [], [], [], []] : List Bs)[q]? = some [] := by decide
      rw [this q h6]; rfl
  have HO2 := Lib.hid (And.intro hb2 (And.intro hg hgl)); clear hb2 hg o2 o3 g2 hL6 hN6
  go_upto_region 3 with fail
  obtain ⟨X, hX⟩ : ∃ X, X = w2.alloc (.cells zCs 31) := ⟨_, rfl⟩
  have hXA : Blk X w2.heap.size 31 zCs := by rw [hX]; exact Blk.new _ _ _
  have hXW : Below W.heap.size W X := by rw [hX]; exact HO2.out.1.alloc HO2.out.1.size _
  have hXc : ∀ i, i < 6 → X.cell? ⟨gb, i, none⟩ = some (.string (mk ((splitC 32 l).getD i []))) := fun i hi => by
    rw [hX, World.cell?_alloc_lt _ _ _ HO2.out.2.2]; exact hwd i hi
  obtain ⟨b6, hb6⟩ : ∃ b6, b6 = w2.heap.size := ⟨_, rfl⟩
  have hsz : W.heap.size ≤ w2.heap.size := HO2.out.1.size
  have hXs : X.heap.size = b6 + 1 := by rw [hX, hb6]; simp
  have hgb : gb < b6 := by rw [hb6]; exact HO2.out.2.2
  rw [← hb6] at hXA hsz
  have hX2 : X = w2.alloc (.cells #[.int .i64 0, .int .i64 0, .int .i64 0, .int .u64 0, .int .u64 0, .int .i64 0, .string ⟨#[]⟩, .int .u64 0, .int .i64 0, .slice none 0 0] 31) := hX
  rw [← hX2, ← hb6]
  clear hX hX2 hb6 hwd hgl
  have HX := Lib.hid (And.intro hXA (And.intro hXW (And.intro hsz (And.intro hXs hgb)))); clear hXA hXW
  obtain ⟨x0, hx0⟩ : ∃ x, x = wd l 0 := ⟨_, rfl⟩
  obtain ⟨x1, hx1⟩ : ∃ x, x = wd l 1 := ⟨_, rfl⟩
  obtain ⟨x2, hx2⟩ : ∃ x, x = wd l 2 := ⟨_, rfl⟩
  obtain ⟨x3, hx3⟩ : ∃ x, x = wd l 3 := ⟨_, rfl⟩
  obtain ⟨x4, hx4⟩ : ∃ x, x = wd l 4 := ⟨_, rfl⟩
  obtain ⟨x5, hx5⟩ : ∃ x, x = wd l 5 := ⟨_, rfl⟩
  have m0 : X.cell? ⟨gb, 0, none⟩ = some (.string (mk x0)) := by rw [hx0]; exact hXc 0 (by omega)
  have m1 : X.cell? ⟨gb, 1, none⟩ = some (.string (mk x1)) := by rw [hx1]; exact hXc 1 (by omega)
  have m2 : X.cell? ⟨gb, 2, none⟩ = some (.string (mk x2)) := by rw [hx2]; exact hXc 2 (by omega)
  have m3 : X.cell? ⟨gb, 3, none⟩ = some (.string (mk x3)) := by rw [hx3]; exact hXc 3 (by omega)
  have m4 : X.cell? ⟨gb, 4, none⟩ = some (.string (mk x4)) := by rw [hx4]; exact hXc 4 (by omega)
  have m5 : X.cell? ⟨gb, 5, none⟩ = some (.string (mk x5)) := by rw [hx5]; exact hXc 5 (by omega)
  have HM := Lib.hid (And.intro m0 (And.intro m1 (And.intro m2 (And.intro m3 (And.intro m4 m5)))))
  have HL := Lib.hid (show x1.length ≤ 1000000 ∧ x2.length ≤ 1000000 ∧ x3.length ≤ 1000000 ∧ x4.length ≤ 1000000 ∧ x5.length ≤ 1000000 from by
    rw [hx1, hx2, hx3, hx4, hx5]
    exact ⟨wd_le l 1 HI.out.2.2.2, wd_le l 2 HI.out.2.2.2, wd_le l 3 HI.out.2.2.2, wd_le l 4 HI.out.2.2.2, wd_le l 5 HI.out.2.2.2⟩)
  rw [← hx0] at h0
  rw [← hx2] at h2
  have HCC := Lib.hid (show cand l = ((⟨1, smallR x1, ⟨2, numR x3, 0, 0, []⟩, 0, 0, []⟩ : Ac), (1 : Int)) by
    rw [cand_wd, ← hx0, ← hx1, ← hx2, ← hx3, ← hx4, ← hx5]
    rw [if_pos h0]; simp only [if_neg (show ¬ x2 = sPut by rw [h2]; decide), if_pos h2])
  have e_sInvoke : (x0 == [105, 110, 118, 111, 107, 101]) = true := by rw [h0]; decide
  have f_sPut : (x2 == [112, 117, 116]) = false := by rw [h2]; decide
  have f_sGet : (x2 == [103, 101, 116]) = true := by rw [h2]; decide
  clear h2
  clear hx0 hx1 hx2 hx3 hx4 hx5 hXc h0
  have n0 : 0 < N6 := by omega
  have i0 : (0 : Int) < (N6 : Int) := by omega
  have n1 : 1 < N6 := by omega
  have i1 : (1 : Int) < (N6 : Int) := by omega
  have n2 : 2 < N6 := by omega
  have i2 : (2 : Int) < (N6 : Int) := by omega
  have n3 : 3 < N6 := by omega
  have i3 : (3 : Int) < (N6 : Int) := by omega
  have n4 : 4 < N6 := by omega
  have i4 : (4 : Int) < (N6 : Int) := by omega
  have n5 : 5 < N6 := by omega
  have i5 : (5 : Int) < (N6 : Int) := by omega
  clear hn7 hnb hsz hXs
  have z0 := HX.out.1.frozen 0
  have y0 := HX.out.1.cell 0
  have z1 := HX.out.1.frozen 1
  have y1 := HX.out.1.cell 1
  have z2 := HX.out.1.frozen 2
  have y2 := HX.out.1.cell 2
  have z3 := HX.out.1.frozen 3
  have y3 := HX.out.1.cell 3
  have z4 := HX.out.1.frozen 4
  have y4 := HX.out.1.cell 4
  have z5 := HX.out.1.frozen 5
  have y5 := HX.out.1.cell 5
  have z6 := HX.out.1.frozen 6
  have y6 := HX.out.1.cell 6
  have z7 := HX.out.1.frozen 7
  have y7 := HX.out.1.cell 7
  have z8 := HX.out.1.frozen 8
  have y8 := HX.out.1.cell 8
  have z9 := HX.out.1.frozen 9
  have y9 := HX.out.1.cell 9
  go_upto_region 6 with fail
  refine wp_region_still_tail 10 (by kernel_rfl) (by kernel_rfl) ?_
  simp only [List.take_succ_cons, List.take_zero, List.drop_succ_cons, List.drop_zero]
  still_step
  still_step
  still_step
  still_call (rSmall_any x1 HL.out.1)
  still_step
  still_step
  still_step
  still_call (rNum_any x3 HL.out.2.2.1)
  still_step
  still_step
  refine wpStill_nil ?_
  have hdrew : ({ X with drawn := X.drawn + 1 } : World) = X.drew := rfl
  rw [hdrew]
  clear hdrew
  go_upto_region 7 with fail
  obtain ⟨Y, hY⟩ : ∃ Y, Y = ((((((((((X.setCell ⟨b6, 0, none⟩ (.int .i64 1)).setCell ⟨b6, 1, none⟩ (.int .i64 (smallR x1))).setCell ⟨b6, 2, none⟩ (.int .i64 0)).setCell ⟨b6, 3, none⟩ (.int .u64 (numR x3))).setCell ⟨b6, 4, none⟩ (.int .u64 0)).setCell ⟨b6, 5, none⟩ (.int .i64 0)).setCell ⟨b6, 6, none⟩ (.string ⟨#[]⟩)).setCell ⟨b6, 7, none⟩ (.int .u64 0)).setCell ⟨b6, 8, none⟩ (.int .i64 0)).setCell ⟨b6, 9, none⟩ (.slice none 0 0)).drew := ⟨_, rfl⟩
  have hY1 : Y = (put10 X b6 ⟨1, smallR x1, ⟨0, numR x3, 0, 0, []⟩, 0, 0, []⟩ (.slice none 0 0)).drew := hY
  have B0 : Blk (put10 X b6 ⟨1, smallR x1, ⟨0, numR x3, 0, 0, []⟩, 0, 0, []⟩ (.slice none 0 0)) b6 31 (acC ⟨1, smallR x1, ⟨0, numR x3, 0, 0, []⟩, 0, 0, []⟩ (.slice none 0 0)) := put10_blk HX.out.1 rfl ⟨1, smallR x1, ⟨0, numR x3, 0, 0, []⟩, 0, 0, []⟩ (.slice none 0 0)
  have B1 : Blk Y b6 31 (acC ⟨1, smallR x1, ⟨0, numR x3, 0, 0, []⟩, 0, 0, []⟩ (.slice none 0 0)) := by rw [hY1]; exact B0.drew
  have B2 : Below W.heap.size W (put10 X b6 ⟨1, smallR x1, ⟨0, numR x3, 0, 0, []⟩, 0, 0, []⟩ (.slice none 0 0)) := put10_below HX.out.2.1 HX.out.2.2.1 ⟨1, smallR x1, ⟨0, numR x3, 0, 0, []⟩, 0, 0, []⟩ (.slice none 0 0)
  have B3 : Below W.heap.size W Y := by rw [hY1]; exact B2.drew
  have HY := Lib.hid (And.intro B1 B3); clear B0 B1 B2 B3
  have q2 : Y.cell? ⟨gb, 2, none⟩ = some (.string (mk x2)) := by rw [hY1, drew_cell, put10_cell (by have := HX.out.2.2.2.2; omega)]; exact HM.out.2.2.1
  have q4 : Y.cell? ⟨gb, 4, none⟩ = some (.string (mk x4)) := by rw [hY1, drew_cell, put10_cell (by have := HX.out.2.2.2.2; omega)]; exact HM.out.2.2.2.2.1
  have q5 : Y.cell? ⟨gb, 5, none⟩ = some (.string (mk x5)) := by rw [hY1, drew_cell, put10_cell (by have := HX.out.2.2.2.2; omega)]; exact HM.out.2.2.2.2.2
  rw [← hY]
  clear hY hY1 m0 m1 m2 m3 m4 m5 z0 z1 z2 z3 z4 z5 z6 z7 z8 z9 y0 y1 y2 y3 y4 y5 y6 y7 y8 y9
  have z2 := HY.out.1.frozen 2; have z4 := HY.out.1.frozen 4; have z5 := HY.out.1.frozen 5; have z6 := HY.out.1.frozen 6
  have y2 := HY.out.1.cell 2; have y4 := HY.out.1.cell 4; have y5 := HY.out.1.cell 5; have y6 := HY.out.1.cell 6
  go_upto_region 35 with fail
  obtain ⟨Z, hZ⟩ : ∃ Z, Z = Y.setCell ⟨b6, 2, none⟩ (.int .i64 2) := ⟨_, rfl⟩
  have hZ1 : Blk Z b6 31 (acC ⟨1, smallR x1, ⟨2, numR x3, 0, 0, []⟩, 0, 0, []⟩ (.slice none 0 0)) := by rw [hZ]; exact HY.out.1.set_ 2 _
  have hZ2 : Z.ownsRow (b6 + 1) 3 1 (.slice none 0 0) (⟨1, smallR x1, ⟨2, numR x3, 0, 0, []⟩, 0, 0, []⟩ : Ac).keep.length (ints (⟨1, smallR x1, ⟨2, numR x3, 0, 0, []⟩, 0, 0, []⟩ : Ac).keep) := by rw [hZ]; exact World.ownsRow_nil _ _ _ _
  have hZ3 : Below W.heap.size W Z := by rw [hZ]; exact HY.out.2.setCell (p := ⟨b6, 2, none⟩) HX.out.2.2.1 _
  have HZ := Lib.hid (And.intro hZ1 (And.intro (RowR.of_own hZ2) (And.intro hZ2 hZ3)))
  rw [← hZ]
  clear hZ hZ1 hZ2 hZ3 q2 q4 q5 z2 z4 z5 z6 y2 y4 y5 y6
  have HRF := Lib.hid (refOf_at HCC.out)
  obtain ⟨d0, d1, d2, d3, d4, d5, d6, d7, d8, d9⟩ := acCells HZ.out.1
  dsimp only at d0 d1 d2 d3 d4 d5 d6 d7 d8 d9
  have CS := Lib.hid (cand_small l)
  have CT := Lib.hid (cand_typed l)
  rw [HCC.out] at CS CT
  go_wp2_with fail
  refine (rMayAct_any ⟨1, smallR x1, ⟨2, numR x3, 0, 0, []⟩, 0, 0, []⟩ (.slice none 0 0) HZ.out.2.1 (Nat.le_trans CS.out.2 (by have := HI.out.2.2.2; omega))).mono ?_; rintro e w3 ⟨he, hb3⟩
  obtain ⟨q, hq⟩ : ∃ q, q = mayAct ⟨1, smallR x1, ⟨2, numR x3, 0, 0, []⟩, 0, 0, []⟩ := ⟨_, rfl⟩
  rw [← hq] at he HRF
  obtain rfl := he
  have HQ := Lib.hid hq; clear hq
  have H3 := Lib.hid (show Blk w3 b6 31 (acC ⟨1, smallR x1, ⟨2, numR x3, 0, 0, []⟩, 0, 0, []⟩ (.slice none 0 0)) ∧ w3.ownsRow (b6 + 1) 3 1 (.slice none 0 0) (⟨1, smallR x1, ⟨2, numR x3, 0, 0, []⟩, 0, 0, []⟩ : Ac).keep.length (ints (⟨1, smallR x1, ⟨2, numR x3, 0, 0, []⟩, 0, 0, []⟩ : Ac).keep) ∧ Below W.heap.size W w3 from
    ⟨HZ.out.1.below hb3 HZ.out.1.lt, own_next HZ.out.2.2.1 hb3, HZ.out.2.2.2.trans (hb3.mono HZ.out.2.2.2.size)⟩)
  clear hb3 d0 d1 d2 d3 d4 d5 d6 d7 d8 d9
  obtain ⟨d0, d1, d2, d3, d4, d5, d6, d7, d8, d9⟩ := acCells H3.out.1
  dsimp only at d0 d1 d2 d3 d4 d5 d6 d7 d8 d9
  cases q with
  | false =>
    have HN := Lib.hid (HI.out.1.below H3.out.2.2 HI.out.1.lt)
    have HB9 := Lib.hid (HI.out.2.1.trans ((H3.out.2.2).mono HI.out.2.1.size))
    have r0 := HN.out.cell 0; have r1 := HN.out.cell 1; have r2 := HN.out.cell 2; have r3 := HN.out.cell 3; have r4 := HN.out.cell 4
    have r5 := HN.out.cell 5; have r6 := HN.out.cell 6; have r7 := HN.out.cell 7; have r8 := HN.out.cell 8; have r9 := HN.out.cell 9
    have s0 := HN.out.frozen 0; have s1 := HN.out.frozen 1; have s2 := HN.out.frozen 2; have s3 := HN.out.frozen 3; have s4 := HN.out.frozen 4
    have s5 := HN.out.frozen 5; have s6 := HN.out.frozen 6; have s7 := HN.out.frozen 7; have s8 := HN.out.frozen 8; have s9 := HN.out.frozen 9
    go_wp2_with fail
    refine bodyPost_ret (res_rOf (a := Ac.zero) (kv := .slice none 0 0) (put10_blk HN.out rfl Ac.zero (.slice none 0 0)) rfl rfl rfl) rfl ⟨put10_below HB9.out (Nat.le_refl _) Ac.zero (.slice none 0 0), ?_⟩
    rw [HRF.out, if_neg (by rintro ⟨h, _⟩; cases h)]
  | true =>
    have HU := Lib.hid (show (1 : Int) ≤ 1 ∧ (1 : Int) ≤ 100000 from by decide)
    have MM := Lib.hid ((mayAct_iff _).1 HQ.out.symm)
    go_wp2_with fail
    refine (rLine_any ⟨1, smallR x1, ⟨2, numR x3, 0, 0, []⟩, 0, 0, []⟩ (.slice none 0 0) 1 (RowR.of_own H3.out.2.1) MM.out CT.out (Nat.le_trans CS.out.1 (by have := HI.out.2.2.2; omega)) (Nat.le_trans CS.out.2 (by have := HI.out.2.2.2; omega)) ⟨by have := HU.out.1; omega, by have := HU.out.2; omega⟩).mono ?_; rintro e w4 ⟨rfl, hb4⟩
    obtain ⟨s, hs⟩ : ∃ s, s = lineL ⟨1, smallR x1, ⟨2, numR x3, 0, 0, []⟩, 0, 0, []⟩ 1 := ⟨_, rfl⟩
    rw [← hs] at HRF
    rw [← hs]
    clear hs
    have H4 := Lib.hid (show Blk w4 b6 31 (acC ⟨1, smallR x1, ⟨2, numR x3, 0, 0, []⟩, 0, 0, []⟩ (.slice none 0 0)) ∧ w4.ownsRow (b6 + 1) 3 1 (.slice none 0 0) (⟨1, smallR x1, ⟨2, numR x3, 0, 0, []⟩, 0, 0, []⟩ : Ac).keep.length (ints (⟨1, smallR x1, ⟨2, numR x3, 0, 0, []⟩, 0, 0, []⟩ : Ac).keep) ∧ Below W.heap.size W w4 from
      ⟨H3.out.1.below hb4 H3.out.1.lt, own_next H3.out.2.1 hb4, H3.out.2.2.trans (hb4.mono H3.out.2.2.size)⟩)
    clear hb4 d0 d1 d2 d3 d4 d5 d6 d7 d8 d9
    obtain ⟨d0, d1, d2, d3, d4, d5, d6, d7, d8, d9⟩ := acCells H4.out.1
    dsimp only at d0 d1 d2 d3 d4 d5 d6 d7 d8 d9
    by_cases hsl : s = l
    case neg =>
      have v1 : (s == l) = false := by simpa using hsl
      have v2 : (s != l) = true := by simpa using hsl
      have HU2 := Lib.hid hsl; clear hsl
      have HN := Lib.hid (HI.out.1.below H4.out.2.2 HI.out.1.lt)
      have HB9 := Lib.hid (HI.out.2.1.trans ((H4.out.2.2).mono HI.out.2.1.size))
      have r0 := HN.out.cell 0; have r1 := HN.out.cell 1; have r2 := HN.out.cell 2; have r3 := HN.out.cell 3; have r4 := HN.out.cell 4
      have r5 := HN.out.cell 5; have r6 := HN.out.cell 6; have r7 := HN.out.cell 7; have r8 := HN.out.cell 8; have r9 := HN.out.cell 9
      have s0 := HN.out.frozen 0; have s1 := HN.out.frozen 1; have s2 := HN.out.frozen 2; have s3 := HN.out.frozen 3; have s4 := HN.out.frozen 4
      have s5 := HN.out.frozen 5; have s6 := HN.out.frozen 6; have s7 := HN.out.frozen 7; have s8 := HN.out.frozen 8; have s9 := HN.out.frozen 9
      go_wp2_with fail
      refine bodyPost_ret (res_rOf (a := Ac.zero) (kv := .slice none 0 0) (put10_blk HN.out rfl Ac.zero (.slice none 0 0)) rfl rfl rfl) rfl ⟨put10_below HB9.out (Nat.le_refl _) Ac.zero (.slice none 0 0), ?_⟩
      rw [HRF.out, if_neg (by rintro ⟨_, _, _, h⟩; exact HU2.out h)]
    have v1 : (s == l) = true := by simpa using hsl
    have v2 : (s != l) = false := by simpa using hsl
    have HU2 := Lib.hid hsl; clear hsl
    have HN := Lib.hid (HI.out.1.below H4.out.2.2 HI.out.1.lt)
    have HB9 := Lib.hid (HI.out.2.1.trans ((H4.out.2.2).mono HI.out.2.1.size))
    have r0 := HN.out.cell 0; have r1 := HN.out.cell 1; have r2 := HN.out.cell 2; have r3 := HN.out.cell 3; have r4 := HN.out.cell 4
    have r5 := HN.out.cell 5; have r6 := HN.out.cell 6; have r7 := HN.out.cell 7; have r8 := HN.out.cell 8; have r9 := HN.out.cell 9
    have s0 := HN.out.frozen 0; have s1 := HN.out.frozen 1; have s2 := HN.out.frozen 2; have s3 := HN.out.frozen 3; have s4 := HN.out.frozen 4
    have s5 := HN.out.frozen 5; have s6 := HN.out.frozen 6; have s7 := HN.out.frozen 7; have s8 := HN.out.frozen 8; have s9 := HN.out.frozen 9
    go_wp2_with fail
    refine bodyPost_ret (res_rOf (a := ⟨1, smallR x1, ⟨2, numR x3, 0, 0, []⟩, 0, 0, []⟩) (kv := (.slice none 0 0)) (put10_blk HN.out rfl ⟨1, smallR x1, ⟨2, numR x3, 0, 0, []⟩, 0, 0, []⟩ (.slice none 0 0)) rfl rfl rfl) rfl ⟨put10_below HB9.out (Nat.le_refl _) ⟨1, smallR x1, ⟨2, numR x3, 0, 0, []⟩, 0, 0, []⟩ (.slice none 0 0), ?_⟩
    rw [HRF.out, if_pos ⟨by trivial, HU.out.1, HU.out.2, HU2.out⟩]
    exact ⟨(.slice none 0 0), rfl, RowR.of_own (own_put10B H4.out.2.1 (by have := HX.out.2.2.1; have := HI.out.2.2.1; omega) ⟨1, smallR x1, ⟨2, numR x3, 0, 0, []⟩, 0, 0, []⟩ (.slice none 0 0)), fun r e => by have := (H4.out.2.1.lt r e).1; have := HX.out.2.2.1; have := HI.out.2.2.1; omega⟩

set_option maxHeartbeats 4000000 in
set_option maxRecDepth 100000 in
theorem rof_delete {w : World} (l : Bs) (hl : l.length ≤ 100000) (h0 : wd l 0 = sInvoke) (h2 : wd l 2 = sDelete) : Calls Tryz.prog 10 #[.string (mk l)] w (ROfPost w l) := by
  obtain ⟨W, hW⟩ : ∃ W, W = w.alloc (.cells zCs 31) := ⟨_, rfl⟩
  have hR : Blk W w.heap.size 31 zCs := by rw [hW]; exact Blk.new _ _ _
  have hB : Below w.heap.size w W := by rw [hW]; exact (Below.refl _ _).alloc (Nat.le_refl _) _
  have hWs : W.heap.size = w.heap.size + 1 := by rw [hW]; simp
  have HI := Lib.hid (And.intro hR (And.intro hB (And.intro hWs hl)))
  clear hR hB hWs hl
  go_enter Tryz.func10, Tryz.ntmps10
  go_upto_region 1 with fail
  rw [← hW]
  clear hW
  go_wp2_with fail
  refine (rWords_any l (by have := HI.out.2.2.2; omega)).mono ?_; rintro e w1 ⟨v1, rfl, ho1, hb1⟩
  have H1 := Lib.hid (And.intro ho1 hb1); clear ho1 hb1
  go_wp2_with (at_builtin; refine wpList_app_strs rfl _ _ rfl W.heap.size v1 _ _ rfl (H1.out.1.alloc _) (.slice (some ⟨w1.heap.size, 0, none⟩) 6 6) [[], [], [], [], [], []] rfl (lit_strs w1 [[], [], [], [], [], []] (by simp)) ?few ?base ?_)
  case few => have := splitC_few 32 l; have := HI.out.2.2.2; simp; omega
  case base => have := H1.out.2.size; simp; omega
  intro v2 w2 o2 g2
  obtain ⟨L6, hL6⟩ : ∃ L6, L6 = splitC 32 l ++ [[], [], [], [], [], []] := ⟨_, rfl⟩
  obtain ⟨N6, hN6⟩ : ∃ N6, N6 = (splitC 32 l).length + 6 := ⟨_, rfl⟩
  have o3 : w2.ownsRow W.heap.size 9 1 v2 N6 (strs L6) := by rw [hL6, hN6]; exact o2
  have hn7 : 7 ≤ N6 := by
    have : 0 < (splitC 32 l).length := List.length_pos_iff.2 (splitC_ne 32 l)
    omega
  have hnb : N6 ≤ 1000000 := by have := splitC_few 32 l; have := HI.out.2.2.2; omega
  obtain ⟨gb, cap, rfl, hg, hgl⟩ := o3.form (by omega)
  have hb2 : Below W.heap.size W w2 := (H1.out.2.alloc H1.out.2.size _).trans (g2.below.mono (by first | exact Nat.le_refl _ | omega))
  have hwd : ∀ i, i < 6 → w2.cell? ⟨gb, i, none⟩ = some (.string (mk ((splitC 32 l).getD i []))) := fun i hi => by
    rw [o3.cellAt i (by omega), hL6, strs, List.getElem?_map, List.getElem?_append, List.getD]
    by_cases hlt : i < (splitC 32 l).length
    · rw [if_pos hlt, List.getElem?_eq_getElem hlt]; rfl
    · rw [if_neg hlt, List.getElem?_eq_none (by omega : (splitC 32 l).length ≤ i)]
      have h6 : i - (splitC 32 l).length < 6 := by omega
      generalize i - (splitC 32 l).length = q at h6
      have : ∀ q, q < 6 → ([[], [], [], [], [], []] : List Bs)[q]? = some [] := by decide
      rw [this q h6]; rfl
  have HO2 := Lib.hid (And.intro hb2 (And.intro hg hgl)); clear hb2 hg o2 o3 g2 hL6 hN6
  go_upto_region 3 with fail
  obtain ⟨X, hX⟩ : ∃ X, X = w2.alloc (.cells zCs 31) := ⟨_, rfl⟩
  have hXA : Blk X w2.heap.size 31 zCs := by rw [hX]; exact Blk.new _ _ _
  have hXW : Below W.heap.size W X := by rw [hX]; exact HO2.out.1.alloc HO2.out.1.size _
  have hXc : ∀ i, i < 6 → X.cell? ⟨gb, i, none⟩ = some (.string (mk ((splitC 32 l).getD i []))) := fun i hi => by
    rw [hX, World.cell?_alloc_lt _ _ _ HO2.out.2.2]; exact hwd i hi
  obtain ⟨b6, hb6⟩ : ∃ b6, b6 = w2.heap.size := ⟨_, rfl⟩
  have hsz : W.heap.size ≤ w2.heap.size := HO2.out.1.size
  have hXs : X.heap.size = b6 + 1 := by rw [hX, hb6]; simp
  have hgb : gb < b6 := by rw [hb6]; exact HO2.out.2.2
  rw [← hb6] at hXA hsz
  have hX2 : X = w2.alloc (.cells #[.int .i64 0, .int .i64 0, .int .i64 0, .int .u64 0, .int .u64 0, .int .i64 0, .string ⟨#[]⟩, .int .u64 0, .int .i64 0, .slice none 0 0] 31) := hX
  rw [← hX2, ← hb6]
  clear hX hX2 hb6 hwd hgl
  have HX := Lib.hid (And.intro hXA (And.intro hXW (And.intro hsz (And.intro hXs hgb)))); clear hXA hXW
  obtain ⟨x0, hx0⟩ : ∃ x, x = wd l 0 := ⟨_, rfl⟩
  obtain ⟨x1, hx1⟩ : ∃ x, x = wd l 1 := ⟨_, rfl⟩
  obtain ⟨x2, hx2⟩ : ∃ x, x = wd l 2 := ⟨_, rfl⟩
  obtain ⟨x3, hx3⟩ : ∃ x, x = wd l 3 := ⟨_, rfl⟩
  obtain ⟨x4, hx4⟩ : ∃ x, x = wd l 4 := ⟨_, rfl⟩
  obtain ⟨x5, hx5⟩ : ∃ x, x = wd l 5 := ⟨_, rfl⟩
  have m0 : X.cell? ⟨gb, 0, none⟩ = some (.string (mk x0)) := by rw [hx0]; exact hXc 0 (by omega)
  have m1 : X.cell? ⟨gb, 1, none⟩ = some (.string (mk x1)) := by rw [hx1]; exact hXc 1 (by omega)
  have m2 : X.cell? ⟨gb, 2, none⟩ = some (.string (mk x2)) := by rw [hx2]; exact hXc 2 (by omega)
  have m3 : X.cell? ⟨gb, 3, none⟩ = some (.string (mk x3)) := by rw [hx3]; exact hXc 3 (by omega)
  have m4 : X.cell? ⟨gb, 4, none⟩ = some (.string (mk x4)) := by rw [hx4]; exact hXc 4 (by omega)
  have m5 : X.cell? ⟨gb, 5, none⟩ = some (.string (mk x5)) := by rw [hx5]; exact hXc 5 (by omega)
  have HM := Lib.hid (And.intro m0 (And.intro m1 (And.intro m2 (And.intro m3 (And.intro m4 m5)))))
  have HL := Lib.hid (show x1.length ≤ 1000000 ∧ x2.length ≤ 1000000 ∧ x3.length ≤ 1000000 ∧ x4.length ≤ 1000000 ∧ x5.length ≤ 1000000 from by
    rw [hx1, hx2, hx3, hx4, hx5]
    exact ⟨wd_le l 1 HI.out.2.2.2, wd_le l 2 HI.out.2.2.2, wd_le l 3 HI.out.2.2.2, wd_le l 4 HI.out.2.2.2, wd_le l 5 HI.out.2.2.2⟩)
  rw [← hx0] at h0
  rw [← hx2] at h2
  have HCC := Lib.hid (show cand l = ((⟨1, smallR x1, ⟨3, numR x3, 0, 0, []⟩, 0, 0, []⟩ : Ac), (1 : Int)) by
    rw [cand_wd, ← hx0, ← hx1, ← hx2, ← hx3, ← hx4, ← hx5]
    rw [if_pos h0]; simp only [if_neg (show ¬ x2 = sPut by rw [h2]; decide), if_neg (show ¬ x2 = sGet by rw [h2]; decide), if_pos h2])
  have e_sInvoke : (x0 == [105, 110, 118, 111, 107, 101]) = true := by rw [h0]; decide
  have f_sPut : (x2 == [112, 117, 116]) = false := by rw [h2]; decide
  have f_sGet : (x2 == [103, 101, 116]) = false := by rw [h2]; decide
  have f_sDelete : (x2 == [100, 101, 108, 101, 116, 101]) = true := by rw [h2]; decide
  clear h2
  clear hx0 hx1 hx2 hx3 hx4 hx5 hXc h0
  have n0 : 0 < N6 := by omega
  have i0 : (0 : Int) < (N6 : Int) := by omega
  have n1 : 1 < N6 := by omega
  have i1 : (1 : Int) < (N6 : Int) := by omega
  have n2 : 2 < N6 := by omega
  have i2 : (2 : Int) < (N6 : Int) := by omega
  have n3 : 3 < N6 := by omega
  have i3 : (3 : Int) < (N6 : Int) := by omega
  have n4 : 4 < N6 := by omega
  have i4 : (4 : Int) < (N6 : Int) := by omega
  have n5 : 5 < N6 := by omega
  have i5 : (5 : Int) < (N6 : Int) := by omega
  clear hn7 hnb hsz hXs
  have z0 := HX.out.1.frozen 0
  have y0 := HX.out.1.cell 0
  have z1 := HX.out.1.frozen 1
  have y1 := HX.out.1.cell 1
  have z2 := HX.out.1.frozen 2
  have y2 := HX.out.1.cell 2
  have z3 := HX.out.1.frozen 3
  have y3 := HX.out.1.cell 3
  have z4 := HX.out.1.frozen 4
  have y4 := HX.out.1.cell 4
  have z5 := HX.out.1.frozen 5
  have y5 := HX.out.1.cell 5
  have z6 := HX.out.1.frozen 6
  have y6 := HX.out.1.cell 6
  have z7 := HX.out.1.frozen 7
  have y7 := HX.out.1.cell 7
  have z8 := HX.out.1.frozen 8
  have y8 := HX.out.1.cell 8
  have z9 := HX.out.1.frozen 9
  have y9 := HX.out.1.cell 9
  go_upto_region 6 with fail
  refine wp_region_still_tail 10 (by kernel_rfl) (by kernel_rfl) ?_
  simp only [List.take_succ_cons, List.take_zero, List.drop_succ_cons, List.drop_zero]
  still_step
  still_step
  still_step
  still_call (rSmall_any x1 HL.out.1)
  still_step
  still_step
  still_step
  still_call (rNum_any x3 HL.out.2.2.1)
  still_step
  still_step
  refine wpStill_nil ?_
  have hdrew : ({ X with drawn := X.drawn + 1 } : World) = X.drew := rfl
  rw [hdrew]
  clear hdrew
  go_upto_region 7 with fail
  obtain ⟨Y, hY⟩ : ∃ Y, Y = ((((((((((X.setCell ⟨b6, 0, none⟩ (.int .i64 1)).setCell ⟨b6, 1, none⟩ (.int .i64 (smallR x1))).setCell ⟨b6, 2, none⟩ (.int .i64 0)).setCell ⟨b6, 3, none⟩ (.int .u64 (numR x3))).setCell ⟨b6, 4, none⟩ (.int .u64 0)).setCell ⟨b6, 5, none⟩ (.int .i64 0)).setCell ⟨b6, 6, none⟩ (.string ⟨#[]⟩)).setCell ⟨b6, 7, none⟩ (.int .u64 0)).setCell ⟨b6, 8, none⟩ (.int .i64 0)).setCell ⟨b6, 9, none⟩ (.slice none 0 0)).drew := ⟨_, rfl⟩
  have hY1 : Y = (put10 X b6 ⟨1, smallR x1, ⟨0, numR x3, 0, 0, []⟩, 0, 0, []⟩ (.slice none 0 0)).drew := hY
  have B0 : Blk (put10 X b6 ⟨1, smallR x1, ⟨0, numR x3, 0, 0, []⟩, 0, 0, []⟩ (.slice none 0 0)) b6 31 (acC ⟨1, smallR x1, ⟨0, numR x3, 0, 0, []⟩, 0, 0, []⟩ (.slice none 0 0)) := put10_blk HX.out.1 rfl ⟨1, smallR x1, ⟨0, numR x3, 0, 0, []⟩, 0, 0, []⟩ (.slice none 0 0)
  have B1 : Blk Y b6 31 (acC ⟨1, smallR x1, ⟨0, numR x3, 0, 0, []⟩, 0, 0, []⟩ (.slice none 0 0)) := by rw [hY1]; exact B0.drew
  have B2 : Below W.heap.size W (put10 X b6 ⟨1, smallR x1, ⟨0, numR x3, 0, 0, []⟩, 0, 0, []⟩ (.slice none 0 0)) := put10_below HX.out.2.1 HX.out.2.2.1 ⟨1, smallR x1, ⟨0, numR x3, 0, 0, []⟩, 0, 0, []⟩ (.slice none 0 0)
  have B3 : Below W.heap.size W Y := by rw [hY1]; exact B2.drew
  have HY := Lib.hid (And.intro B1 B3); clear B0 B1 B2 B3
  have q2 : Y.cell? ⟨gb, 2, none⟩ = some (.string (mk x2)) := by rw [hY1, drew_cell, put10_cell (by have := HX.out.2.2.2.2; omega)]; exact HM.out.2.2.1
  have q4 : Y.cell? ⟨gb, 4, none⟩ = some (.string (mk x4)) := by rw [hY1, drew_cell, put10_cell (by have := HX.out.2.2.2.2; omega)]; exact HM.out.2.2.2.2.1
  have q5 : Y.cell? ⟨gb, 5, none⟩ = some (.string (mk x5)) := by rw [hY1, drew_cell, put10_cell (by have := HX.out.2.2.2.2; omega)]; exact HM.out.2.2.2.2.2
  rw [← hY]
  clear hY hY1 m0 m1 m2 m3 m4 m5 z0 z1 z2 z3 z4 z5 z6 z7 z8 z9 y0 y1 y2 y3 y4 y5 y6 y7 y8 y9
  have z2 := HY.out.1.frozen 2; have z4 := HY.out.1.frozen 4; have z5 := HY.out.1.frozen 5; have z6 := HY.out.1.frozen 6
  have y2 := HY.out.1.cell 2; have y4 := HY.out.1.cell 4; have y5 := HY.out.1.cell 5; have y6 := HY.out.1.cell 6
  go_upto_region 35 with fail
  obtain ⟨Z, hZ⟩ : ∃ Z, Z = Y.setCell ⟨b6, 2, none⟩ (.int .i64 3) := ⟨_, rfl⟩
  have hZ1 : Blk Z b6 31 (acC ⟨1, smallR x1, ⟨3, numR x3, 0, 0, []⟩, 0, 0, []⟩ (.slice none 0 0)) := by rw [hZ]; exact HY.out.1.set_ 2 _
  have hZ2 : Z.ownsRow (b6 + 1) 3 1 (.slice none 0 0) (⟨1, smallR x1, ⟨3, numR x3, 0, 0, []⟩, 0, 0, []⟩ : Ac).keep.length (ints (⟨1, smallR x1, ⟨3, numR x3, 0, 0, []⟩, 0, 0, []⟩ : Ac).keep) := by rw [hZ]; exact World.ownsRow_nil _ _ _ _
  have hZ3 : Below W.heap.size W Z := by rw [hZ]; exact HY.out.2.setCell (p := ⟨b6, 2, none⟩) HX.out.2.2.1 _
  have HZ := Lib.hid (And.intro hZ1 (And.intro (RowR.of_own hZ2) (And.intro hZ2 hZ3)))
  rw [← hZ]
  clear hZ hZ1 hZ2 hZ3 q2 q4 q5 z2 z4 z5 z6 y2 y4 y5 y6
  have HRF := Lib.hid (refOf_at HCC.out)
  obtain ⟨d0, d1, d2, d3, d4, d5, d6, d7, d8, d9⟩ := acCells HZ.out.1
  dsimp only at d0 d1 d2 d3 d4 d5 d6 d7 d8 d9
  have CS := Lib.hid (cand_small l)
  have CT := Lib.hid (cand_typed l)
  rw [HCC.out] at CS CT
  go_wp2_with fail
  refine (rMayAct_any ⟨1, smallR x1, ⟨3, numR x3, 0, 0, []⟩, 0, 0, []⟩ (.slice none 0 0) HZ.out.2.1 (Nat.le_trans CS.out.2 (by have := HI.out.2.2.2; omega))).mono ?_; rintro e w3 ⟨he, hb3⟩
  obtain ⟨q, hq⟩ : ∃ q, q = mayAct ⟨1, smallR x1, ⟨3, numR x3, 0, 0, []⟩, 0, 0, []⟩ := ⟨_, rfl⟩
  rw [← hq] at he HRF
  obtain rfl := he
  have HQ := Lib.hid hq; clear hq
  have H3 := Lib.hid (show Blk w3 b6 31 (acC ⟨1, smallR x1, ⟨3, numR x3, 0, 0, []⟩, 0, 0, []⟩ (.slice none 0 0)) ∧ w3.ownsRow (b6 + 1) 3 1 (.slice none 0 0) (⟨1, smallR x1, ⟨3, numR x3, 0, 0, []⟩, 0, 0, []⟩ : Ac).keep.length (ints (⟨1, smallR x1, ⟨3, numR x3, 0, 0, []⟩, 0, 0, []⟩ : Ac).keep) ∧ Below W.heap.size W w3 from
    ⟨HZ.out.1.below hb3 HZ.out.1.lt, own_next HZ.out.2.2.1 hb3, HZ.out.2.2.2.trans (hb3.mono HZ.out.2.2.2.size)⟩)
  clear hb3 d0 d1 d2 d3 d4 d5 d6 d7 d8 d9
  obtain ⟨d0, d1, d2, d3, d4, d5, d6, d7, d8, d9⟩ := acCells H3.out.1
  dsimp only at d0 d1 d2 d3 d4 d5 d6 d7 d8 d9
  cases q with
  | false =>
    have HN := Lib.hid (HI.out.1.below H3.out.2.2 HI.out.1.lt)
    have HB9 := Lib.hid (HI.out.2.1.trans ((H3.out.2.2).mono HI.out.2.1.size))
    have r0 := HN.out.cell 0; have r1 := HN.out.cell 1; have r2 := HN.out.cell 2; have r3 := HN.out.cell 3; have r4 := HN.out.cell 4
    have r5 := HN.out.cell 5; have r6 := HN.out.cell 6; have r7 := HN.out.cell 7; have r8 := HN.out.cell 8; have r9 := HN.out.cell 9
    have s0 := HN.out.frozen 0; have s1 := HN.out.frozen 1; have s2 := HN.out.frozen 2; have s3 := HN.out.frozen 3; have s4 := HN.out.frozen 4
    have s5 := HN.out.frozen 5; have s6 := HN.out.frozen 6; have s7 := HN.out.frozen 7; have s8 := HN.out.frozen 8; have s9 := HN.out.frozen 9
    go_wp2_with fail
    refine bodyPost_ret (res_rOf (a := Ac.zero) (kv := .slice none 0 0) (put10_blk HN.out rfl Ac.zero (.slice none 0 0)) rfl rfl rfl) rfl ⟨put10_below HB9.out (Nat.le_refl _) Ac.zero (.slice none 0 0), ?_⟩
    rw [HRF.out, if_neg (by rintro ⟨h, _⟩; cases h)]
  | true =>
    have HU := Lib.hid (show (1 : Int) ≤ 1 ∧ (1 : Int) ≤ 100000 from by decide)
    have MM := Lib.hid ((mayAct_iff _).1 HQ.out.symm)
    go_wp2_with fail
    refine (rLine_any ⟨1, smallR x1, ⟨3, numR x3, 0, 0, []⟩, 0, 0, []⟩ (.slice none 0 0) 1 (RowR.of_own H3.out.2.1) MM.out CT.out (Nat.le_trans CS.out.1 (by have := HI.out.2.2.2; omega)) (Nat.le_trans CS.out.2 (by have := HI.out.2.2.2; omega)) ⟨by have := HU.out.1; omega, by have := HU.out.2; omega⟩).mono ?_; rintro e w4 ⟨rfl, hb4⟩
    obtain ⟨s, hs⟩ : ∃ s, s = lineL ⟨1, smallR x1, ⟨3, numR x3, 0, 0, []⟩, 0, 0, []⟩ 1 := ⟨_, rfl⟩
    rw [← hs] at HRF
    rw [← hs]
    clear hs
    have H4 := Lib.hid (show Blk w4 b6 31 (acC ⟨1, smallR x1, ⟨3, numR x3, 0, 0, []⟩, 0, 0, []⟩ (.slice none 0 0)) ∧ w4.ownsRow (b6 + 1) 3 1 (.slice none 0 0) (⟨1, smallR x1, ⟨3, numR x3, 0, 0, []⟩, 0, 0, []⟩ : Ac).keep.length (ints (⟨1, smallR x1, ⟨3, numR x3, 0, 0, []⟩, 0, 0, []⟩ : Ac).keep) ∧ Below W.heap.size W w4 from
      ⟨H3.out.1.below hb4 H3.out.1.lt, own_next H3.out.2.1 hb4, H3.out.2.2.trans (hb4.mono H3.out.2.2.size)⟩)
    clear hb4 d0 d1 d2 d3 d4 d5 d6 d7 d8 d9
    obtain ⟨d0, d1, d2, d3, d4, d5, d6, d7, d8, d9⟩ := acCells H4.out.1
    dsimp only at d0 d1 d2 d3 d4 d5 d6 d7 d8 d9
    by_cases hsl : s = l
    case neg =>
      have v1 : (s == l) = false := by simpa using hsl
      have v2 : (s != l) = true := by simpa using hsl
      have HU2 := Lib.hid hsl; clear hsl
      have HN := Lib.hid (HI.out.1.below H4.out.2.2 HI.out.1.lt)
      have HB9 := Lib.hid (HI.out.2.1.trans ((H4.out.2.2).mono HI.out.2.1.size))
      have r0 := HN.out.cell 0; have r1 := HN.out.cell 1; have r2 := HN.out.cell 2; have r3 := HN.out.cell 3; have r4 := HN.out.cell 4
      have r5 := HN.out.cell 5; have r6 := HN.out.cell 6; have r7 := HN.out.cell 7; have r8 := HN.out.cell 8; have r9 := HN.out.cell 9
      have s0 := HN.out.frozen 0; have s1 := HN.out.frozen 1; have s2 := HN.out.frozen 2; have s3 := HN.out.frozen 3; have s4 := HN.out.frozen 4
      have s5 := HN.out.frozen 5; have s6 := HN.out.frozen 6; have s7 := HN.out.frozen 7; have s8 := HN.out.frozen 8; have s9 := HN.out.frozen 9
      go_wp2_with fail
      refine bodyPost_ret (res_rOf (a := Ac.zero) (kv := .slice none 0 0) (put10_blk HN.out rfl Ac.zero (.slice none 0 0)) rfl rfl rfl) rfl ⟨put10_below HB9.out (Nat.le_refl _) Ac.zero (.slice none 0 0), ?_⟩
      rw [HRF.out, if_neg (by rintro ⟨_, _, _, h⟩; exact HU2.out h)]
    have v1 : (s == l) = true := by simpa using hsl
    have v2 : (s != l) = false := by simpa using hsl
    have HU2 := Lib.hid hsl; clear hsl
    have HN := Lib.hid (HI.out.1.below H4.out.2.2 HI.out.1.lt)
    have HB9 := Lib.hid (HI.out.2.1.trans ((H4.out.2.2).mono HI.out.2.1.size))
    have r0 := HN.out.cell 0; have r1 := HN.out.cell 1; have r2 := HN.out.cell 2; have r3 := HN.out.cell 3; have r4 := HN.out.cell 4
    have r5 := HN.out.cell 5; have r6 := HN.out.cell 6; have r7 := HN.out.cell 7; have r8 := HN.out.cell 8; have r9 := HN.out.cell 9
    have s0 := HN.out.frozen 0; have s1 := HN.out.frozen 1; have s2 := HN.out.frozen 2; have s3 := HN.out.frozen 3; have s4 := HN.out.frozen 4
    have s5 := HN.out.frozen 5; have s6 := HN.out.frozen 6; have s7 := HN.out.frozen 7; have s8 := HN.out.frozen 8; have s9 := HN.out.frozen 9
    go_wp2_with fail
    refine bodyPost_ret (res_rOf (a := ⟨1, smallR x1, ⟨3, numR x3, 0, 0, []⟩, 0, 0, []⟩) (kv := (.slice none 0 0)) (put10_blk HN.out rfl ⟨1, smallR x1, ⟨3, numR x3, 0, 0, []⟩, 0, 0, []⟩ (.slice none 0 0)) rfl rfl rfl) rfl ⟨put10_below HB9.out (Nat.le_refl _) ⟨1, smallR x1, ⟨3, numR x3, 0, 0, []⟩, 0, 0, []⟩ (.slice none 0 0), ?_⟩
    rw [HRF.out, if_pos ⟨by trivial, HU.out.1, HU.out.2, HU2.out⟩]
    exact ⟨(.slice none 0 0), rfl, RowR.of_own (own_put10B H4.out.2.1 (by have := HX.out.2.2.1; have := HI.out.2.2.1; omega) ⟨1, smallR x1, ⟨3, numR x3, 0, 0, []⟩, 0, 0, []⟩ (.slice none 0 0)), fun r e => by have := (H4.out.2.1.lt r e).1; have := HX.out.2.2.1; have := HI.out.2.2.1; omega⟩

set_option maxHeartbeats 4000000 in
set_option maxRecDepth 100000 in
theorem rof_op {w : World} (l : Bs) (hl : l.length ≤ 100000) (h0 : wd l 0 = sInvoke) (q1 : wd l 2 ≠ sPut) (q2 : wd l 2 ≠ sGet) (q3 : wd l 2 ≠ sDelete) (q4 : wd l 2 ≠ sScan) : Calls Tryz.prog 10 #[.string (mk l)] w (ROfPost w l) := by
  obtain ⟨W, hW⟩ : ∃ W, W = w.alloc (.cells zCs 31) := ⟨_, rfl⟩
  have hR : Blk W w.heap.size 31 zCs := by rw [hW]; exact Blk.new _ _ _
  have hB : Below w.heap.size w W := by rw [hW]; exact (Below.refl _ _).alloc (Nat.le_refl _) _
  have hWs : W.heap.size = w.heap.size + 1 := by rw [hW]; simp
  have HI := Lib.hid (And.intro hR (And.intro hB (And.intro hWs hl)))
  clear hR hB hWs hl
  go_enter Tryz.func10, Tryz.ntmps10
  go_upto_region 1 with fail
  rw [← hW]
  clear hW
  go_wp2_with fail
  refine (rWords_any l (by have := HI.out.2.2.2; omega)).mono ?_; rintro e w1 ⟨v1, rfl, ho1, hb1⟩
  have H1 := Lib.hid (And.intro ho1 hb1); clear ho1 hb1
  go_wp2_with (at_builtin; refine wpList_app_strs rfl _ _ rfl W.heap.size v1 _ _ rfl (H1.out.1.alloc _) (.slice (some ⟨w1.heap.size, 0, none⟩) 6 6) [[], [], [], [], [], []] rfl (lit_strs w1 [[], [], [], [], [], []] (by simp)) ?few ?base ?_)
  case few => have := splitC_few 32 l; have := HI.out.2.2.2; simp; omega
  case base => have := H1.out.2.size; simp; omega
  intro v2 w2 o2 g2
  obtain ⟨L6, hL6⟩ : ∃ L6, L6 = splitC 32 l ++ [[], [], [], [], [], []] := ⟨_, rfl⟩
  obtain ⟨N6, hN6⟩ : ∃ N6, N6 = (splitC 32 l).length + 6 := ⟨_, rfl⟩
  have o3 : w2.ownsRow W.heap.size 9 1 v2 N6 (strs L6) := by rw [hL6, hN6]; exact o2
  have hn7 : 7 ≤ N6 := by
    have : 0 < (splitC 32 l).length := List.length_pos_iff.2 (splitC_ne 32 l)
    omega
  have hnb : N6 ≤ 1000000 := by have := splitC_few 32 l; have := HI.out.2.2.2; omega
  obtain ⟨gb, cap, rfl, hg, hgl⟩ := o3.form (by omega)
  have hb2 : Below W.heap.size W w2 := (H1.out.2.alloc H1.out.2.size _).trans (g2.below.mono (by first | exact Nat.le_refl _ | omega))
  have hwd : ∀ i, i < 6 → w2.cell? ⟨gb, i, none⟩ = some (.string (mk ((splitC 32 l).getD i []))) := fun i hi => by
    rw [o3.cellAt i (by omega), hL6, strs, List.getElem?_map, List.getElem?_append, List.getD]
    by_cases hlt : i < (splitC 32 l).length
    · rw [if_pos hlt, List.getElem?_eq_getElem hlt]; rfl
    · rw [if_neg hlt, List.getElem?_eq_none (by omega : (splitC 32 l).length ≤ i)]
      have h6 : i - (splitC 32 l).length < 6 := by omega
      generalize i - (splitC 32 l).length = q at h6
      have : ∀ q, q < 6 → ([[], [], [], [], [], []] : List Bs)[q]? = some [] := by decide
      rw [this q h6]; rfl
  have HO2 := Lib.hid (And.intro hb2 (And.intro hg hgl)); clear hb2 hg o2 o3 g2 hL6 hN6
  go_upto_region 3 with fail
  obtain ⟨X, hX⟩ : ∃ X, X = w2.alloc (.cells zCs 31) := ⟨_, rfl⟩
  have hXA : Blk X w2.heap.size 31 zCs := by rw [hX]; exact Blk.new _ _ _
  have hXW : Below W.heap.size W X := by rw [hX]; exact HO2.out.1.alloc HO2.out.1.size _
  have hXc : ∀ i, i < 6 → X.cell? ⟨gb, i, none⟩ = some (.string (mk ((splitC 32 l).getD i []))) := fun i hi => by
    rw [hX, World.cell?_alloc_lt _ _ _ HO2.out.2.2]; exact hwd i hi
  obtain ⟨b6, hb6⟩ : ∃ b6, b6 = w2.heap.size := ⟨_, rfl⟩
  have hsz : W.heap.size ≤ w2.heap.size := HO2.out.1.size
  have hXs : X.heap.size = b6 + 1 := by rw [hX, hb6]; simp
  have hgb : gb < b6 := by rw [hb6]; exact HO2.out.2.2
  rw [← hb6] at hXA hsz
  have hX2 : X = w2.alloc (.cells #[.int .i64 0, .int .i64 0, .int .i64 0, .int .u64 0, .int .u64 0, .int .i64 0, .string ⟨#[]⟩, .int .u64 0, .int .i64 0, .slice none 0 0] 31) := hX
  rw [← hX2, ← hb6]
  clear hX hX2 hb6 hwd hgl
  have HX := Lib.hid (And.intro hXA (And.intro hXW (And.intro hsz (And.intro hXs hgb)))); clear hXA hXW
  obtain ⟨x0, hx0⟩ : ∃ x, x = wd l 0 := ⟨_, rfl⟩
  obtain ⟨x1, hx1⟩ : ∃ x, x = wd l 1 := ⟨_, rfl⟩
  obtain ⟨x2, hx2⟩ : ∃ x, x = wd l 2 := ⟨_, rfl⟩
  obtain ⟨x3, hx3⟩ : ∃ x, x = wd l 3 := ⟨_, rfl⟩
  obtain ⟨x4, hx4⟩ : ∃ x, x = wd l 4 := ⟨_, rfl⟩
  obtain ⟨x5, hx5⟩ : ∃ x, x = wd l 5 := ⟨_, rfl⟩
  have m0 : X.cell? ⟨gb, 0, none⟩ = some (.string (mk x0)) := by rw [hx0]; exact hXc 0 (by omega)
  have m1 : X.cell? ⟨gb, 1, none⟩ = some (.string (mk x1)) := by rw [hx1]; exact hXc 1 (by omega)
  have m2 : X.cell? ⟨gb, 2, none⟩ = some (.string (mk x2)) := by rw [hx2]; exact hXc 2 (by omega)
  have m3 : X.cell? ⟨gb, 3, none⟩ = some (.string (mk x3)) := by rw [hx3]; exact hXc 3 (by omega)
  have m4 : X.cell? ⟨gb, 4, none⟩ = some (.string (mk x4)) := by rw [hx4]; exact hXc 4 (by omega)
  have m5 : X.cell? ⟨gb, 5, none⟩ = some (.string (mk x5)) := by rw [hx5]; exact hXc 5 (by omega)
  have HM := Lib.hid (And.intro m0 (And.intro m1 (And.intro m2 (And.intro m3 (And.intro m4 m5)))))
  have HL := Lib.hid (show x1.length ≤ 1000000 ∧ x2.length ≤ 1000000 ∧ x3.length ≤ 1000000 ∧ x4.length ≤ 1000000 ∧ x5.length ≤ 1000000 from by
    rw [hx1, hx2, hx3, hx4, hx5]
    exact ⟨wd_le l 1 HI.out.2.2.2, wd_le l 2 HI.out.2.2.2, wd_le l 3 HI.out.2.2.2, wd_le l 4 HI.out.2.2.2, wd_le l 5 HI.out.2.2.2⟩)
  rw [← hx0] at h0
  rw [← hx2] at q1 q2 q3 q4
  have HCC := Lib.hid (show cand l = ((⟨1, smallR x1, ⟨0, numR x3, 0, 0, []⟩, 0, 0, []⟩ : Ac), (1 : Int)) by
    rw [cand_wd, ← hx0, ← hx1, ← hx2, ← hx3, ← hx4, ← hx5]
    rw [if_pos h0]; simp only [if_neg q1, if_neg q2, if_neg q3, if_neg q4])
  have e_sInvoke : (x0 == [105, 110, 118, 111, 107, 101]) = true := by rw [h0]; decide
  have f_sPut : (x2 == [112, 117, 116]) = false := beq_eq_false_iff_ne.2 q1
  have f_sGet : (x2 == [103, 101, 116]) = false := beq_eq_false_iff_ne.2 q2
  have f_sDelete : (x2 == [100, 101, 108, 101, 116, 101]) = false := beq_eq_false_iff_ne.2 q3
  have f_sScan : (x2 == [115, 99, 97, 110]) = false := beq_eq_false_iff_ne.2 q4
  clear q1 q2 q3 q4
  clear hx0 hx1 hx2 hx3 hx4 hx5 hXc h0
  have n0 : 0 < N6 := by omega
  have i0 : (0 : Int) < (N6 : Int) := by omega
  have n1 : 1 < N6 := by omega
  have i1 : (1 : Int) < (N6 : Int) := by omega
  have n2 : 2 < N6 := by omega
  have i2 : (2 : Int) < (N6 : Int) := by omega
  have n3 : 3 < N6 := by omega
  have i3 : (3 : Int) < (N6 : Int) := by omega
  have n4 : 4 < N6 := by omega
  have i4 : (4 : Int) < (N6 : Int) := by omega
  have n5 : 5 < N6 := by omega
  have i5 : (5 : Int) < (N6 : Int) := by omega
  clear hn7 hnb hsz hXs
  have z0 := HX.out.1.frozen 0
  have y0 := HX.out.1.cell 0
  have z1 := HX.out.1.frozen 1
  have y1 := HX.out.1.cell 1
  have z2 := HX.out.1.frozen 2
  have y2 := HX.out.1.cell 2
  have z3 := HX.out.1.frozen 3
  have y3 := HX.out.1.cell 3
  have z4 := HX.out.1.frozen 4
  have y4 := HX.out.1.cell 4
  have z5 := HX.out.1.frozen 5
  have y5 := HX.out.1.cell 5
  have z6 := HX.out.1.frozen 6
  have y6 := HX.out.1.cell 6
  have z7 := HX.out.1.frozen 7
  have y7 := HX.out.1.cell 7
  have z8 := HX.out.1.frozen 8
  have y8 := HX.out.1.cell 8
  have z9 := HX.out.1.frozen 9
  have y9 := HX.out.1.cell 9
  go_upto_region 6 with fail
  refine wp_region_still_tail 10 (by kernel_rfl) (by kernel_rfl) ?_
  simp only [List.take_succ_cons, List.take_zero, List.drop_succ_cons, List.drop_zero]
  still_step
  still_step
  still_step
  still_call (rSmall_any x1 HL.out.1)
  still_step
  still_step
  still_step
  still_call (rNum_any x3 HL.out.2.2.1)
  still_step
  still_step
  refine wpStill_nil ?_
  have hdrew : ({ X with drawn := X.drawn + 1 } : World) = X.drew := rfl
  rw [hdrew]
  clear hdrew
  go_upto_region 7 with fail
  obtain ⟨Y, hY⟩ : ∃ Y, Y = ((((((((((X.setCell ⟨b6, 0, none⟩ (.int .i64 1)).setCell ⟨b6, 1, none⟩ (.int .i64 (smallR x1))).setCell ⟨b6, 2, none⟩ (.int .i64 0)).setCell ⟨b6, 3, none⟩ (.int .u64 (numR x3))).setCell ⟨b6, 4, none⟩ (.int .u64 0)).setCell ⟨b6, 5, none⟩ (.int .i64 0)).setCell ⟨b6, 6, none⟩ (.string ⟨#[]⟩)).setCell ⟨b6, 7, none⟩ (.int .u64 0)).setCell ⟨b6, 8, none⟩ (.int .i64 0)).setCell ⟨b6, 9, none⟩ (.slice none 0 0)).drew := ⟨_, rfl⟩
  have hY1 : Y = (put10 X b6 ⟨1, smallR x1, ⟨0, numR x3, 0, 0, []⟩, 0, 0, []⟩ (.slice none 0 0)).drew := hY
  have B0 : Blk (put10 X b6 ⟨1, smallR x1, ⟨0, numR x3, 0, 0, []⟩, 0, 0, []⟩ (.slice none 0 0)) b6 31 (acC ⟨1, smallR x1, ⟨0, numR x3, 0, 0, []⟩, 0, 0, []⟩ (.slice none 0 0)) := put10_blk HX.out.1 rfl ⟨1, smallR x1, ⟨0, numR x3, 0, 0, []⟩, 0, 0, []⟩ (.slice none 0 0)
  have B1 : Blk Y b6 31 (acC ⟨1, smallR x1, ⟨0, numR x3, 0, 0, []⟩, 0, 0, []⟩ (.slice none 0 0)) := by rw [hY1]; exact B0.drew
  have B2 : Below W.heap.size W (put10 X b6 ⟨1, smallR x1, ⟨0, numR x3, 0, 0, []⟩, 0, 0, []⟩ (.slice none 0 0)) := put10_below HX.out.2.1 HX.out.2.2.1 ⟨1, smallR x1, ⟨0, numR x3, 0, 0, []⟩, 0, 0, []⟩ (.slice none 0 0)
  have B3 : Below W.heap.size W Y := by rw [hY1]; exact B2.drew
  have HY := Lib.hid (And.intro B1 B3); clear B0 B1 B2 B3
  have q2 : Y.cell? ⟨gb, 2, none⟩ = some (.string (mk x2)) := by rw [hY1, drew_cell, put10_cell (by have := HX.out.2.2.2.2; omega)]; exact HM.out.2.2.1
  have q4 : Y.cell? ⟨gb, 4, none⟩ = some (.string (mk x4)) := by rw [hY1, drew_cell, put10_cell (by have := HX.out.2.2.2.2; omega)]; exact HM.out.2.2.2.2.1
  have q5 : Y.cell? ⟨gb, 5, none⟩ = some (.string (mk x5)) := by rw [hY1, drew_cell, put10_cell (by have := HX.out.2.2.2.2; omega)]; exact HM.out.2.2.2.2.2
  rw [← hY]
  clear hY hY1 m0 m1 m2 m3 m4 m5 z0 z1 z2 z3 z4 z5 z6 z7 z8 z9 y0 y1 y2 y3 y4 y5 y6 y7 y8 y9
  have z2 := HY.out.1.frozen 2; have z4 := HY.out.1.frozen 4; have z5 := HY.out.1.frozen 5; have z6 := HY.out.1.frozen 6
  have y2 := HY.out.1.cell 2; have y4 := HY.out.1.cell 4; have y5 := HY.out.1.cell 5; have y6 := HY.out.1.cell 6
  go_upto_region 35 with fail
  obtain ⟨Z, hZ⟩ : ∃ Z, Z = Y := ⟨_, rfl⟩
  have hZ1 : Blk Z b6 31 (acC ⟨1, smallR x1, ⟨0, numR x3, 0, 0, []⟩, 0, 0, []⟩ (.slice none 0 0)) := by rw [hZ]; exact HY.out.1
  have hZ2 : Z.ownsRow (b6 + 1) 3 1 (.slice none 0 0) (⟨1, smallR x1, ⟨0, numR x3, 0, 0, []⟩, 0, 0, []⟩ : Ac).keep.length (ints (⟨1, smallR x1, ⟨0, numR x3, 0, 0, []⟩, 0, 0, []⟩ : Ac).keep) := by rw [hZ]; exact World.ownsRow_nil _ _ _ _
  have hZ3 : Below W.heap.size W Z := by rw [hZ]; exact HY.out.2
  have HZ := Lib.hid (And.intro hZ1 (And.intro (RowR.of_own hZ2) (And.intro hZ2 hZ3)))
  rw [← hZ]
  clear hZ hZ1 hZ2 hZ3 q2 q4 q5 z2 z4 z5 z6 y2 y4 y5 y6
  have HRF := Lib.hid (refOf_at HCC.out)
  obtain ⟨d0, d1, d2, d3, d4, d5, d6, d7, d8, d9⟩ := acCells HZ.out.1
  dsimp only at d0 d1 d2 d3 d4 d5 d6 d7 d8 d9
  have CS := Lib.hid (cand_small l)
  have CT := Lib.hid (cand_typed l)
  rw [HCC.out] at CS CT
  go_wp2_with fail
  refine (rMayAct_any ⟨1, smallR x1, ⟨0, numR x3, 0, 0, []⟩, 0, 0, []⟩ (.slice none 0 0) HZ.out.2.1 (Nat.le_trans CS.out.2 (by have := HI.out.2.2.2; omega))).mono ?_; rintro e w3 ⟨he, hb3⟩
  obtain ⟨q, hq⟩ : ∃ q, q = mayAct ⟨1, smallR x1, ⟨0, numR x3, 0, 0, []⟩, 0, 0, []⟩ := ⟨_, rfl⟩
  rw [← hq] at he HRF
  obtain rfl := he
  have HQ := Lib.hid hq; clear hq
  have H3 := Lib.hid (show Blk w3 b6 31 (acC ⟨1, smallR x1, ⟨0, numR x3, 0, 0, []⟩, 0, 0, []⟩ (.slice none 0 0)) ∧ w3.ownsRow (b6 + 1) 3 1 (.slice none 0 0) (⟨1, smallR x1, ⟨0, numR x3, 0, 0, []⟩, 0, 0, []⟩ : Ac).keep.length (ints (⟨1, smallR x1, ⟨0, numR x3, 0, 0, []⟩, 0, 0, []⟩ : Ac).keep) ∧ Below W.heap.size W w3 from
    ⟨HZ.out.1.below hb3 HZ.out.1.lt, own_next HZ.out.2.2.1 hb3, HZ.out.2.2.2.trans (hb3.mono HZ.out.2.2.2.size)⟩)
  clear hb3 d0 d1 d2 d3 d4 d5 d6 d7 d8 d9
  obtain ⟨d0, d1, d2, d3, d4, d5, d6, d7, d8, d9⟩ := acCells H3.out.1
  dsimp only at d0 d1 d2 d3 d4 d5 d6 d7 d8 d9
  cases q with
  | false =>
    have HN := Lib.hid (HI.out.1.below H3.out.2.2 HI.out.1.lt)
    have HB9 := Lib.hid (HI.out.2.1.trans ((H3.out.2.2).mono HI.out.2.1.size))
    have r0 := HN.out.cell 0; have r1 := HN.out.cell 1; have r2 := HN.out.cell 2; have r3 := HN.out.cell 3; have r4 := HN.out.cell 4
    have r5 := HN.out.cell 5; have r6 := HN.out.cell 6; have r7 := HN.out.cell 7; have r8 := HN.out.cell 8; have r9 := HN.out.cell 9
    have s0 := HN.out.frozen 0; have s1 := HN.out.frozen 1; have s2 := HN.out.frozen 2; have s3 := HN.out.frozen 3; have s4 := HN.out.frozen 4
    have s5 := HN.out.frozen 5; have s6 := HN.out.frozen 6; have s7 := HN.out.frozen 7; have s8 := HN.out.frozen 8; have s9 := HN.out.frozen 9
    go_wp2_with fail
    refine bodyPost_ret (res_rOf (a := Ac.zero) (kv := .slice none 0 0) (put10_blk HN.out rfl Ac.zero (.slice none 0 0)) rfl rfl rfl) rfl ⟨put10_below HB9.out (Nat.le_refl _) Ac.zero (.slice none 0 0), ?_⟩
    rw [HRF.out, if_neg (by rintro ⟨h, _⟩; cases h)]
  | true =>
    have HU := Lib.hid (show (1 : Int) ≤ 1 ∧ (1 : Int) ≤ 100000 from by decide)
    have MM := Lib.hid ((mayAct_iff _).1 HQ.out.symm)
    go_wp2_with fail
    refine (rLine_any ⟨1, smallR x1, ⟨0, numR x3, 0, 0, []⟩, 0, 0, []⟩ (.slice none 0 0) 1 (RowR.of_own H3.out.2.1) MM.out CT.out (Nat.le_trans CS.out.1 (by have := HI.out.2.2.2; omega)) (Nat.le_trans CS.out.2 (by have := HI.out.2.2.2; omega)) ⟨by have := HU.out.1; omega, by have := HU.out.2; omega⟩).mono ?_; rintro e w4 ⟨rfl, hb4⟩
    obtain ⟨s, hs⟩ : ∃ s, s = lineL ⟨1, smallR x1, ⟨0, numR x3, 0, 0, []⟩, 0, 0, []⟩ 1 := ⟨_, rfl⟩
    rw [← hs] at HRF
    rw [← hs]
    clear hs
    have H4 := Lib.hid (show Blk w4 b6 31 (acC ⟨1, smallR x1, ⟨0, numR x3, 0, 0, []⟩, 0, 0, []⟩ (.slice none 0 0)) ∧ w4.ownsRow (b6 + 1) 3 1 (.slice none 0 0) (⟨1, smallR x1, ⟨0, numR x3, 0, 0, []⟩, 0, 0, []⟩ : Ac).keep.length (ints (⟨1, smallR x1, ⟨0, numR x3, 0, 0, []⟩, 0, 0, []⟩ : Ac).keep) ∧ Below W.heap.size W w4 from
      ⟨H3.out.1.below hb4 H3.out.1.lt, own_next H3.out.2.1 hb4, H3.out.2.2.trans (hb4.mono H3.out.2.2.size)⟩)
    clear hb4 d0 d1 d2 d3 d4 d5 d6 d7 d8 d9
    obtain ⟨d0, d1, d2, d3, d4, d5, d6, d7, d8, d9⟩ := acCells H4.out.1
    dsimp only at d0 d1 d2 d3 d4 d5 d6 d7 d8 d9
    by_cases hsl : s = l
    case neg =>
      have v1 : (s == l) = false := by simpa using hsl
      have v2 : (s != l) = true := by simpa using hsl
      have HU2 := Lib.hid hsl; clear hsl
      have HN := Lib.hid (HI.out.1.below H4.out.2.2 HI.out.1.lt)
      have HB9 := Lib.hid (HI.out.2.1.trans ((H4.out.2.2).mono HI.out.2.1.size))
      have r0 := HN.out.cell 0; have r1 := HN.out.cell 1; have r2 := HN.out.cell 2; have r3 := HN.out.cell 3; have r4 := HN.out.cell 4
      have r5 := HN.out.cell 5; have r6 := HN.out.cell 6; have r7 := HN.out.cell 7; have r8 := HN.out.cell 8; have r9 := HN.out.cell 9
      have s0 := HN.out.frozen 0; have s1 := HN.out.frozen 1; have s2 := HN.out.frozen 2; have s3 := HN.out.frozen 3; have s4 := HN.out.frozen 4
      have s5 := HN.out.frozen 5; have s6 := HN.out.frozen 6; have s7 := HN.out.frozen 7; have s8 := HN.out.frozen 8; have s9 := HN.out.frozen 9
      go_wp2_with fail
      refine bodyPost_ret (res_rOf (a := Ac.zero) (kv := .slice none 0 0) (put10_blk HN.out rfl Ac.zero (.slice none 0 0)) rfl rfl rfl) rfl ⟨put10_below HB9.out (Nat.le_refl _) Ac.zero (.slice none 0 0), ?_⟩
      rw [HRF.out, if_neg (by rintro ⟨_, _, _, h⟩; exact HU2.out h)]
    have v1 : (s == l) = true := by simpa using hsl
    have v2 : (s != l) = false := by simpa using hsl
    have HU2 := Lib.hid hsl; clear hsl
    have HN := Lib.hid (HI.out.1.below H4.out.2.2 HI.out.1.lt)
    have HB9 := Lib.hid (HI.out.2.1.trans ((H4.out.2.2).mono HI.out.2.1.size))
    have r0 := HN.out.cell 0; have r1 := HN.out.cell 1; have r2 := HN.out.cell 2; have r3 := HN.out.cell 3; have r4 := HN.out.cell 4
    have r5 := HN.out.cell 5; have r6 := HN.out.cell 6; have r7 := HN.out.cell 7; have r8 := HN.out.cell 8; have r9 := HN.out.cell 9
    have s0 := HN.out.frozen 0; have s1 := HN.out.frozen 1; have s2 := HN.out.frozen 2; have s3 := HN.out.frozen 3; have s4 := HN.out.frozen 4
    have s5 := HN.out.frozen 5; have s6 := HN.out.frozen 6; have s7 := HN.out.frozen 7; have s8 := HN.out.frozen 8; have s9 := HN.out.frozen 9
    go_wp2_with fail
    refine bodyPost_ret (res_rOf (a := ⟨1, smallR x1, ⟨0, numR x3, 0, 0, []⟩, 0, 0, []⟩) (kv := (.slice none 0 0)) (put10_blk HN.out rfl ⟨1, smallR x1, ⟨0, numR x3, 0, 0, []⟩, 0, 0, []⟩ (.slice none 0 0)) rfl rfl rfl) rfl ⟨put10_below HB9.out (Nat.le_refl _) ⟨1, smallR x1, ⟨0, numR x3, 0, 0, []⟩, 0, 0, []⟩ (.slice none 0 0), ?_⟩
    rw [HRF.out, if_pos ⟨by trivial, HU.out.1, HU.out.2, HU2.out⟩]
    exact ⟨(.slice none 0 0), rfl, RowR.of_own (own_put10B H4.out.2.1 (by have := HX.out.2.2.1; have := HI.out.2.2.1; omega) ⟨1, smallR x1, ⟨0, numR x3, 0, 0, []⟩, 0, 0, []⟩ (.slice none 0 0)), fun r e => by have := (H4.out.2.1.lt r e).1; have := HX.out.2.2.1; have := HI.out.2.2.1; omega⟩

set_option maxHeartbeats 4000000 in
set_option maxRecDepth 100000 in
theorem rof_put {w : World} (l : Bs) (hl : l.length ≤ 100000) (h0 : wd l 0 = sInvoke) (h2 : wd l 2 = sPut) : Calls Tryz.prog 10 #[.string (mk l)] w (ROfPost w l) := by
  obtain ⟨W, hW⟩ : ∃ W, W = w.alloc (.cells zCs 31) := ⟨_, rfl⟩
  have hR : Blk W w.heap.size 31 zCs := by rw [hW]; exact Blk.new _ _ _
  have hB : Below w.heap.size w W := by rw [hW]; exact (Below.refl _ _).alloc (Nat.le_refl _) _
  have hWs : W.heap.size = w.heap.size + 1 := by rw [hW]; simp
  have HI := Lib.hid (And.intro hR (And.intro hB (And.intro hWs hl)))
  clear hR hB hWs hl
  go_enter Tryz.func10, Tryz.ntmps10
  go_upto_region 1 with fail
  rw [← hW]
  clear hW
  go_wp2_with fail
  refine (rWords_any l (by have := HI.out.2.2.2; omega)).mono ?_; rintro e w1 ⟨v1, rfl, ho1, hb1⟩
  have H1 := Lib.hid (And.intro ho1 hb1); clear ho1 hb1
  go_wp2_with (at_builtin; refine wpList_app_strs rfl _ _ rfl W.heap.size v1 _ _ rfl (H1.out.1.alloc _) (.slice (some ⟨w1.heap.size, 0, none⟩) 6 6) [[], [], [], [], [], []] rfl (lit_strs w1 [[], [], [], [], [], []] (by simp)) ?few ?base ?_)
  case few => have := splitC_few 32 l; have := HI.out.2.2.2; simp; omega
  case base => have := H1.out.2.size; simp; omega
  intro v2 w2 o2 g2
  obtain ⟨L6, hL6⟩ : ∃ L6, L6 = splitC 32 l ++ [[], [], [], [], [], []] := ⟨_, rfl⟩
  obtain ⟨N6, hN6⟩ : ∃ N6, N6 = (splitC 32 l).length + 6 := ⟨_, rfl⟩
  have o3 : w2.ownsRow W.heap.size 9 1 v2 N6 (strs L6) := by rw [hL6, hN6]; exact o2
  have hn7 : 7 ≤ N6 := by
    have : 0 < (splitC 32 l).length := List.length_pos_iff.2 (splitC_ne 32 l)
    omega
  have hnb : N6 ≤ 1000000 := by have := splitC_few 32 l; have := HI.out.2.2.2; omega
  obtain ⟨gb, cap, rfl, hg, hgl⟩ := o3.form (by omega)
  have hb2 : Below W.heap.size W w2 := (H1.out.2.alloc H1.out.2.size _).trans (g2.below.mono (by first | exact Nat.le_refl _ | omega))
  have hwd : ∀ i, i < 6 → w2.cell? ⟨gb, i, none⟩ = some (.string (mk ((splitC 32 l).getD i []))) := fun i hi => by
    rw [o3.cellAt i (by omega), hL6, strs, List.getElem?_map, List.getElem?_append, List.getD]
    by_cases hlt : i < (splitC 32 l).length
    · rw [if_pos hlt, List.getElem?_eq_getElem hlt]; rfl
    · rw [if_neg hlt, List.getElem?_eq_none (by omega : (splitC 32 l).length ≤ i)]
      have h6 : i - (splitC 32 l).length < 6 := by omega
      generalize i - (splitC 32 l).length = q at h6
      have : ∀ q, q < 6 → ([[], [], [], [], [], []] : List Bs)[q]? = some [] := by decide
      rw [this q h6]; rfl
  have HO2 := Lib.hid (And.intro hb2 (And.intro hg hgl)); clear hb2 hg o2 o3 g2 hL6 hN6
  go_upto_region 3 with fail
  obtain ⟨X, hX⟩ : ∃ X, X = w2.alloc (.cells zCs 31) := ⟨_, rfl⟩
  have hXA : Blk X w2.heap.size 31 zCs := by rw [hX]; exact Blk.new _ _ _
  have hXW : Below W.heap.size W X := by rw [hX]; exact HO2.out.1.alloc HO2.out.1.size _
  have hXc : ∀ i, i < 6 → X.cell? ⟨gb, i, none⟩ = some (.string (mk ((splitC 32 l).getD i []))) := fun i hi => by
    rw [hX, World.cell?_alloc_lt _ _ _ HO2.out.2.2]; exact hwd i hi
  obtain ⟨b6, hb6⟩ : ∃ b6, b6 = w2.heap.size := ⟨_, rfl⟩
  have hsz : W.heap.size ≤ w2.heap.size := HO2.out.1.size
  have hXs : X.heap.size = b6 + 1 := by rw [hX, hb6]; simp
  have hgb : gb < b6 := by rw [hb6]; exact HO2.out.2.2
  rw [← hb6] at hXA hsz
  have hX2 : X = w2.alloc (.cells #[.int .i64 0, .int .i64 0, .int .i64 0, .int .u64 0, .int .u64 0, .int .i64 0, .string ⟨#[]⟩, .int .u64 0, .int .i64 0, .slice none 0 0] 31) := hX
  rw [← hX2, ← hb6]
  clear hX hX2 hb6 hwd hgl
  have HX := Lib.hid (And.intro hXA (And.intro hXW (And.intro hsz (And.intro hXs hgb)))); clear hXA hXW
  obtain ⟨x0, hx0⟩ : ∃ x, x = wd l 0 := ⟨_, rfl⟩
  obtain ⟨x1, hx1⟩ : ∃ x, x = wd l 1 := ⟨_, rfl⟩
  obtain ⟨x2, hx2⟩ : ∃ x, x = wd l 2 := ⟨_, rfl⟩
  obtain ⟨x3, hx3⟩ : ∃ x, x = wd l 3 := ⟨_, rfl⟩
  obtain ⟨x4, hx4⟩ : ∃ x, x = wd l 4 := ⟨_, rfl⟩
  obtain ⟨x5, hx5⟩ : ∃ x, x = wd l 5 := ⟨_, rfl⟩
  have m0 : X.cell? ⟨gb, 0, none⟩ = some (.string (mk x0)) := by rw [hx0]; exact hXc 0 (by omega)
  have m1 : X.cell? ⟨gb, 1, none⟩ = some (.string (mk x1)) := by rw [hx1]; exact hXc 1 (by omega)
  have m2 : X.cell? ⟨gb, 2, none⟩ = some (.string (mk x2)) := by rw [hx2]; exact hXc 2 (by omega)
  have m3 : X.cell? ⟨gb, 3, none⟩ = some (.string (mk x3)) := by rw [hx3]; exact hXc 3 (by omega)
  have m4 : X.cell? ⟨gb, 4, none⟩ = some (.string (mk x4)) := by rw [hx4]; exact hXc 4 (by omega)
  have m5 : X.cell? ⟨gb, 5, none⟩ = some (.string (mk x5)) := by rw [hx5]; exact hXc 5 (by omega)
  have HM := Lib.hid (And.intro m0 (And.intro m1 (And.intro m2 (And.intro m3 (And.intro m4 m5)))))
  have HL := Lib.hid (show x1.length ≤ 1000000 ∧ x2.length ≤ 1000000 ∧ x3.length ≤ 1000000 ∧ x4.length ≤ 1000000 ∧ x5.length ≤ 1000000 from by
    rw [hx1, hx2, hx3, hx4, hx5]
    exact ⟨wd_le l 1 HI.out.2.2.2, wd_le l 2 HI.out.2.2.2, wd_le l 3 HI.out.2.2.2, wd_le l 4 HI.out.2.2.2, wd_le l 5 HI.out.2.2.2⟩)
  rw [← hx0] at h0
  rw [← hx2] at h2
  have HCC := Lib.hid (show cand l = ((⟨1, smallR x1, ⟨1, numR x3, 0, 0, unhexV x4⟩, 0, 0, []⟩ : Ac), (1 : Int)) by
    rw [cand_wd, ← hx0, ← hx1, ← hx2, ← hx3, ← hx4, ← hx5]
    rw [if_pos h0]; simp only [if_pos h2])
  have e_sInvoke : (x0 == [105, 110, 118, 111, 107, 101]) = true := by rw [h0]; decide
  have f_sPut : (x2 == [112, 117, 116]) = true := by rw [h2]; decide
  clear h2
  clear hx0 hx1 hx2 hx3 hx4 hx5 hXc h0
  have n0 : 0 < N6 := by omega
  have i0 : (0 : Int) < (N6 : Int) := by omega
  have n1 : 1 < N6 := by omega
  have i1 : (1 : Int) < (N6 : Int) := by omega
  have n2 : 2 < N6 := by omega
  have i2 : (2 : Int) < (N6 : Int) := by omega
  have n3 : 3 < N6 := by omega
  have i3 : (3 : Int) < (N6 : Int) := by omega
  have n4 : 4 < N6 := by omega
  have i4 : (4 : Int) < (N6 : Int) := by omega
  have n5 : 5 < N6 := by omega
  have i5 : (5 : Int) < (N6 : Int) := by omega
  clear hn7 hnb hsz hXs
  have z0 := HX.out.1.frozen 0
  have y0 := HX.out.1.cell 0
  have z1 := HX.out.1.frozen 1
  have y1 := HX.out.1.cell 1
  have z2 := HX.out.1.frozen 2
  have y2 := HX.out.1.cell 2
  have z3 := HX.out.1.frozen 3
  have y3 := HX.out.1.cell 3
  have z4 := HX.out.1.frozen 4
  have y4 := HX.out.1.cell 4
  have z5 := HX.out.1.frozen 5
  have y5 := HX.out.1.cell 5
  have z6 := HX.out.1.frozen 6
  have y6 := HX.out.1.cell 6
  have z7 := HX.out.1.frozen 7
  have y7 := HX.out.1.cell 7
  have z8 := HX.out.1.frozen 8
  have y8 := HX.out.1.cell 8
  have z9 := HX.out.1.frozen 9
  have y9 := HX.out.1.cell 9
  go_upto_region 6 with fail
  refine wp_region_still_tail 10 (by kernel_rfl) (by kernel_rfl) ?_
  simp only [List.take_succ_cons, List.take_zero, List.drop_succ_cons, List.drop_zero]
  still_step
  still_step
  still_step
  still_call (rSmall_any x1 HL.out.1)
  still_step
  still_step
  still_step
  still_call (rNum_any x3 HL.out.2.2.1)
  still_step
  still_step
  refine wpStill_nil ?_
  have hdrew : ({ X with drawn := X.drawn + 1 } : World) = X.drew := rfl
  rw [hdrew]
  clear hdrew
  go_upto_region 7 with fail
  obtain ⟨Y, hY⟩ : ∃ Y, Y = ((((((((((X.setCell ⟨b6, 0, none⟩ (.int .i64 1)).setCell ⟨b6, 1, none⟩ (.int .i64 (smallR x1))).setCell ⟨b6, 2, none⟩ (.int .i64 0)).setCell ⟨b6, 3, none⟩ (.int .u64 (numR x3))).setCell ⟨b6, 4, none⟩ (.int .u64 0)).setCell ⟨b6, 5, none⟩ (.int .i64 0)).setCell ⟨b6, 6, none⟩ (.string ⟨#[]⟩)).setCell ⟨b6, 7, none⟩ (.int .u64 0)).setCell ⟨b6, 8, none⟩ (.int .i64 0)).setCell ⟨b6, 9, none⟩ (.slice none 0 0)).drew := ⟨_, rfl⟩
  have hY1 : Y = (put10 X b6 ⟨1, smallR x1, ⟨0, numR x3, 0, 0, []⟩, 0, 0, []⟩ (.slice none 0 0)).drew := hY
  have B0 : Blk (put10 X b6 ⟨1, smallR x1, ⟨0, numR x3, 0, 0, []⟩, 0, 0, []⟩ (.slice none 0 0)) b6 31 (acC ⟨1, smallR x1, ⟨0, numR x3, 0, 0, []⟩, 0, 0, []⟩ (.slice none 0 0)) := put10_blk HX.out.1 rfl ⟨1, smallR x1, ⟨0, numR x3, 0, 0, []⟩, 0, 0, []⟩ (.slice none 0 0)
  have B1 : Blk Y b6 31 (acC ⟨1, smallR x1, ⟨0, numR x3, 0, 0, []⟩, 0, 0, []⟩ (.slice none 0 0)) := by rw [hY1]; exact B0.drew
  have B2 : Below W.heap.size W (put10 X b6 ⟨1, smallR x1, ⟨0, numR x3, 0, 0, []⟩, 0, 0, []⟩ (.slice none 0 0)) := put10_below HX.out.2.1 HX.out.2.2.1 ⟨1, smallR x1, ⟨0, numR x3, 0, 0, []⟩, 0, 0, []⟩ (.slice none 0 0)
  have B3 : Below W.heap.size W Y := by rw [hY1]; exact B2.drew
  have HY := Lib.hid (And.intro B1 B3); clear B0 B1 B2 B3
  have q2 : Y.cell? ⟨gb, 2, none⟩ = some (.string (mk x2)) := by rw [hY1, drew_cell, put10_cell (by have := HX.out.2.2.2.2; omega)]; exact HM.out.2.2.1
  have q4 : Y.cell? ⟨gb, 4, none⟩ = some (.string (mk x4)) := by rw [hY1, drew_cell, put10_cell (by have := HX.out.2.2.2.2; omega)]; exact HM.out.2.2.2.2.1
  have q5 : Y.cell? ⟨gb, 5, none⟩ = some (.string (mk x5)) := by rw [hY1, drew_cell, put10_cell (by have := HX.out.2.2.2.2; omega)]; exact HM.out.2.2.2.2.2
  rw [← hY]
  clear hY hY1 m0 m1 m2 m3 m4 m5 z0 z1 z2 z3 z4 z5 z6 z7 z8 z9 y0 y1 y2 y3 y4 y5 y6 y7 y8 y9
  have z2 := HY.out.1.frozen 2; have z4 := HY.out.1.frozen 4; have z5 := HY.out.1.frozen 5; have z6 := HY.out.1.frozen 6
  have y2 := HY.out.1.cell 2; have y4 := HY.out.1.cell 4; have y5 := HY.out.1.cell 5; have y6 := HY.out.1.cell 6
  go_wp2_with fail
  refine (rUnhex_any x4 HL.out.2.2.2.1).mono ?_; rintro e w7 ⟨rfl, hb7⟩
  have H7 := Lib.hid (And.intro (HY.out.1.below hb7 HY.out.1.lt) (HY.out.2.trans (hb7.mono HY.out.2.size))); clear hb7 q2 q4 q5 z2 z4 z5 z6 y2 y4 y5 y6
  have z2 := H7.out.1.frozen 2; have z6 := H7.out.1.frozen 6
  have y2 := H7.out.1.cell 2; have y6 := H7.out.1.cell 6
  have b1 : Blk (w7.setCell ⟨b6, 2, none⟩ (.int .i64 1)) b6 31 (acC ⟨1, smallR x1, ⟨1, numR x3, 0, 0, []⟩, 0, 0, []⟩ (.slice none 0 0)) := H7.out.1.set_ 2 _
  have B1 := Lib.hid b1; clear b1
  go_upto_region 35 with fail
  obtain ⟨Z, hZ⟩ : ∃ Z, Z = (w7.setCell ⟨b6, 2, none⟩ (.int .i64 1)).setCell ⟨b6, 6, none⟩ (.string (mk (unhexV x4))) := ⟨_, rfl⟩
  have hZ1 : Blk Z b6 31 (acC ⟨1, smallR x1, ⟨1, numR x3, 0, 0, unhexV x4⟩, 0, 0, []⟩ (.slice none 0 0)) := by rw [hZ]; exact B1.out.set_ 6 _
  have hZ2 : Z.ownsRow (b6 + 1) 3 1 (.slice none 0 0) (⟨1, smallR x1, ⟨1, numR x3, 0, 0, unhexV x4⟩, 0, 0, []⟩ : Ac).keep.length (ints (⟨1, smallR x1, ⟨1, numR x3, 0, 0, unhexV x4⟩, 0, 0, []⟩ : Ac).keep) := by rw [hZ]; exact World.ownsRow_nil _ _ _ _
  have hZ3 : Below W.heap.size W Z := by rw [hZ]; exact (H7.out.2.setCell (p := ⟨b6, 2, none⟩) HX.out.2.2.1 _).setCell (p := ⟨b6, 6, none⟩) HX.out.2.2.1 _
  have HZ := Lib.hid (And.intro hZ1 (And.intro (RowR.of_own hZ2) (And.intro hZ2 hZ3)))
  rw [← hZ]
  clear hZ hZ1 hZ2 hZ3 z2 z6 y2 y6
  have HRF := Lib.hid (refOf_at HCC.out)
  obtain ⟨d0, d1, d2, d3, d4, d5, d6, d7, d8, d9⟩ := acCells HZ.out.1
  dsimp only at d0 d1 d2 d3 d4 d5 d6 d7 d8 d9
  have CS := Lib.hid (cand_small l)
  have CT := Lib.hid (cand_typed l)
  rw [HCC.out] at CS CT
  go_wp2_with fail
  refine (rMayAct_any ⟨1, smallR x1, ⟨1, numR x3, 0, 0, unhexV x4⟩, 0, 0, []⟩ (.slice none 0 0) HZ.out.2.1 (Nat.le_trans CS.out.2 (by have := HI.out.2.2.2; omega))).mono ?_; rintro e w3 ⟨he, hb3⟩
  obtain ⟨q, hq⟩ : ∃ q, q = mayAct ⟨1, smallR x1, ⟨1, numR x3, 0, 0, unhexV x4⟩, 0, 0, []⟩ := ⟨_, rfl⟩
  rw [← hq] at he HRF
  obtain rfl := he
  have HQ := Lib.hid hq; clear hq
  have H3 := Lib.hid (show Blk w3 b6 31 (acC ⟨1, smallR x1, ⟨1, numR x3, 0, 0, unhexV x4⟩, 0, 0, []⟩ (.slice none 0 0)) ∧ w3.ownsRow (b6 + 1) 3 1 (.slice none 0 0) (⟨1, smallR x1, ⟨1, numR x3, 0, 0, unhexV x4⟩, 0, 0, []⟩ : Ac).keep.length (ints (⟨1, smallR x1, ⟨1, numR x3, 0, 0, unhexV x4⟩, 0, 0, []⟩ : Ac).keep) ∧ Below W.heap.size W w3 from
    ⟨HZ.out.1.below hb3 HZ.out.1.lt, own_next HZ.out.2.2.1 hb3, HZ.out.2.2.2.trans (hb3.mono HZ.out.2.2.2.size)⟩)
  clear hb3 d0 d1 d2 d3 d4 d5 d6 d7 d8 d9
  obtain ⟨d0, d1, d2, d3, d4, d5, d6, d7, d8, d9⟩ := acCells H3.out.1
  dsimp only at d0 d1 d2 d3 d4 d5 d6 d7 d8 d9
  cases q with
  | false =>
    have HN := Lib.hid (HI.out.1.below H3.out.2.2 HI.out.1.lt)
    have HB9 := Lib.hid (HI.out.2.1.trans ((H3.out.2.2).mono HI.out.2.1.size))
    have r0 := HN.out.cell 0; have r1 := HN.out.cell 1; have r2 := HN.out.cell 2; have r3 := HN.out.cell 3; have r4 := HN.out.cell 4
    have r5 := HN.out.cell 5; have r6 := HN.out.cell 6; have r7 := HN.out.cell 7; have r8 := HN.out.cell 8; have r9 := HN.out.cell 9
    have s0 := HN.out.frozen 0; have s1 := HN.out.frozen 1; have s2 := HN.out.frozen 2; have s3 := HN.out.frozen 3; have s4 := HN.out.frozen 4
    have s5 := HN.out.frozen 5; have s6 := HN.out.frozen 6; have s7 := HN.out.frozen 7; have s8 := HN.out.frozen 8; have s9 := HN.out.frozen 9
    go_wp2_with fail
    refine bodyPost_ret (res_rOf (a := Ac.zero) (kv := .slice none 0 0) (put10_blk HN.out rfl Ac.zero (.slice none 0 0)) rfl rfl rfl) rfl ⟨put10_below HB9.out (Nat.le_refl _) Ac.zero (.slice none 0 0), ?_⟩
    rw [HRF.out, if_neg (by rintro ⟨h, _⟩; cases h)]
  | true =>
    have HU := Lib.hid (show (1 : Int) ≤ 1 ∧ (1 : Int) ≤ 100000 from by decide)
    have MM := Lib.hid ((mayAct_iff _).1 HQ.out.symm)
    go_wp2_with fail
    refine (rLine_any ⟨1, smallR x1, ⟨1, numR x3, 0, 0, unhexV x4⟩, 0, 0, []⟩ (.slice none 0 0) 1 (RowR.of_own H3.out.2.1) MM.out CT.out (Nat.le_trans CS.out.1 (by have := HI.out.2.2.2; omega)) (Nat.le_trans CS.out.2 (by have := HI.out.2.2.2; omega)) ⟨by have := HU.out.1; omega, by have := HU.out.2; omega⟩).mono ?_; rintro e w4 ⟨rfl, hb4⟩
    obtain ⟨s, hs⟩ : ∃ s, s = lineL ⟨1, smallR x1, ⟨1, numR x3, 0, 0, unhexV x4⟩, 0, 0, []⟩ 1 := ⟨_, rfl⟩
    rw [← hs] at HRF
    rw [← hs]
    clear hs
    have H4 := Lib.hid (show Blk w4 b6 31 (acC ⟨1, smallR x1, ⟨1, numR x3, 0, 0, unhexV x4⟩, 0, 0, []⟩ (.slice none 0 0)) ∧ w4.ownsRow (b6 + 1) 3 1 (.slice none 0 0) (⟨1, smallR x1, ⟨1, numR x3, 0, 0, unhexV x4⟩, 0, 0, []⟩ : Ac).keep.length (ints (⟨1, smallR x1, ⟨1, numR x3, 0, 0, unhexV x4⟩, 0, 0, []⟩ : Ac).keep) ∧ Below W.heap.size W w4 from
      ⟨H3.out.1.below hb4 H3.out.1.lt, own_next H3.out.2.1 hb4, H3.out.2.2.trans (hb4.mono H3.out.2.2.size)⟩)
    clear hb4 d0 d1 d2 d3 d4 d5 d6 d7 d8 d9
    obtain ⟨d0, d1, d2, d3, d4, d5, d6, d7, d8, d9⟩ := acCells H4.out.1
    dsimp only at d0 d1 d2 d3 d4 d5 d6 d7 d8 d9
    by_cases hsl : s = l
    case neg =>
      have v1 : (s == l) = false := by simpa using hsl
      have v2 : (s != l) = true := by simpa using hsl
      have HU2 := Lib.hid hsl; clear hsl
      have HN := Lib.hid (HI.out.1.below H4.out.2.2 HI.out.1.lt)
      have HB9 := Lib.hid (HI.out.2.1.trans ((H4.out.2.2).mono HI.out.2.1.size))
      have r0 := HN.out.cell 0; have r1 := HN.out.cell 1; have r2 := HN.out.cell 2; have r3 := HN.out.cell 3; have r4 := HN.out.cell 4
      have r5 := HN.out.cell 5; have r6 := HN.out.cell 6; have r7 := HN.out.cell 7; have r8 := HN.out.cell 8; have r9 := HN.out.cell 9
      have s0 := HN.out.frozen 0; have s1 := HN.out.frozen 1; have s2 := HN.out.frozen 2; have s3 := HN.out.frozen 3; have s4 := HN.out.frozen 4
      have s5 := HN.out.frozen 5; have s6 := HN.out.frozen 6; have s7 := HN.out.frozen 7; have s8 := HN.out.frozen 8; have s9 := HN.out.frozen 9
      go_wp2_with fail
      refine bodyPost_ret (res_rOf (a := Ac.zero) (kv := .slice none 0 0) (put10_blk HN.out rfl Ac.zero (.slice none 0 0)) rfl rfl rfl) rfl ⟨put10_below HB9.out (Nat.le_refl _) Ac.zero (.slice none 0 0), ?_⟩
      rw [HRF.out, if_neg (by rintro ⟨_, _, _, h⟩; exact HU2.out h)]
    have v1 : (s == l) = true := by simpa using hsl
    have v2 : (s != l) = false := by simpa using hsl
    have HU2 := Lib.hid hsl; clear hsl
    have HN := Lib.hid (HI.out.1.below H4.out.2.2 HI.out.1.lt)
    have HB9 := Lib.hid (HI.out.2.1.trans ((H4.out.2.2).mono HI.out.2.1.size))
    have r0 := HN.out.cell 0; have r1 := HN.out.cell 1; have r2 := HN.out.cell 2; have r3 := HN.out.cell 3; have r4 := HN.out.cell 4
    have r5 := HN.out.cell 5; have r6 := HN.out.cell 6; have r7 := HN.out.cell 7; have r8 := HN.out.cell 8; have r9 := HN.out.cell 9
    have s0 := HN.out.frozen 0; have s1 := HN.out.frozen 1; have s2 := HN.out.frozen 2; have s3 := HN.out.frozen 3; have s4 := HN.out.frozen 4
    have s5 := HN.out.frozen 5; have s6 := HN.out.frozen 6; have s7 := HN.out.frozen 7; have s8 := HN.out.frozen 8; have s9 := HN.out.frozen 9
    go_wp2_with fail
    refine bodyPost_ret (res_rOf (a := ⟨1, smallR x1, ⟨1, numR x3, 0, 0, unhexV x4⟩, 0, 0, []⟩) (kv := (.slice none 0 0)) (put10_blk HN.out rfl ⟨1, smallR x1, ⟨1, numR x3, 0, 0, unhexV x4⟩, 0, 0, []⟩ (.slice none 0 0)) rfl rfl rfl) rfl ⟨put10_below HB9.out (Nat.le_refl _) ⟨1, smallR x1, ⟨1, numR x3, 0, 0, unhexV x4⟩, 0, 0, []⟩ (.slice none 0 0), ?_⟩
    rw [HRF.out, if_pos ⟨by trivial, HU.out.1, HU.out.2, HU2.out⟩]
    exact ⟨(.slice none 0 0), rfl, RowR.of_own (own_put10B H4.out.2.1 (by have := HX.out.2.2.1; have := HI.out.2.2.1; omega) ⟨1, smallR x1, ⟨1, numR x3, 0, 0, unhexV x4⟩, 0, 0, []⟩ (.slice none 0 0)), fun r e => by have := (H4.out.2.1.lt r e).1; have := HX.out.2.2.1; have := HI.out.2.2.1; omega⟩

set_option maxHeartbeats 4000000 in
set_option maxRecDepth 100000 in
theorem rof_scan {w : World} (l : Bs) (hl : l.length ≤ 100000) (h0 : wd l 0 = sInvoke) (h2 : wd l 2 = sScan) : Calls Tryz.prog 10 #[.string (mk l)] w (ROfPost w l) := by
  obtain ⟨W, hW⟩ : ∃ W, W = w.alloc (.cells zCs 31) := ⟨_, rfl⟩
  have hR : Blk W w.heap.size 31 zCs := by rw [hW]; exact Blk.new _ _ _
  have hB : Below w.heap.size w W := by rw [hW]; exact (Below.refl _ _).alloc (Nat.le_refl _) _
  have hWs : W.heap.size = w.heap.size + 1 := by rw [hW]; simp
  have HI := Lib.hid (And.intro hR (And.intro hB (And.intro hWs hl)))
  clear hR hB hWs hl
  go_enter Tryz.func10, Tryz.ntmps10
  go_upto_region 1 with fail
  rw [← hW]
  clear hW
  go_wp2_with fail
  refine (rWords_any l (by have := HI.out.2.2.2; omega)).mono ?_; rintro e w1 ⟨v1, rfl, ho1, hb1⟩
  have H1 := Lib.hid (And.intro ho1 hb1); clear ho1 hb1
  go_wp2_with (at_builtin; refine wpList_app_strs rfl _ _ rfl W.heap.size v1 _ _ rfl (H1.out.1.alloc _) (.slice (some ⟨w1.heap.size, 0, none⟩) 6 6) [[], [], [], [], [], []] rfl (lit_strs w1 [[], [], [], [], [], []] (by simp)) ?few ?base ?_)
  case few => have := splitC_few 32 l; have := HI.out.2.2.2; simp; omega
  case base => have := H1.out.2.size; simp; omega
  intro v2 w2 o2 g2
  obtain ⟨L6, hL6⟩ : ∃ L6, L6 = splitC 32 l ++ [[], [], [], [], [], []] := ⟨_, rfl⟩
  obtain ⟨N6, hN6⟩ : ∃ N6, N6 = (splitC 32 l).length + 6 := ⟨_, rfl⟩
  have o3 : w2.ownsRow W.heap.size 9 1 v2 N6 (strs L6) := by rw [hL6, hN6]; exact o2
  have hn7 : 7 ≤ N6 := by
    have : 0 < (splitC 32 l).length := List.length_pos_iff.2 (splitC_ne 32 l)
    omega
  have hnb : N6 ≤ 1000000 := by have := splitC_few 32 l; have := HI.out.2.2.2; omega
  obtain ⟨gb, cap, rfl, hg, hgl⟩ := o3.form (by omega)
  have hb2 : Below W.heap.size W w2 := (H1.out.2.alloc H1.out.2.size _).trans (g2.below.mono (by first | exact Nat.le_refl _ | omega))
  have hwd : ∀ i, i < 6 → w2.cell? ⟨gb, i, none⟩ = some (.string (mk ((splitC 32 l).getD i []))) := fun i hi => by
    rw [o3.cellAt i (by omega), hL6, strs, List.getElem?_map, List.getElem?_append, List.getD]
    by_cases hlt : i < (splitC 32 l).length
    · rw [if_pos hlt, List.getElem?_eq_getElem hlt]; rfl
    · rw [if_neg hlt, List.getElem?_eq_none (by omega : (splitC 32 l).length ≤ i)]
      have h6 : i - (splitC 32 l).length < 6 := by omega
      generalize i - (splitC 32 l).length = q at h6
      have : ∀ q, q < 6 → ([[], [], [], [], [], []] : List Bs)[q]? = some [] := by decide
      rw [this q h6]; rfl
  have HO2 := Lib.hid (And.intro hb2 (And.intro hg hgl)); clear hb2 hg o2 o3 g2 hL6 hN6
  go_upto_region 3 with fail
  obtain ⟨X, hX⟩ : ∃ X, X = w2.alloc (.cells zCs 31) := ⟨_, rfl⟩
  have hXA : Blk X w2.heap.size 31 zCs := by rw [hX]; exact Blk.new _ _ _
  have hXW : Below W.heap.size W X := by rw [hX]; exact HO2.out.1.alloc HO2.out.1.size _
  have hXc : ∀ i, i < 6 → X.cell? ⟨gb, i, none⟩ = some (.string (mk ((splitC 32 l).getD i []))) := fun i hi => by
    rw [hX, World.cell?_alloc_lt _ _ _ HO2.out.2.2]; exact hwd i hi
  obtain ⟨b6, hb6⟩ : ∃ b6, b6 = w2.heap.size := ⟨_, rfl⟩
  have hsz : W.heap.size ≤ w2.heap.size := HO2.out.1.size
  have hXs : X.heap.size = b6 + 1 := by rw [hX, hb6]; simp
  have hgb : gb < b6 := by rw [hb6]; exact HO2.out.2.2
  rw [← hb6] at hXA hsz
  have hX2 : X = w2.alloc (.cells #[.int .i64 0, .int .i64 0, .int .i64 0, .int .u64 0, .int .u64 0, .int .i64 0, .string ⟨#[]⟩, .int .u64 0, .int .i64 0, .slice none 0 0] 31) := hX
  rw [← hX2, ← hb6]
  clear hX hX2 hb6 hwd hgl
  have HX := Lib.hid (And.intro hXA (And.intro hXW (And.intro hsz (And.intro hXs hgb)))); clear hXA hXW
  obtain ⟨x0, hx0⟩ : ∃ x, x = wd l 0 := ⟨_, rfl⟩
  obtain ⟨x1, hx1⟩ : ∃ x, x = wd l 1 := ⟨_, rfl⟩
  obtain ⟨x2, hx2⟩ : ∃ x, x = wd l 2 := ⟨_, rfl⟩
  obtain ⟨x3, hx3⟩ : ∃ x, x = wd l 3 := ⟨_, rfl⟩
  obtain ⟨x4, hx4⟩ : ∃ x, x = wd l 4 := ⟨_, rfl⟩
  obtain ⟨x5, hx5⟩ : ∃ x, x = wd l 5 := ⟨_, rfl⟩
  have m0 : X.cell? ⟨gb, 0, none⟩ = some (.string (mk x0)) := by rw [hx0]; exact hXc 0 (by omega)
  have m1 : X.cell? ⟨gb, 1, none⟩ = some (.string (mk x1)) := by rw [hx1]; exact hXc 1 (by omega)
  have m2 : X.cell? ⟨gb, 2, none⟩ = some (.string (mk x2)) := by rw [hx2]; exact hXc 2 (by omega)
  have m3 : X.cell? ⟨gb, 3, none⟩ = some (.string (mk x3)) := by rw [hx3]; exact hXc 3 (by omega)
  have m4 : X.cell? ⟨gb, 4, none⟩ = some (.string (mk x4)) := by rw [hx4]; exact hXc 4 (by omega)
  have m5 : X.cell? ⟨gb, 5, none⟩ = some (.string (mk x5)) := by rw [hx5]; exact hXc 5 (by omega)
  have HM := Lib.hid (And.intro m0 (And.intro m1 (And.intro m2 (And.intro m3 (And.intro m4 m5)))))
  have HL := Lib.hid (show x1.length ≤ 1000000 ∧ x2.length ≤ 1000000 ∧ x3.length ≤ 1000000 ∧ x4.length ≤ 1000000 ∧ x5.length ≤ 1000000 from by
    rw [hx1, hx2, hx3, hx4, hx5]
    exact ⟨wd_le l 1 HI.out.2.2.2, wd_le l 2 HI.out.2.2.2, wd_le l 3 HI.out.2.2.2, wd_le l 4 HI.out.2.2.2, wd_le l 5 HI.out.2.2.2⟩)
  rw [← hx0] at h0
  rw [← hx2] at h2
  have HCC := Lib.hid (show cand l = ((⟨1, smallR x1, ⟨4, numR x3, numR x4, smallR x5, []⟩, 0, 0, []⟩ : Ac), (1 : Int)) by
    rw [cand_wd, ← hx0, ← hx1, ← hx2, ← hx3, ← hx4, ← hx5]
    rw [if_pos h0]; simp only [if_neg (show ¬ x2 = sPut by rw [h2]; decide), if_neg (show ¬ x2 = sGet by rw [h2]; decide), if_neg (show ¬ x2 = sDelete by rw [h2]; decide), if_pos h2])
  have e_sInvoke : (x0 == [105, 110, 118, 111, 107, 101]) = true := by rw [h0]; decide
  have f_sPut : (x2 == [112, 117, 116]) = false := by rw [h2]; decide
  have f_sGet : (x2 == [103, 101, 116]) = false := by rw [h2]; decide
  have f_sDelete : (x2 == [100, 101, 108, 101, 116, 101]) = false := by rw [h2]; decide
  have f_sScan : (x2 == [115, 99, 97, 110]) = true := by rw [h2]; decide
  clear h2
  clear hx0 hx1 hx2 hx3 hx4 hx5 hXc h0
  have n0 : 0 < N6 := by omega
  have i0 : (0 : Int) < (N6 : Int) := by omega
  have n1 : 1 < N6 := by omega
  have i1 : (1 : Int) < (N6 : Int) := by omega
  have n2 : 2 < N6 := by omega
  have i2 : (2 : Int) < (N6 : Int) := by omega
  have n3 : 3 < N6 := by omega
  have i3 : (3 : Int) < (N6 : Int) := by omega
  have n4 : 4 < N6 := by omega
  have i4 : (4 : Int) < (N6 : Int) := by omega
  have n5 : 5 < N6 := by omega
  have i5 : (5 : Int) < (N6 : Int) := by omega
  clear hn7 hnb hsz hXs
  have z0 := HX.out.1.frozen 0
  have y0 := HX.out.1.cell 0
  have z1 := HX.out.1.frozen 1
  have y1 := HX.out.1.cell 1
  have z2 := HX.out.1.frozen 2
  have y2 := HX.out.1.cell 2
  have z3 := HX.out.1.frozen 3
  have y3 := HX.out.1.cell 3
  have z4 := HX.out.1.frozen 4
  have y4 := HX.out.1.cell 4
  have z5 := HX.out.1.frozen 5
  have y5 := HX.out.1.cell 5
  have z6 := HX.out.1.frozen 6
  have y6 := HX.out.1.cell 6
  have z7 := HX.out.1.frozen 7
  have y7 := HX.out.1.cell 7
  have z8 := HX.out.1.frozen 8
  have y8 := HX.out.1.cell 8
  have z9 := HX.out.1.frozen 9
  have y9 := HX.out.1.cell 9
  go_upto_region 6 with fail
  refine wp_region_still_tail 10 (by kernel_rfl) (by kernel_rfl) ?_
  simp only [List.take_succ_cons, List.take_zero, List.drop_succ_cons, List.drop_zero]
  still_step
  still_step
  still_step
  still_call (rSmall_any x1 HL.out.1)
  still_step
  still_step
  still_step
  still_call (rNum_any x3 HL.out.2.2.1)
  still_step
  still_step
  refine wpStill_nil ?_
  have hdrew : ({ X with drawn := X.drawn + 1 } : World) = X.drew := rfl
  rw [hdrew]
  clear hdrew
  go_upto_region 7 with fail
  obtain ⟨Y, hY⟩ : ∃ Y, Y = ((((((((((X.setCell ⟨b6, 0, none⟩ (.int .i64 1)).setCell ⟨b6, 1, none⟩ (.int .i64 (smallR x1))).setCell ⟨b6, 2, none⟩ (.int .i64 0)).setCell ⟨b6, 3, none⟩ (.int .u64 (numR x3))).setCell ⟨b6, 4, none⟩ (.int .u64 0)).setCell ⟨b6, 5, none⟩ (.int .i64 0)).setCell ⟨b6, 6, none⟩ (.string ⟨#[]⟩)).setCell ⟨b6, 7, none⟩ (.int .u64 0)).setCell ⟨b6, 8, none⟩ (.int .i64 0)).setCell ⟨b6, 9, none⟩ (.slice none 0 0)).drew := ⟨_, rfl⟩
  have hY1 : Y = (put10 X b6 ⟨1, smallR x1, ⟨0, numR x3, 0, 0, []⟩, 0, 0, []⟩ (.slice none 0 0)).drew := hY
  have B0 : Blk (put10 X b6 ⟨1, smallR x1, ⟨0, numR x3, 0, 0, []⟩, 0, 0, []⟩ (.slice none 0 0)) b6 31 (acC ⟨1, smallR x1, ⟨0, numR x3, 0, 0, []⟩, 0, 0, []⟩ (.slice none 0 0)) := put10_blk HX.out.1 rfl ⟨1, smallR x1, ⟨0, numR x3, 0, 0, []⟩, 0, 0, []⟩ (.slice none 0 0)
  have B1 : Blk Y b6 31 (acC ⟨1, smallR x1, ⟨0, numR x3, 0, 0, []⟩, 0, 0, []⟩ (.slice none 0 0)) := by rw [hY1]; exact B0.drew
  have B2 : Below W.heap.size W (put10 X b6 ⟨1, smallR x1, ⟨0, numR x3, 0, 0, []⟩, 0, 0, []⟩ (.slice none 0 0)) := put10_below HX.out.2.1 HX.out.2.2.1 ⟨1, smallR x1, ⟨0, numR x3, 0, 0, []⟩, 0, 0, []⟩ (.slice none 0 0)
  have B3 : Below W.heap.size W Y := by rw [hY1]; exact B2.drew
  have HY := Lib.hid (And.intro B1 B3); clear B0 B1 B2 B3
  have q2 : Y.cell? ⟨gb, 2, none⟩ = some (.string (mk x2)) := by rw [hY1, drew_cell, put10_cell (by have := HX.out.2.2.2.2; omega)]; exact HM.out.2.2.1
  have q4 : Y.cell? ⟨gb, 4, none⟩ = some (.string (mk x4)) := by rw [hY1, drew_cell, put10_cell (by have := HX.out.2.2.2.2; omega)]; exact HM.out.2.2.2.2.1
  have q5 : Y.cell? ⟨gb, 5, none⟩ = some (.string (mk x5)) := by rw [hY1, drew_cell, put10_cell (by have := HX.out.2.2.2.2; omega)]; exact HM.out.2.2.2.2.2
  rw [← hY]
  clear hY hY1 m0 m1 m2 m3 m4 m5 z0 z1 z2 z3 z4 z5 z6 z7 z8 z9 y0 y1 y2 y3 y4 y5 y6 y7 y8 y9
  have z2 := HY.out.1.frozen 2; have z4 := HY.out.1.frozen 4; have z5 := HY.out.1.frozen 5; have z6 := HY.out.1.frozen 6
  have y2 := HY.out.1.cell 2; have y4 := HY.out.1.cell 4; have y5 := HY.out.1.cell 5; have y6 := HY.out.1.cell 6
  go_upto_region 15 with fail
  go_region_with (first
    | (go_at_call 32; refine (rSmall_any x5 HL.out.2.2.2.2).mono ?_; rintro e w9 ⟨rfl, hw9⟩; rw [hw9]; clear hw9 w9)
    | (go_at_call 33; refine (rNum_any x4 HL.out.2.2.2.1).mono ?_; rintro e w10 ⟨rfl, hw10⟩; rw [hw10]; clear hw10 w10))
  all_goals
    have b1 : Blk (Y.setCell ⟨b6, 2, none⟩ (.int .i64 4)) b6 31 (acC ⟨1, smallR x1, ⟨4, numR x3, 0, 0, []⟩, 0, 0, []⟩ (.slice none 0 0)) := HY.out.1.set_ 2 _
    have b2 : Blk ((Y.setCell ⟨b6, 2, none⟩ (.int .i64 4)).setCell ⟨b6, 4, none⟩ (.int .u64 (numR x4))) b6 31 (acC ⟨1, smallR x1, ⟨4, numR x3, numR x4, 0, []⟩, 0, 0, []⟩ (.slice none 0 0)) := b1.set_ 4 _
    have B2 := Lib.hid b2; clear b1 b2
    go_upto_region 35 with fail
    obtain ⟨Z, hZ⟩ : ∃ Z, Z = (((Y.setCell ⟨b6, 2, none⟩ (.int .i64 4)).setCell ⟨b6, 4, none⟩ (.int .u64 (numR x4))).setCell ⟨b6, 5, none⟩ (.int .i64 (smallR x5))).drew := ⟨_, rfl⟩
    have hZ1 : Blk Z b6 31 (acC ⟨1, smallR x1, ⟨4, numR x3, numR x4, smallR x5, []⟩, 0, 0, []⟩ (.slice none 0 0)) := by rw [hZ]; exact (B2.out.set_ 5 _).drew
    have hZ2 : Z.ownsRow (b6 + 1) 3 1 (.slice none 0 0) (⟨1, smallR x1, ⟨4, numR x3, numR x4, smallR x5, []⟩, 0, 0, []⟩ : Ac).keep.length (ints (⟨1, smallR x1, ⟨4, numR x3, numR x4, smallR x5, []⟩, 0, 0, []⟩ : Ac).keep) := by rw [hZ]; exact World.ownsRow_nil _ _ _ _
    have hZ3 : Below W.heap.size W Z := by rw [hZ]; exact (((HY.out.2.setCell (p := ⟨b6, 2, none⟩) HX.out.2.2.1 _).setCell (p := ⟨b6, 4, none⟩) HX.out.2.2.1 _).setCell (p := ⟨b6, 5, none⟩) HX.out.2.2.1 _).drew
    have HZ := Lib.hid (And.intro hZ1 (And.intro (RowR.of_own hZ2) (And.intro hZ2 hZ3)))
    rw [← hZ]
    clear hZ hZ1 hZ2 hZ3 q2 q4 q5 z2 z4 z5 z6 y2 y4 y5 y6
    have HRF := Lib.hid (refOf_at HCC.out)
    obtain ⟨d0, d1, d2, d3, d4, d5, d6, d7, d8, d9⟩ := acCells HZ.out.1
    dsimp only at d0 d1 d2 d3 d4 d5 d6 d7 d8 d9
    have CS := Lib.hid (cand_small l)
    have CT := Lib.hid (cand_typed l)
    rw [HCC.out] at CS CT
    go_wp2_with fail
    refine (rMayAct_any ⟨1, smallR x1, ⟨4, numR x3, numR x4, smallR x5, []⟩, 0, 0, []⟩ (.slice none 0 0) HZ.out.2.1 (Nat.le_trans CS.out.2 (by have := HI.out.2.2.2; omega))).mono ?_; rintro e w3 ⟨he, hb3⟩
    obtain ⟨q, hq⟩ : ∃ q, q = mayAct ⟨1, smallR x1, ⟨4, numR x3, numR x4, smallR x5, []⟩, 0, 0, []⟩ := ⟨_, rfl⟩
    rw [← hq] at he HRF
    obtain rfl := he
    have HQ := Lib.hid hq; clear hq
    have H3 := Lib.hid (show Blk w3 b6 31 (acC ⟨1, smallR x1, ⟨4, numR x3, numR x4, smallR x5, []⟩, 0, 0, []⟩ (.slice none 0 0)) ∧ w3.ownsRow (b6 + 1) 3 1 (.slice none 0 0) (⟨1, smallR x1, ⟨4, numR x3, numR x4, smallR x5, []⟩, 0, 0, []⟩ : Ac).keep.length (ints (⟨1, smallR x1, ⟨4, numR x3, numR x4, smallR x5, []⟩, 0, 0, []⟩ : Ac).keep) ∧ Below W.heap.size W w3 from
      ⟨HZ.out.1.below hb3 HZ.out.1.lt, own_next HZ.out.2.2.1 hb3, HZ.out.2.2.2.trans (hb3.mono HZ.out.2.2.2.size)⟩)
    clear hb3 d0 d1 d2 d3 d4 d5 d6 d7 d8 d9
    obtain ⟨d0, d1, d2, d3, d4, d5, d6, d7, d8, d9⟩ := acCells H3.out.1
    dsimp only at d0 d1 d2 d3 d4 d5 d6 d7 d8 d9
    cases q with
    | false =>
      have HN := Lib.hid (HI.out.1.below H3.out.2.2 HI.out.1.lt)
      have HB9 := Lib.hid (HI.out.2.1.trans ((H3.out.2.2).mono HI.out.2.1.size))
      have r0 := HN.out.cell 0; have r1 := HN.out.cell 1; have r2 := HN.out.cell 2; have r3 := HN.out.cell 3; have r4 := HN.out.cell 4
      have r5 := HN.out.cell 5; have r6 := HN.out.cell 6; have r7 := HN.out.cell 7; have r8 := HN.out.cell 8; have r9 := HN.out.cell 9
      have s0 := HN.out.frozen 0; have s1 := HN.out.frozen 1; have s2 := HN.out.frozen 2; have s3 := HN.out.frozen 3; have s4 := HN.out.frozen 4
      have s5 := HN.out.frozen 5; have s6 := HN.out.frozen 6; have s7 := HN.out.frozen 7; have s8 := HN.out.frozen 8; have s9 := HN.out.frozen 9
      go_wp2_with fail
      refine bodyPost_ret (res_rOf (a := Ac.zero) (kv := .slice none 0 0) (put10_blk HN.out rfl Ac.zero (.slice none 0 0)) rfl rfl rfl) rfl ⟨put10_below HB9.out (Nat.le_refl _) Ac.zero (.slice none 0 0), ?_⟩
      rw [HRF.out, if_neg (by rintro ⟨h, _⟩; cases h)]
    | true =>
      have HU := Lib.hid (show (1 : Int) ≤ 1 ∧ (1 : Int) ≤ 100000 from by decide)
      have MM := Lib.hid ((mayAct_iff _).1 HQ.out.symm)
      go_wp2_with fail
      refine (rLine_any ⟨1, smallR x1, ⟨4, numR x3, numR x4, smallR x5, []⟩, 0, 0, []⟩ (.slice none 0 0) 1 (RowR.of_own H3.out.2.1) MM.out CT.out (Nat.le_trans CS.out.1 (by have := HI.out.2.2.2; omega)) (Nat.le_trans CS.out.2 (by have := HI.out.2.2.2; omega)) ⟨by have := HU.out.1; omega, by have := HU.out.2; omega⟩).mono ?_; rintro e w4 ⟨rfl, hb4⟩
      obtain ⟨s, hs⟩ : ∃ s, s = lineL ⟨1, smallR x1, ⟨4, numR x3, numR x4, smallR x5, []⟩, 0, 0, []⟩ 1 := ⟨_, rfl⟩
      rw [← hs] at HRF
      rw [← hs]
      clear hs
      have H4 := Lib.hid (show Blk w4 b6 31 (acC ⟨1, smallR x1, ⟨4, numR x3, numR x4, smallR x5, []⟩, 0, 0, []⟩ (.slice none 0 0)) ∧ w4.ownsRow (b6 + 1) 3 1 (.slice none 0 0) (⟨1, smallR x1, ⟨4, numR x3, numR x4, smallR x5, []⟩, 0, 0, []⟩ : Ac).keep.length (ints (⟨1, smallR x1, ⟨4, numR x3, numR x4, smallR x5, []⟩, 0, 0, []⟩ : Ac).keep) ∧ Below W.heap.size W w4 from
        ⟨H3.out.1.below hb4 H3.out.1.lt, own_next H3.out.2.1 hb4, H3.out.2.2.trans (hb4.mono H3.out.2.2.size)⟩)
      clear hb4 d0 d1 d2 d3 d4 d5 d6 d7 d8 d9
      obtain ⟨d0, d1, d2, d3, d4, d5, d6, d7, d8, d9⟩ := acCells H4.out.1
      dsimp only at d0 d1 d2 d3 d4 d5 d6 d7 d8 d9
      by_cases hsl : s = l
      case neg =>
        have v1 : (s == l) = false := by simpa using hsl
        have v2 : (s != l) = true := by simpa using hsl
        have HU2 := Lib.hid hsl; clear hsl
        have HN := Lib.hid (HI.out.1.below H4.out.2.2 HI.out.1.lt)
        have HB9 := Lib.hid (HI.out.2.1.trans ((H4.out.2.2).mono HI.out.2.1.size))
        have r0 := HN.out.cell 0; have r1 := HN.out.cell 1; have r2 := HN.out.cell 2; have r3 := HN.out.cell 3; have r4 := HN.out.cell 4
        have r5 := HN.out.cell 5; have r6 := HN.out.cell 6; have r7 := HN.out.cell 7; have r8 := HN.out.cell 8; have r9 := HN.out.cell 9
        have s0 := HN.out.frozen 0; have s1 := HN.out.frozen 1; have s2 := HN.out.frozen 2; have s3 := HN.out.frozen 3; have s4 := HN.out.frozen 4
        have s5 := HN.out.frozen 5; have s6 := HN.out.frozen 6; have s7 := HN.out.frozen 7; have s8 := HN.out.frozen 8; have s9 := HN.out.frozen 9
        go_wp2_with fail
        refine bodyPost_ret (res_rOf (a := Ac.zero) (kv := .slice none 0 0) (put10_blk HN.out rfl Ac.zero (.slice none 0 0)) rfl rfl rfl) rfl ⟨put10_below HB9.out (Nat.le_refl _) Ac.zero (.slice none 0 0), ?_⟩
        rw [HRF.out, if_neg (by rintro ⟨_, _, _, h⟩; exact HU2.out h)]
      have v1 : (s == l) = true := by simpa using hsl
      have v2 : (s != l) = false := by simpa using hsl
      have HU2 := Lib.hid hsl; clear hsl
      have HN := Lib.hid (HI.out.1.below H4.out.2.2 HI.out.1.lt)
      have HB9 := Lib.hid (HI.out.2.1.trans ((H4.out.2.2).mono HI.out.2.1.size))
      have r0 := HN.out.cell 0; have r1 := HN.out.cell 1; have r2 := HN.out.cell 2; have r3 := HN.out.cell 3; have r4 := HN.out.cell 4
      have r5 := HN.out.cell 5; have r6 := HN.out.cell 6; have r7 := HN.out.cell 7; have r8 := HN.out.cell 8; have r9 := HN.out.cell 9
      have s0 := HN.out.frozen 0; have s1 := HN.out.frozen 1; have s2 := HN.out.frozen 2; have s3 := HN.out.frozen 3; have s4 := HN.out.frozen 4
      have s5 := HN.out.frozen 5; have s6 := HN.out.frozen 6; have s7 := HN.out.frozen 7; have s8 := HN.out.frozen 8; have s9 := HN.out.frozen 9
      go_wp2_with fail
      refine bodyPost_ret (res_rOf (a := ⟨1, smallR x1, ⟨4, numR x3, numR x4, smallR x5, []⟩, 0, 0, []⟩) (kv := (.slice none 0 0)) (put10_blk HN.out rfl ⟨1, smallR x1, ⟨4, numR x3, numR x4, smallR x5, []⟩, 0, 0, []⟩ (.slice none 0 0)) rfl rfl rfl) rfl ⟨put10_below HB9.out (Nat.le_refl _) ⟨1, smallR x1, ⟨4, numR x3, numR x4, smallR x5, []⟩, 0, 0, []⟩ (.slice none 0 0), ?_⟩
      rw [HRF.out, if_pos ⟨by trivial, HU.out.1, HU.out.2, HU2.out⟩]
      exact ⟨(.slice none 0 0), rfl, RowR.of_own (own_put10B H4.out.2.1 (by have := HX.out.2.2.1; have := HI.out.2.2.1; omega) ⟨1, smallR x1, ⟨4, numR x3, numR x4, smallR x5, []⟩, 0, 0, []⟩ (.slice none 0 0)), fun r e => by have := (H4.out.2.1.lt r e).1; have := HX.out.2.2.1; have := HI.out.2.2.1; omega⟩

end Go.Proofs.YtbpbkmhipbchbaaGreatDoor.sc
