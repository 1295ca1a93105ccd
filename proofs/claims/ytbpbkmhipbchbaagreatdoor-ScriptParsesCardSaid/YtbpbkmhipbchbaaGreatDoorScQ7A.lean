/-
  PROVED HERE: the reference's OfLine, at lines of one kind each. Conditions: a line of at most 100000 bytes. (Printed by a program of mine.)
-/
import Derived.Test.YtbpbkmhipbchbaaGreatDoorScQ7
import Derived.StillTail
import Derived.StillTactics
namespace Go.Proofs.YtbpbkmhipbchbaaGreatDoor.sc
open Go.RowKit
set_option linter.unusedVariables false
set_option linter.unusedSimpArgs false

set_option maxHeartbeats 4000000 in
set_option maxRecDepth 100000 in
theorem rof_open {w : World} (l : Bs) (hl : l.length ≤ 100000) (h0 : wd l 0 = sOpen) : Calls Tryz.prog 10 #[.string (mk l)] w (ROfPost w l) := by
  obtain ⟨W, hW⟩ : ∃ W, W = w.alloc (.cells zCs 31) := ⟨_, rfl⟩
  have hR : Blk W w.heap.size 31 zCs := by rw [hW]; exact Blk.new _ _ _
  have hB : Below w.heap.size w W := by rw [hW]; exact (Below.refl _ _).alloc (Nat.le_refl _) _
  have hWs : W.heap.size = w.heap.size + 1 := by rw [hW]; simp
  have HI := Lib.hid (And.intro hR (And.intro hB (And.intro hWs hl)))
  clear hR hB hWs hl
  go_enter Tryz.func10, Tryz.ntmps10
  go_upto_region 1 with fail
  rw [← hW]
  clear hW
  go_wp2_with fail
  refine (rWords_any l (by have := HI.out.2.2.2; omega)).mono ?_; rintro e w1 ⟨v1, rfl, ho1, hb1⟩
  have H1 := Lib.hid (And.intro ho1 hb1); clear ho1 hb1
  go_wp2_with (at_builtin; refine wpList_app_strs rfl _ _ rfl W.heap.size v1 _ _ rfl (H1.out.1.alloc _) (.slice (some ⟨w1.heap.size, 0, none⟩) 6 6) [[], [], [], [], [], []] rfl (lit_strs w1 [[], [], [], [], [], []] (by simp)) ?few ?base ?_)
  case few => have := splitC_few 32 l; have := HI.out.2.2.2; simp; omega
  case base => have := H1.out.2.size; simp; omega
  intro v2 w2 o2 g2
  obtain ⟨L6, hL6⟩ : ∃ L6, L6 = splitC 32 l ++ [[], [], [], [], [], []] := ⟨_, rfl⟩
  obtain ⟨N6, hN6⟩ : ∃ N6, N6 = (splitC 32 l).length + 6 := ⟨_, rfl⟩
  have o3 : w2.ownsRow W.heap.size 9 1 v2 N6 (strs L6) := by rw [hL6, hN6]; exact o2
  have hn7 : 7 ≤ N6 := by
    have : 0 < (splitC 32 l).length := List.length_pos_iff.2 (splitC_ne 32 l)
    omega
  have hnb : N6 ≤ 1000000 := by have := splitC_few 32 l; have := HI.out.2.2.2; omega
  obtain ⟨gb, cap, rfl, hg, hgl⟩ := o3.form (by omega)
  have hb2 : Below W.heap.size W w2 := (H1.out.2.alloc H1.out.2.size _).trans (g2.below.mono (by first | exact Nat.le_refl _ | omega))
  have hwd : ∀ i, i < 6 → w2.cell? ⟨gb, i, none⟩ = some (.string (mk ((splitC 32 l).getD i []))) := fun i hi => by
    rw [o3.cellAt i (by omega), hL6, strs, List.getElem?_map, List.getElem?_append, List.getD]
    by_cases hlt : i < (splitC 32 l).length
    · rw [if_pos hlt, List.getElem?_eq_getElem hlt]; rfl
    · rw [if_neg hlt, List.getElem?_eq_none (by omega : (splitC 32 l).length ≤ i)]
      have h6 : i - (splitC 32 l).length < 6 := by omega
      generalize i - (splitC 32 l).length = q at h6
      have : ∀ q, q < 6 → ([[], [], [], [], [], []] : List Bs)[q]? = some [] := by decide
      rw [this q h6]; rfl
  have HO2 := Lib.hid (And.intro hb2 (And.intro hg hgl)); clear hb2 hg o2 o3 g2 hL6 hN6
  go_upto_region 3 with fail
  obtain ⟨X, hX⟩ : ∃ X, X = w2.alloc (.cells zCs 31) := ⟨_, rfl⟩
  have hXA : Blk X w2.heap.size 31 zCs := by rw [hX]; exact Blk.new _ _ _
  have hXW : Below W.heap.size W X := by rw [hX]; exact HO2.out.1.alloc HO2.out.1.size _
  have hXc : ∀ i, i < 6 → X.cell? ⟨gb, i, none⟩ = some (.string (mk ((splitC 32 l).getD i []))) := fun i hi => by
    rw [hX, World.cell?_alloc_lt _ _ _ HO2.out.2.2]; exact hwd i hi
  obtain ⟨b6, hb6⟩ : ∃ b6, b6 = w2.heap.size := ⟨_, rfl⟩
  have hsz : W.heap.size ≤ w2.heap.size := HO2.out.1.size
  have hXs : X.heap.size = b6 + 1 := by rw [hX, hb6]; simp
  have hgb : gb < b6 := by rw [hb6]; exact HO2.out.2.2
  rw [← hb6] at hXA hsz
  have hX2 : X = w2.alloc (.cells #[.int .i64 0, .int .i64 0, .int .i64 0, .int .u64 0, .int .u64 0, .int .i64 0, .string ⟨#[]⟩, .int .u64 0, .int .i64 0, .slice none 0 0] 31) := hX
  rw [← hX2, ← hb6]
  clear hX hX2 hb6 hwd hgl
  have HX := Lib.hid (And.intro hXA (And.intro hXW (And.intro hsz (And.intro hXs hgb)))); clear hXA hXW
  obtain ⟨x0, hx0⟩ : ∃ x, x = wd l 0 := ⟨_, rfl⟩
  obtain ⟨x1, hx1⟩ : ∃ x, x = wd l 1 := ⟨_, rfl⟩
  obtain ⟨x2, hx2⟩ : ∃ x, x = wd l 2 := ⟨_, rfl⟩
  obtain ⟨x3, hx3⟩ : ∃ x, x = wd l 3 := ⟨_, rfl⟩
  obtain ⟨x4, hx4⟩ : ∃ x, x = wd l 4 := ⟨_, rfl⟩
  obtain ⟨x5, hx5⟩ : ∃ x, x = wd l 5 := ⟨_, rfl⟩
  have m0 : X.cell? ⟨gb, 0, none⟩ = some (.string (mk x0)) := by rw [hx0]; exact hXc 0 (by omega)
  have m1 : X.cell? ⟨gb, 1, none⟩ = some (.string (mk x1)) := by rw [hx1]; exact hXc 1 (by omega)
  have m2 : X.cell? ⟨gb, 2, none⟩ = some (.string (mk x2)) := by rw [hx2]; exact hXc 2 (by omega)
  have m3 : X.cell? ⟨gb, 3, none⟩ = some (.string (mk x3)) := by rw [hx3]; exact hXc 3 (by omega)
  have m4 : X.cell? ⟨gb, 4, none⟩ = some (.string (mk x4)) := by rw [hx4]; exact hXc 4 (by omega)
  have m5 : X.cell? ⟨gb, 5, none⟩ = some (.string (mk x5)) := by rw [hx5]; exact hXc 5 (by omega)
  have HM := Lib.hid (And.intro m0 (And.intro m1 (And.intro m2 (And.intro m3 (And.intro m4 m5)))))
  have HL := Lib.hid (show x1.length ≤ 1000000 ∧ x2.length ≤ 1000000 ∧ x3.length ≤ 1000000 ∧ x4.length ≤ 1000000 ∧ x5.length ≤ 1000000 from by
    rw [hx1, hx2, hx3, hx4, hx5]
    exact ⟨wd_le l 1 HI.out.2.2.2, wd_le l 2 HI.out.2.2.2, wd_le l 3 HI.out.2.2.2, wd_le l 4 HI.out.2.2.2, wd_le l 5 HI.out.2.2.2⟩)
  rw [← hx0] at h0
  have HCC := Lib.hid (show cand l = ((⟨5, 0, Cl.zero, 0, 0, []⟩ : Ac), (1 : Int)) by
    rw [cand_wd, ← hx0, ← hx1, ← hx2, ← hx3, ← hx4, ← hx5]
    rw [if_neg (by rw [h0]; decide)]; rw [if_neg (by rw [h0]; decide)]; rw [if_neg (by rw [h0]; decide)]; rw [if_neg (by rw [h0]; decide)]; rw [if_pos h0])
  have e_sInvoke : (x0 == [105, 110, 118, 111, 107, 101]) = false := by rw [h0]; decide
  have e_sPick : (x0 == [112, 105, 99, 107]) = false := by rw [h0]; decide
  have e_sEvict : (x0 == [101, 118, 105, 99, 116]) = false := by rw [h0]; decide
  have e_sCrash : (x0 == [99, 114, 97, 115, 104]) = false := by rw [h0]; decide
  have e_sOpen : (x0 == [111, 112, 101, 110]) = true := by rw [h0]; decide
  clear hx0 hx1 hx2 hx3 hx4 hx5 hXc h0
  clear m1
  clear m2
  clear m3
  clear m4
  clear m5
  have n0 : 0 < N6 := by omega
  have i0 : (0 : Int) < (N6 : Int) := by omega
  clear hn7 hnb hsz hXs
  have z0 := HX.out.1.frozen 0
  have y0 := HX.out.1.cell 0
  go_upto_region 35 with fail
  obtain ⟨Z, hZ⟩ : ∃ Z, Z = X.setCell ⟨b6, 0, none⟩ (.int .i64 5) := ⟨_, rfl⟩
  have hZ1 : Blk Z b6 31 (acC ⟨5, 0, Cl.zero, 0, 0, []⟩ (.slice none 0 0)) := by rw [hZ]; exact HX.out.1.set_ 0 _
  have hZ2 : Z.ownsRow (b6 + 1) 3 1 (.slice none 0 0) (⟨5, 0, Cl.zero, 0, 0, []⟩ : Ac).keep.length (ints (⟨5, 0, Cl.zero, 0, 0, []⟩ : Ac).keep) := by rw [hZ]; exact World.ownsRow_nil _ _ _ _
  have hZ3 : Below W.heap.size W Z := by rw [hZ]; exact HX.out.2.1.setCell (p := ⟨b6, 0, none⟩) HX.out.2.2.1 _
  have HZ := Lib.hid (And.intro hZ1 (And.intro (RowR.of_own hZ2) (And.intro hZ2 hZ3)))
  rw [← hZ]
  clear hZ hZ1 hZ2 hZ3 z0 y0 m0
  have HRF := Lib.hid (refOf_at HCC.out)
  obtain ⟨d0, d1, d2, d3, d4, d5, d6, d7, d8, d9⟩ := acCells HZ.out.1
  dsimp only at d0 d1 d2 d3 d4 d5 d6 d7 d8 d9
  have CS := Lib.hid (cand_small l)
  have CT := Lib.hid (cand_typed l)
  rw [HCC.out] at CS CT
  go_wp2_with fail
  refine (rMayAct_any ⟨5, 0, Cl.zero, 0, 0, []⟩ (.slice none 0 0) HZ.out.2.1 (Nat.le_trans CS.out.2 (by have := HI.out.2.2.2; omega))).mono ?_; rintro e w3 ⟨he, hb3⟩
  obtain ⟨q, hq⟩ : ∃ q, q = mayAct ⟨5, 0, Cl.zero, 0, 0, []⟩ := ⟨_, rfl⟩
  rw [← hq] at he HRF
  obtain rfl := he
  have HQ := Lib.hid hq; clear hq
  have H3 := Lib.hid (show Blk w3 b6 31 (acC ⟨5, 0, Cl.zero, 0, 0, []⟩ (.slice none 0 0)) ∧ w3.ownsRow (b6 + 1) 3 1 (.slice none 0 0) (⟨5, 0, Cl.zero, 0, 0, []⟩ : Ac).keep.length (ints (⟨5, 0, Cl.zero, 0, 0, []⟩ : Ac).keep) ∧ Below W.heap.size W w3 from
    ⟨HZ.out.1.below hb3 HZ.out.1.lt, own_next HZ.out.2.2.1 hb3, HZ.out.2.2.2.trans (hb3.mono HZ.out.2.2.2.size)⟩)
  clear hb3 d0 d1 d2 d3 d4 d5 d6 d7 d8 d9
  obtain ⟨d0, d1, d2, d3, d4, d5, d6, d7, d8, d9⟩ := acCells H3.out.1
  dsimp only at d0 d1 d2 d3 d4 d5 d6 d7 d8 d9
  cases q with
  | false =>
    have HN := Lib.hid (HI.out.1.below H3.out.2.2 HI.out.1.lt)
    have HB9 := Lib.hid (HI.out.2.1.trans ((H3.out.2.2).mono HI.out.2.1.size))
    have r0 := HN.out.cell 0; have r1 := HN.out.cell 1; have r2 := HN.out.cell 2; have r3 := HN.out.cell 3; have r4 := HN.out.cell 4
    have r5 := HN.out.cell 5; have r6 := HN.out.cell 6; have r7 := HN.out.cell 7; have r8 := HN.out.cell 8; have r9 := HN.out.cell 9
    have s0 := HN.out.frozen 0; have s1 := HN.out.frozen 1; have s2 := HN.out.frozen 2; have s3 := HN.out.frozen 3; have s4 := HN.out.frozen 4
    have s5 := HN.out.frozen 5; have s6 := HN.out.frozen 6; have s7 := HN.out.frozen 7; have s8 := HN.out.frozen 8; have s9 := HN.out.frozen 9
    go_wp2_with fail
    refine bodyPost_ret (res_rOf (a := Ac.zero) (kv := .slice none 0 0) (put10_blk HN.out rfl Ac.zero (.slice none 0 0)) rfl rfl rfl) rfl ⟨put10_below HB9.out (Nat.le_refl _) Ac.zero (.slice none 0 0), ?_⟩
    rw [HRF.out, if_neg (by rintro ⟨h, _⟩; cases h)]
  | true =>
    have HU := Lib.hid (show (1 : Int) ≤ 1 ∧ (1 : Int) ≤ 100000 from by decide)
    have MM := Lib.hid ((mayAct_iff _).1 HQ.out.symm)
    go_wp2_with fail
    refine (rLine_any ⟨5, 0, Cl.zero, 0, 0, []⟩ (.slice none 0 0) 1 (RowR.of_own H3.out.2.1) MM.out CT.out (Nat.le_trans CS.out.1 (by have := HI.out.2.2.2; omega)) (Nat.le_trans CS.out.2 (by have := HI.out.2.2.2; omega)) ⟨by have := HU.out.1; omega, by have := HU.out.2; omega⟩).mono ?_; rintro e w4 ⟨rfl, hb4⟩
    obtain ⟨s, hs⟩ : ∃ s, s = lineL ⟨5, 0, Cl.zero, 0, 0, []⟩ 1 := ⟨_, rfl⟩
    rw [← hs] at HRF
    rw [← hs]
    clear hs
    have H4 := Lib.hid (show Blk w4 b6 31 (acC ⟨5, 0, Cl.zero, 0, 0, []⟩ (.slice none 0 0)) ∧ w4.ownsRow (b6 + 1) 3 1 (.slice none 0 0) (⟨5, 0, Cl.zero, 0, 0, []⟩ : Ac).keep.length (ints (⟨5, 0, Cl.zero, 0, 0, []⟩ : Ac).keep) ∧ Below W.heap.size W w4 from
      ⟨H3.out.1.below hb4 H3.out.1.lt, own_next H3.out.2.1 hb4, H3.out.2.2.trans (hb4.mono H3.out.2.2.size)⟩)
    clear hb4 d0 d1 d2 d3 d4 d5 d6 d7 d8 d9
    obtain ⟨d0, d1, d2, d3, d4, d5, d6, d7, d8, d9⟩ := acCells H4.out.1
    dsimp only at d0 d1 d2 d3 d4 d5 d6 d7 d8 d9
    by_cases hsl : s = l
    case neg =>
      have v1 : (s == l) = false := by simpa using hsl
      have v2 : (s != l) = true := by simpa using hsl
      have HU2 := Lib.hid hsl; clear hsl
      have HN := Lib.hid (HI.out.1.below H4.out.2.2 HI.out.1.lt)
      have HB9 := Lib.hid (HI.out.2.1.trans ((H4.out.2.2).mono HI.out.2.1.size))
      have r0 := HN.out.cell 0; have r1 := HN.out.cell 1; have r2 := HN.out.cell 2; have r3 := HN.out.cell 3; have r4 := HN.out.cell 4
      have r5 := HN.out.cell 5; have r6 := HN.out.cell 6; have r7 := HN.out.cell 7; have r8 := HN.out.cell 8; have r9 := HN.out.cell 9
      have s0 := HN.out.frozen 0; have s1 := HN.out.frozen 1; have s2 := HN.out.frozen 2; have s3 := HN.out.frozen 3; have s4 := HN.out.frozen 4
      have s5 := HN.out.frozen 5; have s6 := HN.out.frozen 6; have s7 := HN.out.frozen 7; have s8 := HN.out.frozen 8; have s9 := HN.out.frozen 9
      go_wp2_with fail
      refine bodyPost_ret (res_rOf (a := Ac.zero) (kv := .slice none 0 0) (put10_blk HN.out rfl Ac.zero (.slice none 0 0)) rfl rfl rfl) rfl ⟨put10_below HB9.out (Nat.le_refl _) Ac.zero (.slice none 0 0), ?_⟩
      rw [HRF.out, if_neg (by rintro ⟨_, _, _, h⟩; exact HU2.out h)]
    have v1 : (s == l) = true := by simpa using hsl
    have v2 : (s != l) = false := by simpa using hsl
    have HU2 := Lib.hid hsl; clear hsl
    have HN := Lib.hid (HI.out.1.below H4.out.2.2 HI.out.1.lt)
    have HB9 := Lib.hid (HI.out.2.1.trans ((H4.out.2.2).mono HI.out.2.1.size))
    have r0 := HN.out.cell 0; have r1 := HN.out.cell 1; have r2 := HN.out.cell 2; have r3 := HN.out.cell 3; have r4 := HN.out.cell 4
    have r5 := HN.out.cell 5; have r6 := HN.out.cell 6; have r7 := HN.out.cell 7; have r8 := HN.out.cell 8; have r9 := HN.out.cell 9
    have s0 := HN.out.frozen 0; have s1 := HN.out.frozen 1; have s2 := HN.out.frozen 2; have s3 := HN.out.frozen 3; have s4 := HN.out.frozen 4
    have s5 := HN.out.frozen 5; have s6 := HN.out.frozen 6; have s7 := HN.out.frozen 7; have s8 := HN.out.frozen 8; have s9 := HN.out.frozen 9
    go_wp2_with fail
    refine bodyPost_ret (res_rOf (a := ⟨5, 0, Cl.zero, 0, 0, []⟩) (kv := (.slice none 0 0)) (put10_blk HN.out rfl ⟨5, 0, Cl.zero, 0, 0, []⟩ (.slice none 0 0)) rfl rfl rfl) rfl ⟨put10_below HB9.out (Nat.le_refl _) ⟨5, 0, Cl.zero, 0, 0, []⟩ (.slice none 0 0), ?_⟩
    rw [HRF.out, if_pos ⟨by trivial, HU.out.1, HU.out.2, HU2.out⟩]
    exact ⟨(.slice none 0 0), rfl, RowR.of_own (own_put10B H4.out.2.1 (by have := HX.out.2.2.1; have := HI.out.2.2.1; omega) ⟨5, 0, Cl.zero, 0, 0, []⟩ (.slice none 0 0)), fun r e => by have := (H4.out.2.1.lt r e).1; have := HX.out.2.2.1; have := HI.out.2.2.1; omega⟩

set_option maxHeartbeats 4000000 in
set_option maxRecDepth 100000 in
theorem rof_scavenge {w : World} (l : Bs) (hl : l.length ≤ 100000) (h0 : wd l 0 = sScavenge) : Calls Tryz.prog 10 #[.string (mk l)] w (ROfPost w l) := by
  obtain ⟨W, hW⟩ : ∃ W, W = w.alloc (.cells zCs 31) := ⟨_, rfl⟩
  have hR : Blk W w.heap.size 31 zCs := by rw [hW]; exact Blk.new _ _ _
  have hB : Below w.heap.size w W := by rw [hW]; exact (Below.refl _ _).alloc (Nat.le_refl _) _
  have hWs : W.heap.size = w.heap.size + 1 := by rw [hW]; simp
  have HI := Lib.hid (And.intro hR (And.intro hB (And.intro hWs hl)))
  clear hR hB hWs hl
  go_enter Tryz.func10, Tryz.ntmps10
  go_upto_region 1 with fail
  rw [← hW]
  clear hW
  go_wp2_with fail
  refine (rWords_any l (by have := HI.out.2.2.2; omega)).mono ?_; rintro e w1 ⟨v1, rfl, ho1, hb1⟩
  have H1 := Lib.hid (And.intro ho1 hb1); clear ho1 hb1
  go_wp2_with (at_builtin; refine wpList_app_strs rfl _ _ rfl W.heap.size v1 _ _ rfl (H1.out.1.alloc _) (.slice (some ⟨w1.heap.size, 0, none⟩) 6 6) [[], [], [], [], [], []] rfl (lit_strs w1 [[], [], [], [], [], []] (by simp)) ?few ?base ?_)
  case few => have := splitC_few 32 l; have := HI.out.2.2.2; simp; omega
  case base => have := H1.out.2.size; simp; omega
  intro v2 w2 o2 g2
  obtain ⟨L6, hL6⟩ : ∃ L6, L6 = splitC 32 l ++ [[], [], [], [], [], []] := ⟨_, rfl⟩
  obtain ⟨N6, hN6⟩ : ∃ N6, N6 = (splitC 32 l).length + 6 := ⟨_, rfl⟩
  have o3 : w2.ownsRow W.heap.size 9 1 v2 N6 (strs L6) := by rw [hL6, hN6]; exact o2
  have hn7 : 7 ≤ N6 := by
    have : 0 < (splitC 32 l).length := List.length_pos_iff.2 (splitC_ne 32 l)
    omega
  have hnb : N6 ≤ 1000000 := by have := splitC_few 32 l; have := HI.out.2.2.2; omega
  obtain ⟨gb, cap, rfl, hg, hgl⟩ := o3.form (by omega)
  have hb2 : Below W.heap.size W w2 := (H1.out.2.alloc H1.out.2.size _).trans (g2.below.mono (by first | exact Nat.le_refl _ | omega))
  have hwd : ∀ i, i < 6 → w2.cell? ⟨gb, i, none⟩ = some (.string (mk ((splitC 32 l).getD i []))) := fun i hi => by
    rw [o3.cellAt i (by omega), hL6, strs, List.getElem?_map, List.getElem?_append, List.getD]
    by_cases hlt : i < (splitC 32 l).length
    · rw [if_pos hlt, List.getElem?_eq_getElem hlt]; rfl
    · rw [if_neg hlt, List.getElem?_eq_none (by omega : (splitC 32 l).length ≤ i)]
      have h6 : i - (splitC 32 l).length < 6 := by omega
      generalize i - (splitC 32 l).length = q at h6
      have : ∀ q, q < 6 → ([[], [], [], [], [], []] : List Bs)[q]? = some [] := by decide
      rw [this q h6]; rfl
  have HO2 := Lib.hid (And.intro hb2 (And.intro hg hgl)); clear hb2 hg o2 o3 g2 hL6 hN6
  go_upto_region 3 with fail
  obtain ⟨X, hX⟩ : ∃ X, X = w2.alloc (.cells zCs 31) := ⟨_, rfl⟩
  have hXA : Blk X w2.heap.size 31 zCs := by rw [hX]; exact Blk.new _ _ _
  have hXW : Below W.heap.size W X := by rw [hX]; exact HO2.out.1.alloc HO2.out.1.size _
  have hXc : ∀ i, i < 6 → X.cell? ⟨gb, i, none⟩ = some (.string (mk ((splitC 32 l).getD i []))) := fun i hi => by
    rw [hX, World.cell?_alloc_lt _ _ _ HO2.out.2.2]; exact hwd i hi
  obtain ⟨b6, hb6⟩ : ∃ b6, b6 = w2.heap.size := ⟨_, rfl⟩
  have hsz : W.heap.size ≤ w2.heap.size := HO2.out.1.size
  have hXs : X.heap.size = b6 + 1 := by rw [hX, hb6]; simp
  have hgb : gb < b6 := by rw [hb6]; exact HO2.out.2.2
  rw [← hb6] at hXA hsz
  have hX2 : X = w2.alloc (.cells #[.int .i64 0, .int .i64 0, .int .i64 0, .int .u64 0, .int .u64 0, .int .i64 0, .string ⟨#[]⟩, .int .u64 0, .int .i64 0, .slice none 0 0] 31) := hX
  rw [← hX2, ← hb6]
  clear hX hX2 hb6 hwd hgl
  have HX := Lib.hid (And.intro hXA (And.intro hXW (And.intro hsz (And.intro hXs hgb)))); clear hXA hXW
  obtain ⟨x0, hx0⟩ : ∃ x, x = wd l 0 := ⟨_, rfl⟩
  obtain ⟨x1, hx1⟩ : ∃ x, x = wd l 1 := ⟨_, rfl⟩
  obtain ⟨x2, hx2⟩ : ∃ x, x = wd l 2 := ⟨_, rfl⟩
  obtain ⟨x3, hx3⟩ : ∃ x, x = wd l 3 := ⟨_, rfl⟩
  obtain ⟨x4, hx4⟩ : ∃ x, x = wd l 4 := ⟨_, rfl⟩
  obtain ⟨x5, hx5⟩ : ∃ x, x = wd l 5 := ⟨_, rfl⟩
  have m0 : X.cell? ⟨gb, 0, none⟩ = some (.string (mk x0)) := by rw [hx0]; exact hXc 0 (by omega)
  have m1 : X.cell? ⟨gb, 1, none⟩ = some (.string (mk x1)) := by rw [hx1]; exact hXc 1 (by omega)
  have m2 : X.cell? ⟨gb, 2, none⟩ = some (.string (mk x2)) := by rw [hx2]; exact hXc 2 (by omega)
  have m3 : X.cell? ⟨gb, 3, none⟩ = some (.string (mk x3)) := by rw [hx3]; exact hXc 3 (by omega)
  have m4 : X.cell? ⟨gb, 4, none⟩ = some (.string (mk x4)) := by rw [hx4]; exact hXc 4 (by omega)
  have m5 : X.cell? ⟨gb, 5, none⟩ = some (.string (mk x5)) := by rw [hx5]; exact hXc 5 (by omega)
  have HM := Lib.hid (And.intro m0 (And.intro m1 (And.intro m2 (And.intro m3 (And.intro m4 m5)))))
  have HL := Lib.hid (show x1.length ≤ 1000000 ∧ x2.length ≤ 1000000 ∧ x3.length ≤ 1000000 ∧ x4.length ≤ 1000000 ∧ x5.length ≤ 1000000 from by
    rw [hx1, hx2, hx3, hx4, hx5]
    exact ⟨wd_le l 1 HI.out.2.2.2, wd_le l 2 HI.out.2.2.2, wd_le l 3 HI.out.2.2.2, wd_le l 4 HI.out.2.2.2, wd_le l 5 HI.out.2.2.2⟩)
  rw [← hx0] at h0
  have HCC := Lib.hid (show cand l = ((⟨6, 0, Cl.zero, 0, 0, []⟩ : Ac), (1 : Int)) by
    rw [cand_wd, ← hx0, ← hx1, ← hx2, ← hx3, ← hx4, ← hx5]
    rw [if_neg (by rw [h0]; decide)]; rw [if_neg (by rw [h0]; decide)]; rw [if_neg (by rw [h0]; decide)]; rw [if_neg (by rw [h0]; decide)]; rw [if_neg (by rw [h0]; decide)]; rw [if_pos h0])
  have e_sInvoke : (x0 == [105, 110, 118, 111, 107, 101]) = false := by rw [h0]; decide
  have e_sPick : (x0 == [112, 105, 99, 107]) = false := by rw [h0]; decide
  have e_sEvict : (x0 == [101, 118, 105, 99, 116]) = false := by rw [h0]; decide
  have e_sCrash : (x0 == [99, 114, 97, 115, 104]) = false := by rw [h0]; decide
  have e_sOpen : (x0 == [111, 112, 101, 110]) = false := by rw [h0]; decide
  have e_sScavenge : (x0 == [115, 99, 97, 118, 101, 110, 103, 101]) = true := by rw [h0]; decide
  clear hx0 hx1 hx2 hx3 hx4 hx5 hXc h0
  clear m1
  clear m2
  clear m3
  clear m4
  clear m5
  have n0 : 0 < N6 := by omega
  have i0 : (0 : Int) < (N6 : Int) := by omega
  clear hn7 hnb hsz hXs
  have z0 := HX.out.1.frozen 0
  have y0 := HX.out.1.cell 0
  go_upto_region 35 with fail
  obtain ⟨Z, hZ⟩ : ∃ Z, Z = X.setCell ⟨b6, 0, none⟩ (.int .i64 6) := ⟨_, rfl⟩
  have hZ1 : Blk Z b6 31 (acC ⟨6, 0, Cl.zero, 0, 0, []⟩ (.slice none 0 0)) := by rw [hZ]; exact HX.out.1.set_ 0 _
  have hZ2 : Z.ownsRow (b6 + 1) 3 1 (.slice none 0 0) (⟨6, 0, Cl.zero, 0, 0, []⟩ : Ac).keep.length (ints (⟨6, 0, Cl.zero, 0, 0, []⟩ : Ac).keep) := by rw [hZ]; exact World.ownsRow_nil _ _ _ _
  have hZ3 : Below W.heap.size W Z := by rw [hZ]; exact HX.out.2.1.setCell (p := ⟨b6, 0, none⟩) HX.out.2.2.1 _
  have HZ := Lib.hid (And.intro hZ1 (And.intro (RowR.of_own hZ2) (And.intro hZ2 hZ3)))
  rw [← hZ]
  clear hZ hZ1 hZ2 hZ3 z0 y0 m0
  have HRF := Lib.hid (refOf_at HCC.out)
  obtain ⟨d0, d1, d2, d3, d4, d5, d6, d7, d8, d9⟩ := acCells HZ.out.1
  dsimp only at d0 d1 d2 d3 d4 d5 d6 d7 d8 d9
  have CS := Lib.hid (cand_small l)
  have CT := Lib.hid (cand_typed l)
  rw [HCC.out] at CS CT
  go_wp2_with fail
  refine (rMayAct_any ⟨6, 0, Cl.zero, 0, 0, []⟩ (.slice none 0 0) HZ.out.2.1 (Nat.le_trans CS.out.2 (by have := HI.out.2.2.2; omega))).mono ?_; rintro e w3 ⟨he, hb3⟩
  obtain ⟨q, hq⟩ : ∃ q, q = mayAct ⟨6, 0, Cl.zero, 0, 0, []⟩ := ⟨_, rfl⟩
  rw [← hq] at he HRF
  obtain rfl := he
  have HQ := Lib.hid hq; clear hq
  have H3 := Lib.hid (show Blk w3 b6 31 (acC ⟨6, 0, Cl.zero, 0, 0, []⟩ (.slice none 0 0)) ∧ w3.ownsRow (b6 + 1) 3 1 (.slice none 0 0) (⟨6, 0, Cl.zero, 0, 0, []⟩ : Ac).keep.length (ints (⟨6, 0, Cl.zero, 0, 0, []⟩ : Ac).keep) ∧ Below W.heap.size W w3 from
    ⟨HZ.out.1.below hb3 HZ.out.1.lt, own_next HZ.out.2.2.1 hb3, HZ.out.2.2.2.trans (hb3.mono HZ.out.2.2.2.size)⟩)
  clear hb3 d0 d1 d2 d3 d4 d5 d6 d7 d8 d9
  obtain ⟨d0, d1, d2, d3, d4, d5, d6, d7, d8, d9⟩ := acCells H3.out.1
  dsimp only at d0 d1 d2 d3 d4 d5 d6 d7 d8 d9
  cases q with
  | false =>
    have HN := Lib.hid (HI.out.1.below H3.out.2.2 HI.out.1.lt)
    have HB9 := Lib.hid (HI.out.2.1.trans ((H3.out.2.2).mono HI.out.2.1.size))
    have r0 := HN.out.cell 0; have r1 := HN.out.cell 1; have r2 := HN.out.cell 2; have r3 := HN.out.cell 3; have r4 := HN.out.cell 4
    have r5 := HN.out.cell 5; have r6 := HN.out.cell 6; have r7 := HN.out.cell 7; have r8 := HN.out.cell 8; have r9 := HN.out.cell 9
    have s0 := HN.out.frozen 0; have s1 := HN.out.frozen 1; have s2 := HN.out.frozen 2; have s3 := HN.out.frozen 3; have s4 := HN.out.frozen 4
    have s5 := HN.out.frozen 5; have s6 := HN.out.frozen 6; have s7 := HN.out.frozen 7; have s8 := HN.out.frozen 8; have s9 := HN.out.frozen 9
    go_wp2_with fail
    refine bodyPost_ret (res_rOf (a := Ac.zero) (kv := .slice none 0 0) (put10_blk HN.out rfl Ac.zero (.slice none 0 0)) rfl rfl rfl) rfl ⟨put10_below HB9.out (Nat.le_refl _) Ac.zero (.slice none 0 0), ?_⟩
    rw [HRF.out, if_neg (by rintro ⟨h, _⟩; cases h)]
  | true =>
    have HU := Lib.hid (show (1 : Int) ≤ 1 ∧ (1 : Int) ≤ 100000 from by decide)
    have MM := Lib.hid ((mayAct_iff _).1 HQ.out.symm)
    go_wp2_with fail
    refine (rLine_any ⟨6, 0, Cl.zero, 0, 0, []⟩ (.slice none 0 0) 1 (RowR.of_own H3.out.2.1) MM.out CT.out (Nat.le_trans CS.out.1 (by have := HI.out.2.2.2; omega)) (Nat.le_trans CS.out.2 (by have := HI.out.2.2.2; omega)) ⟨by have := HU.out.1; omega, by have := HU.out.2; omega⟩).mono ?_; rintro e w4 ⟨rfl, hb4⟩
    obtain ⟨s, hs⟩ : ∃ s, s = lineL ⟨6, 0, Cl.zero, 0, 0, []⟩ 1 := ⟨_, rfl⟩
    rw [← hs] at HRF
    rw [← hs]
    clear hs
    have H4 := Lib.hid (show Blk w4 b6 31 (acC ⟨6, 0, Cl.zero, 0, 0, []⟩ (.slice none 0 0)) ∧ w4.ownsRow (b6 + 1) 3 1 (.slice none 0 0) (⟨6, 0, Cl.zero, 0, 0, []⟩ : Ac).keep.length (ints (⟨6, 0, Cl.zero, 0, 0, []⟩ : Ac).keep) ∧ Below W.heap.size W w4 from
      ⟨H3.out.1.below hb4 H3.out.1.lt, own_next H3.out.2.1 hb4, H3.out.2.2.trans (hb4.mono H3.out.2.2.size)⟩)
    clear hb4 d0 d1 d2 d3 d4 d5 d6 d7 d8 d9
    obtain ⟨d0, d1, d2, d3, d4, d5, d6, d7, d8, d9⟩ := acCells H4.out.1
    dsimp only at d0 d1 d2 d3 d4 d5 d6 d7 d8 d9
    by_cases hsl : s = l
    case neg =>
      have v1 : (s == l) = false := by simpa using hsl
      have v2 : (s != l) = true := by simpa using hsl
      have HU2 := Lib.hid hsl; clear hsl
      have HN := Lib.hid (HI.out.1.below H4.out.2.2 HI.out.1.lt)
      have HB9 := Lib.hid (HI.out.2.1.trans ((H4.out.2.2).mono HI.out.2.1.size))
      have r0 := HN.out.cell 0; have r1 := HN.out.cell 1; have r2 := HN.out.cell 2; have r3 := HN.out.cell 3; have r4 := HN.out.cell 4
      have r5 := HN.out.cell 5; have r6 := HN.out.cell 6; have r7 := HN.out.cell 7; have r8 := HN.out.cell 8; have r9 := HN.out.cell 9
      have s0 := HN.out.frozen 0; have s1 := HN.out.frozen 1; have s2 := HN.out.frozen 2; have s3 := HN.out.frozen 3; have s4 := HN.out.frozen 4
      have s5 := HN.out.frozen 5; have s6 := HN.out.frozen 6; have s7 := HN.out.frozen 7; have s8 := HN.out.frozen 8; have s9 := HN.out.frozen 9
      go_wp2_with fail
      refine bodyPost_ret (res_rOf (a := Ac.zero) (kv := .slice none 0 0) (put10_blk HN.out rfl Ac.zero (.slice none 0 0)) rfl rfl rfl) rfl ⟨put10_below HB9.out (Nat.le_refl _) Ac.zero (.slice none 0 0), ?_⟩
      rw [HRF.out, if_neg (by rintro ⟨_, _, _, h⟩; exact HU2.out h)]
    have v1 : (s == l) = true := by simpa using hsl
    have v2 : (s != l) = false := by simpa using hsl
    have HU2 := Lib.hid hsl; clear hsl
    have HN := Lib.hid (HI.out.1.below H4.out.2.2 HI.out.1.lt)
    have HB9 := Lib.hid (HI.out.2.1.trans ((H4.out.2.2).mono HI.out.2.1.size))
    have r0 := HN.out.cell 0; have r1 := HN.out.cell 1; have r2 := HN.out.cell 2; have r3 := HN.out.cell 3; have r4 := HN.out.cell 4
    have r5 := HN.out.cell 5; have r6 := HN.out.cell 6; have r7 := HN.out.cell 7; have r8 := HN.out.cell 8; have r9 := HN.out.cell 9
    have s0 := HN.out.frozen 0; have s1 := HN.out.frozen 1; have s2 := HN.out.frozen 2; have s3 := HN.out.frozen 3; have s4 := HN.out.frozen 4
    have s5 := HN.out.frozen 5; have s6 := HN.out.frozen 6; have s7 := HN.out.frozen 7; have s8 := HN.out.frozen 8; have s9 := HN.out.frozen 9
    go_wp2_with fail
    refine bodyPost_ret (res_rOf (a := ⟨6, 0, Cl.zero, 0, 0, []⟩) (kv := (.slice none 0 0)) (put10_blk HN.out rfl ⟨6, 0, Cl.zero, 0, 0, []⟩ (.slice none 0 0)) rfl rfl rfl) rfl ⟨put10_below HB9.out (Nat.le_refl _) ⟨6, 0, Cl.zero, 0, 0, []⟩ (.slice none 0 0), ?_⟩
    rw [HRF.out, if_pos ⟨by trivial, HU.out.1, HU.out.2, HU2.out⟩]
    exact ⟨(.slice none 0 0), rfl, RowR.of_own (own_put10B H4.out.2.1 (by have := HX.out.2.2.1; have := HI.out.2.2.1; omega) ⟨6, 0, Cl.zero, 0, 0, []⟩ (.slice none 0 0)), fun r e => by have := (H4.out.2.1.lt r e).1; have := HX.out.2.2.1; have := HI.out.2.2.1; omega⟩

set_option maxHeartbeats 4000000 in
set_option maxRecDepth 100000 in
theorem rof_boot {w : World} (l : Bs) (hl : l.length ≤ 100000) (h0 : wd l 0 = sBoot) : Calls Tryz.prog 10 #[.string (mk l)] w (ROfPost w l) := by
  obtain ⟨W, hW⟩ : ∃ W, W = w.alloc (.cells zCs 31) := ⟨_, rfl⟩
  have hR : Blk W w.heap.size 31 zCs := by rw [hW]; exact Blk.new _ _ _
  have hB : Below w.heap.size w W := by rw [hW]; exact (Below.refl _ _).alloc (Nat.le_refl _) _
  have hWs : W.heap.size = w.heap.size + 1 := by rw [hW]; simp
  have HI := Lib.hid (And.intro hR (And.intro hB (And.intro hWs hl)))
  clear hR hB hWs hl
  go_enter Tryz.func10, Tryz.ntmps10
  go_upto_region 1 with fail
  rw [← hW]
  clear hW
  go_wp2_with fail
  refine (rWords_any l (by have := HI.out.2.2.2; omega)).mono ?_; rintro e w1 ⟨v1, rfl, ho1, hb1⟩
  have H1 := Lib.hid (And.intro ho1 hb1); clear ho1 hb1
  go_wp2_with (at_builtin; refine wpList_app_strs rfl _ _ rfl W.heap.size v1 _ _ rfl (H1.out.1.alloc _) (.slice (some ⟨w1.heap.size, 0, none⟩) 6 6) [[], [], [], [], [], []] rfl (lit_strs w1 [[], [], [], [], [], []] (by simp)) ?few ?base ?_)
  case few => have := splitC_few 32 l; have := HI.out.2.2.2; simp; omega
  case base => have := H1.out.2.size; simp; omega
  intro v2 w2 o2 g2
  obtain ⟨L6, hL6⟩ : ∃ L6, L6 = splitC 32 l ++ [[], [], [], [], [], []] := ⟨_, rfl⟩
  obtain ⟨N6, hN6⟩ : ∃ N6, N6 = (splitC 32 l).length + 6 := ⟨_, rfl⟩
  have o3 : w2.ownsRow W.heap.size 9 1 v2 N6 (strs L6) := by rw [hL6, hN6]; exact o2
  have hn7 : 7 ≤ N6 := by
    have : 0 < (splitC 32 l).length := List.length_pos_iff.2 (splitC_ne 32 l)
    omega
  have hnb : N6 ≤ 1000000 := by have := splitC_few 32 l; have := HI.out.2.2.2; omega
  obtain ⟨gb, cap, rfl, hg, hgl⟩ := o3.form (by omega)
  have hb2 : Below W.heap.size W w2 := (H1.out.2.alloc H1.out.2.size _).trans (g2.below.mono (by first | exact Nat.le_refl _ | omega))
  have hwd : ∀ i, i < 6 → w2.cell? ⟨gb, i, none⟩ = some (.string (mk ((splitC 32 l).getD i []))) := fun i hi => by
    rw [o3.cellAt i (by omega), hL6, strs, List.getElem?_map, List.getElem?_append, List.getD]
    by_cases hlt : i < (splitC 32 l).length
    · rw [if_pos hlt, List.getElem?_eq_getElem hlt]; rfl
    · rw [if_neg hlt, List.getElem?_eq_none (by omega : (splitC 32 l).length ≤ i)]
      have h6 : i - (splitC 32 l).length < 6 := by omega
      generalize i - (splitC 32 l).length = q at h6
      have : ∀ q, q < 6 → ([[], [], [], [], [], []] : List Bs)[q]? = some [] := by decide
      rw [this q h6]; rfl
  have HO2 := Lib.hid (And.intro hb2 (And.intro hg hgl)); clear hb2 hg o2 o3 g2 hL6 hN6
  go_upto_region 3 with fail
  obtain ⟨X, hX⟩ : ∃ X, X = w2.alloc (.cells zCs 31) := ⟨_, rfl⟩
  have hXA : Blk X w2.heap.size 31 zCs := by rw [hX]; exact Blk.new _ _ _
  have hXW : Below W.heap.size W X := by rw [hX]; exact HO2.out.1.alloc HO2.out.1.size _
  have hXc : ∀ i, i < 6 → X.cell? ⟨gb, i, none⟩ = some (.string (mk ((splitC 32 l).getD i []))) := fun i hi => by
    rw [hX, World.cell?_alloc_lt _ _ _ HO2.out.2.2]; exact hwd i hi
  obtain ⟨b6, hb6⟩ : ∃ b6, b6 = w2.heap.size := ⟨_, rfl⟩
  have hsz : W.heap.size ≤ w2.heap.size := HO2.out.1.size
  have hXs : X.heap.size = b6 + 1 := by rw [hX, hb6]; simp
  have hgb : gb < b6 := by rw [hb6]; exact HO2.out.2.2
  rw [← hb6] at hXA hsz
  have hX2 : X = w2.alloc (.cells #[.int .i64 0, .int .i64 0, .int .i64 0, .int .u64 0, .int .u64 0, .int .i64 0, .string ⟨#[]⟩, .int .u64 0, .int .i64 0, .slice none 0 0] 31) := hX
  rw [← hX2, ← hb6]
  clear hX hX2 hb6 hwd hgl
  have HX := Lib.hid (And.intro hXA (And.intro hXW (And.intro hsz (And.intro hXs hgb)))); clear hXA hXW
  obtain ⟨x0, hx0⟩ : ∃ x, x = wd l 0 := ⟨_, rfl⟩
  obtain ⟨x1, hx1⟩ : ∃ x, x = wd l 1 := ⟨_, rfl⟩
  obtain ⟨x2, hx2⟩ : ∃ x, x = wd l 2 := ⟨_, rfl⟩
  obtain ⟨x3, hx3⟩ : ∃ x, x = wd l 3 := ⟨_, rfl⟩
  obtain ⟨x4, hx4⟩ : ∃ x, x = wd l 4 := ⟨_, rfl⟩
  obtain ⟨x5, hx5⟩ : ∃ x, x = wd l 5 := ⟨_, rfl⟩
  have m0 : X.cell? ⟨gb, 0, none⟩ = some (.string (mk x0)) := by rw [hx0]; exact hXc 0 (by omega)
  have m1 : X.cell? ⟨gb, 1, none⟩ = some (.string (mk x1)) := by rw [hx1]; exact hXc 1 (by omega)
  have m2 : X.cell? ⟨gb, 2, none⟩ = some (.string (mk x2)) := by rw [hx2]; exact hXc 2 (by omega)
  have m3 : X.cell? ⟨gb, 3, none⟩ = some (.string (mk x3)) := by rw [hx3]; exact hXc 3 (by omega)
  have m4 : X.cell? ⟨gb, 4, none⟩ = some (.string (mk x4)) := by rw [hx4]; exact hXc 4 (by omega)
  have m5 : X.cell? ⟨gb, 5, none⟩ = some (.string (mk x5)) := by rw [hx5]; exact hXc 5 (by omega)
  have HM := Lib.hid (And.intro m0 (And.intro m1 (And.intro m2 (And.intro m3 (And.intro m4 m5)))))
  have HL := Lib.hid (show x1.length ≤ 1000000 ∧ x2.length ≤ 1000000 ∧ x3.length ≤ 1000000 ∧ x4.length ≤ 1000000 ∧ x5.length ≤ 1000000 from by
    rw [hx1, hx2, hx3, hx4, hx5]
    exact ⟨wd_le l 1 HI.out.2.2.2, wd_le l 2 HI.out.2.2.2, wd_le l 3 HI.out.2.2.2, wd_le l 4 HI.out.2.2.2, wd_le l 5 HI.out.2.2.2⟩)
  rw [← hx0] at h0
  have HCC := Lib.hid (show cand l = ((⟨7, 0, Cl.zero, 0, 0, []⟩ : Ac), ((smallR x1) : Int)) by
    rw [cand_wd, ← hx0, ← hx1, ← hx2, ← hx3, ← hx4, ← hx5]
    rw [if_neg (by rw [h0]; decide)]; rw [if_neg (by rw [h0]; decide)]; rw [if_neg (by rw [h0]; decide)]; rw [if_neg (by rw [h0]; decide)]; rw [if_neg (by rw [h0]; decide)]; rw [if_neg (by rw [h0]; decide)]; rw [if_pos h0])
  have e_sInvoke : (x0 == [105, 110, 118, 111, 107, 101]) = false := by rw [h0]; decide
  have e_sPick : (x0 == [112, 105, 99, 107]) = false := by rw [h0]; decide
  have e_sEvict : (x0 == [101, 118, 105, 99, 116]) = false := by rw [h0]; decide
  have e_sCrash : (x0 == [99, 114, 97, 115, 104]) = false := by rw [h0]; decide
  have e_sOpen : (x0 == [111, 112, 101, 110]) = false := by rw [h0]; decide
  have e_sScavenge : (x0 == [115, 99, 97, 118, 101, 110, 103, 101]) = false := by rw [h0]; decide
  have e_sBoot : (x0 == [98, 111, 111, 116]) = true := by rw [h0]; decide
  clear hx0 hx1 hx2 hx3 hx4 hx5 hXc h0
  clear m2
  clear m3
  clear m4
  clear m5
  have n0 : 0 < N6 := by omega
  have i0 : (0 : Int) < (N6 : Int) := by omega
  have n1 : 1 < N6 := by omega
  have i1 : (1 : Int) < (N6 : Int) := by omega
  clear hn7 hnb hsz hXs
  have z0 := HX.out.1.frozen 0
  have y0 := HX.out.1.cell 0
  go_wp2_with fail
  refine (rSmall_any x1 HL.out.1).mono ?_; rintro e w7 ⟨rfl, rfl⟩
  go_upto_region 35 with fail
  obtain ⟨Z, hZ⟩ : ∃ Z, Z = X.setCell ⟨b6, 0, none⟩ (.int .i64 7) := ⟨_, rfl⟩
  have hZ1 : Blk Z b6 31 (acC ⟨7, 0, Cl.zero, 0, 0, []⟩ (.slice none 0 0)) := by rw [hZ]; exact HX.out.1.set_ 0 _
  have hZ2 : Z.ownsRow (b6 + 1) 3 1 (.slice none 0 0) (⟨7, 0, Cl.zero, 0, 0, []⟩ : Ac).keep.length (ints (⟨7, 0, Cl.zero, 0, 0, []⟩ : Ac).keep) := by rw [hZ]; exact World.ownsRow_nil _ _ _ _
  have hZ3 : Below W.heap.size W Z := by rw [hZ]; exact HX.out.2.1.setCell (p := ⟨b6, 0, none⟩) HX.out.2.2.1 _
  have HZ := Lib.hid (And.intro hZ1 (And.intro (RowR.of_own hZ2) (And.intro hZ2 hZ3)))
  rw [← hZ]
  clear hZ hZ1 hZ2 hZ3 z0 y0 m0 m1
  have HRF := Lib.hid (refOf_at HCC.out)
  obtain ⟨d0, d1, d2, d3, d4, d5, d6, d7, d8, d9⟩ := acCells HZ.out.1
  dsimp only at d0 d1 d2 d3 d4 d5 d6 d7 d8 d9
  have CS := Lib.hid (cand_small l)
  have CT := Lib.hid (cand_typed l)
  rw [HCC.out] at CS CT
  go_wp2_with fail
  refine (rMayAct_any ⟨7, 0, Cl.zero, 0, 0, []⟩ (.slice none 0 0) HZ.out.2.1 (Nat.le_trans CS.out.2 (by have := HI.out.2.2.2; omega))).mono ?_; rintro e w3 ⟨he, hb3⟩
  obtain ⟨q, hq⟩ : ∃ q, q = mayAct ⟨7, 0, Cl.zero, 0, 0, []⟩ := ⟨_, rfl⟩
  rw [← hq] at he HRF
  obtain rfl := he
  have HQ := Lib.hid hq; clear hq
  have H3 := Lib.hid (show Blk w3 b6 31 (acC ⟨7, 0, Cl.zero, 0, 0, []⟩ (.slice none 0 0)) ∧ w3.ownsRow (b6 + 1) 3 1 (.slice none 0 0) (⟨7, 0, Cl.zero, 0, 0, []⟩ : Ac).keep.length (ints (⟨7, 0, Cl.zero, 0, 0, []⟩ : Ac).keep) ∧ Below W.heap.size W w3 from
    ⟨HZ.out.1.below hb3 HZ.out.1.lt, own_next HZ.out.2.2.1 hb3, HZ.out.2.2.2.trans (hb3.mono HZ.out.2.2.2.size)⟩)
  clear hb3 d0 d1 d2 d3 d4 d5 d6 d7 d8 d9
  obtain ⟨d0, d1, d2, d3, d4, d5, d6, d7, d8, d9⟩ := acCells H3.out.1
  dsimp only at d0 d1 d2 d3 d4 d5 d6 d7 d8 d9
  cases q with
  | false =>
    have HN := Lib.hid (HI.out.1.below H3.out.2.2 HI.out.1.lt)
    have HB9 := Lib.hid (HI.out.2.1.trans ((H3.out.2.2).mono HI.out.2.1.size))
    have r0 := HN.out.cell 0; have r1 := HN.out.cell 1; have r2 := HN.out.cell 2; have r3 := HN.out.cell 3; have r4 := HN.out.cell 4
    have r5 := HN.out.cell 5; have r6 := HN.out.cell 6; have r7 := HN.out.cell 7; have r8 := HN.out.cell 8; have r9 := HN.out.cell 9
    have s0 := HN.out.frozen 0; have s1 := HN.out.frozen 1; have s2 := HN.out.frozen 2; have s3 := HN.out.frozen 3; have s4 := HN.out.frozen 4
    have s5 := HN.out.frozen 5; have s6 := HN.out.frozen 6; have s7 := HN.out.frozen 7; have s8 := HN.out.frozen 8; have s9 := HN.out.frozen 9
    go_wp2_with fail
    refine bodyPost_ret (res_rOf (a := Ac.zero) (kv := .slice none 0 0) (put10_blk HN.out rfl Ac.zero (.slice none 0 0)) rfl rfl rfl) rfl ⟨put10_below HB9.out (Nat.le_refl _) Ac.zero (.slice none 0 0), ?_⟩
    rw [HRF.out, if_neg (by rintro ⟨h, _⟩; cases h)]
  | true =>
    by_cases u1 : (smallR x1) < 1
    case pos =>
      have HU := Lib.hid u1
      have HN := Lib.hid (HI.out.1.below H3.out.2.2 HI.out.1.lt)
      have HB9 := Lib.hid (HI.out.2.1.trans ((H3.out.2.2).mono HI.out.2.1.size))
      have r0 := HN.out.cell 0; have r1 := HN.out.cell 1; have r2 := HN.out.cell 2; have r3 := HN.out.cell 3; have r4 := HN.out.cell 4
      have r5 := HN.out.cell 5; have r6 := HN.out.cell 6; have r7 := HN.out.cell 7; have r8 := HN.out.cell 8; have r9 := HN.out.cell 9
      have s0 := HN.out.frozen 0; have s1 := HN.out.frozen 1; have s2 := HN.out.frozen 2; have s3 := HN.out.frozen 3; have s4 := HN.out.frozen 4
      have s5 := HN.out.frozen 5; have s6 := HN.out.frozen 6; have s7 := HN.out.frozen 7; have s8 := HN.out.frozen 8; have s9 := HN.out.frozen 9
      go_wp2_with fail
      refine bodyPost_ret (res_rOf (a := Ac.zero) (kv := .slice none 0 0) (put10_blk HN.out rfl Ac.zero (.slice none 0 0)) rfl rfl rfl) rfl ⟨put10_below HB9.out (Nat.le_refl _) Ac.zero (.slice none 0 0), ?_⟩
      rw [HRF.out, if_neg (by have := HU.out; omega)]
    by_cases u2 : 100000 < (smallR x1)
    case pos =>
      have HU := Lib.hid u2
      have HN := Lib.hid (HI.out.1.below H3.out.2.2 HI.out.1.lt)
      have HB9 := Lib.hid (HI.out.2.1.trans ((H3.out.2.2).mono HI.out.2.1.size))
      have r0 := HN.out.cell 0; have r1 := HN.out.cell 1; have r2 := HN.out.cell 2; have r3 := HN.out.cell 3; have r4 := HN.out.cell 4
      have r5 := HN.out.cell 5; have r6 := HN.out.cell 6; have r7 := HN.out.cell 7; have r8 := HN.out.cell 8; have r9 := HN.out.cell 9
      have s0 := HN.out.frozen 0; have s1 := HN.out.frozen 1; have s2 := HN.out.frozen 2; have s3 := HN.out.frozen 3; have s4 := HN.out.frozen 4
      have s5 := HN.out.frozen 5; have s6 := HN.out.frozen 6; have s7 := HN.out.frozen 7; have s8 := HN.out.frozen 8; have s9 := HN.out.frozen 9
      go_wp2_with fail
      refine bodyPost_ret (res_rOf (a := Ac.zero) (kv := .slice none 0 0) (put10_blk HN.out rfl Ac.zero (.slice none 0 0)) rfl rfl rfl) rfl ⟨put10_below HB9.out (Nat.le_refl _) Ac.zero (.slice none 0 0), ?_⟩
      rw [HRF.out, if_neg (by have := HU.out; omega)]
    have HU := Lib.hid (show 1 ≤ (smallR x1) ∧ (smallR x1) ≤ 100000 from by omega)
    have MM := Lib.hid ((mayAct_iff _).1 HQ.out.symm)
    go_wp2_with fail
    refine (rLine_any ⟨7, 0, Cl.zero, 0, 0, []⟩ (.slice none 0 0) (smallR x1) (RowR.of_own H3.out.2.1) MM.out CT.out (Nat.le_trans CS.out.1 (by have := HI.out.2.2.2; omega)) (Nat.le_trans CS.out.2 (by have := HI.out.2.2.2; omega)) ⟨by have := HU.out.1; omega, by have := HU.out.2; omega⟩).mono ?_; rintro e w4 ⟨rfl, hb4⟩
    obtain ⟨s, hs⟩ : ∃ s, s = lineL ⟨7, 0, Cl.zero, 0, 0, []⟩ (smallR x1) := ⟨_, rfl⟩
    rw [← hs] at HRF
    rw [← hs]
    clear hs
    have H4 := Lib.hid (show Blk w4 b6 31 (acC ⟨7, 0, Cl.zero, 0, 0, []⟩ (.slice none 0 0)) ∧ w4.ownsRow (b6 + 1) 3 1 (.slice none 0 0) (⟨7, 0, Cl.zero, 0, 0, []⟩ : Ac).keep.length (ints (⟨7, 0, Cl.zero, 0, 0, []⟩ : Ac).keep) ∧ Below W.heap.size W w4 from
      ⟨H3.out.1.below hb4 H3.out.1.lt, own_next H3.out.2.1 hb4, H3.out.2.2.trans (hb4.mono H3.out.2.2.size)⟩)
    clear hb4 d0 d1 d2 d3 d4 d5 d6 d7 d8 d9
    obtain ⟨d0, d1, d2, d3, d4, d5, d6, d7, d8, d9⟩ := acCells H4.out.1
    dsimp only at d0 d1 d2 d3 d4 d5 d6 d7 d8 d9
    by_cases hsl : s = l
    case neg =>
      have v1 : (s == l) = false := by simpa using hsl
      have v2 : (s != l) = true := by simpa using hsl
      have HU2 := Lib.hid hsl; clear hsl
      have HN := Lib.hid (HI.out.1.below H4.out.2.2 HI.out.1.lt)
      have HB9 := Lib.hid (HI.out.2.1.trans ((H4.out.2.2).mono HI.out.2.1.size))
      have r0 := HN.out.cell 0; have r1 := HN.out.cell 1; have r2 := HN.out.cell 2; have r3 := HN.out.cell 3; have r4 := HN.out.cell 4
      have r5 := HN.out.cell 5; have r6 := HN.out.cell 6; have r7 := HN.out.cell 7; have r8 := HN.out.cell 8; have r9 := HN.out.cell 9
      have s0 := HN.out.frozen 0; have s1 := HN.out.frozen 1; have s2 := HN.out.frozen 2; have s3 := HN.out.frozen 3; have s4 := HN.out.frozen 4
      have s5 := HN.out.frozen 5; have s6 := HN.out.frozen 6; have s7 := HN.out.frozen 7; have s8 := HN.out.frozen 8; have s9 := HN.out.frozen 9
      go_wp2_with fail
      refine bodyPost_ret (res_rOf (a := Ac.zero) (kv := .slice none 0 0) (put10_blk HN.out rfl Ac.zero (.slice none 0 0)) rfl rfl rfl) rfl ⟨put10_below HB9.out (Nat.le_refl _) Ac.zero (.slice none 0 0), ?_⟩
      rw [HRF.out, if_neg (by rintro ⟨_, _, _, h⟩; exact HU2.out h)]
    have v1 : (s == l) = true := by simpa using hsl
    have v2 : (s != l) = false := by simpa using hsl
    have HU2 := Lib.hid hsl; clear hsl
    have HN := Lib.hid (HI.out.1.below H4.out.2.2 HI.out.1.lt)
    have HB9 := Lib.hid (HI.out.2.1.trans ((H4.out.2.2).mono HI.out.2.1.size))
    have r0 := HN.out.cell 0; have r1 := HN.out.cell 1; have r2 := HN.out.cell 2; have r3 := HN.out.cell 3; have r4 := HN.out.cell 4
    have r5 := HN.out.cell 5; have r6 := HN.out.cell 6; have r7 := HN.out.cell 7; have r8 := HN.out.cell 8; have r9 := HN.out.cell 9
    have s0 := HN.out.frozen 0; have s1 := HN.out.frozen 1; have s2 := HN.out.frozen 2; have s3 := HN.out.frozen 3; have s4 := HN.out.frozen 4
    have s5 := HN.out.frozen 5; have s6 := HN.out.frozen 6; have s7 := HN.out.frozen 7; have s8 := HN.out.frozen 8; have s9 := HN.out.frozen 9
    go_wp2_with fail
    refine bodyPost_ret (res_rOf (a := ⟨7, 0, Cl.zero, 0, 0, []⟩) (kv := (.slice none 0 0)) (put10_blk HN.out rfl ⟨7, 0, Cl.zero, 0, 0, []⟩ (.slice none 0 0)) rfl rfl rfl) rfl ⟨put10_below HB9.out (Nat.le_refl _) ⟨7, 0, Cl.zero, 0, 0, []⟩ (.slice none 0 0), ?_⟩
    rw [HRF.out, if_pos ⟨by trivial, HU.out.1, HU.out.2, HU2.out⟩]
    exact ⟨(.slice none 0 0), rfl, RowR.of_own (own_put10B H4.out.2.1 (by have := HX.out.2.2.1; have := HI.out.2.2.1; omega) ⟨7, 0, Cl.zero, 0, 0, []⟩ (.slice none 0 0)), fun r e => by have := (H4.out.2.1.lt r e).1; have := HX.out.2.2.1; have := HI.out.2.2.1; omega⟩

set_option maxHeartbeats 4000000 in
set_option maxRecDepth 100000 in
theorem rof_other {w : World} (l : Bs) (hl : l.length ≤ 100000) (g1 : wd l 0 ≠ sInvoke) (g2 : wd l 0 ≠ sPick) (g3 : wd l 0 ≠ sEvict) (g4 : wd l 0 ≠ sCrash) (g5 : wd l 0 ≠ sOpen) (g6 : wd l 0 ≠ sScavenge) (g7 : wd l 0 ≠ sBoot) : Calls Tryz.prog 10 #[.string (mk l)] w (ROfPost w l) := by
  obtain ⟨W, hW⟩ : ∃ W, W = w.alloc (.cells zCs 31) := ⟨_, rfl⟩
  have hR : Blk W w.heap.size 31 zCs := by rw [hW]; exact Blk.new _ _ _
  have hB : Below w.heap.size w W := by rw [hW]; exact (Below.refl _ _).alloc (Nat.le_refl _) _
  have hWs : W.heap.size = w.heap.size + 1 := by rw [hW]; simp
  have HI := Lib.hid (And.intro hR (And.intro hB (And.intro hWs hl)))
  clear hR hB hWs hl
  go_enter Tryz.func10, Tryz.ntmps10
  go_upto_region 1 with fail
  rw [← hW]
  clear hW
  go_wp2_with fail
  refine (rWords_any l (by have := HI.out.2.2.2; omega)).mono ?_; rintro e w1 ⟨v1, rfl, ho1, hb1⟩
  have H1 := Lib.hid (And.intro ho1 hb1); clear ho1 hb1
  go_wp2_with (at_builtin; refine wpList_app_strs rfl _ _ rfl W.heap.size v1 _ _ rfl (H1.out.1.alloc _) (.slice (some ⟨w1.heap.size, 0, none⟩) 6 6) [[], [], [], [], [], []] rfl (lit_strs w1 [[], [], [], [], [], []] (by simp)) ?few ?base ?_)
  case few => have := splitC_few 32 l; have := HI.out.2.2.2; simp; omega
  case base => have := H1.out.2.size; simp; omega
  intro v2 w2 o2 g2
  obtain ⟨L6, hL6⟩ : ∃ L6, L6 = splitC 32 l ++ [[], [], [], [], [], []] := ⟨_, rfl⟩
  obtain ⟨N6, hN6⟩ : ∃ N6, N6 = (splitC 32 l).length + 6 := ⟨_, rfl⟩
  have o3 : w2.ownsRow W.heap.size 9 1 v2 N6 (strs L6) := by rw [hL6, hN6]; exact o2
  have hn7 : 7 ≤ N6 := by
    have : 0 < (splitC 32 l).length := List.length_pos_iff.2 (splitC_ne 32 l)
    omega
  have hnb : N6 ≤ 1000000 := by have := splitC_few 32 l; have := HI.out.2.2.2; omega
  obtain ⟨gb, cap, rfl, hg, hgl⟩ := o3.form (by omega)
  have hb2 : Below W.heap.size W w2 := (H1.out.2.alloc H1.out.2.size _).trans (g2.below.mono (by first | exact Nat.le_refl _ | omega))
  have hwd : ∀ i, i < 6 → w2.cell? ⟨gb, i, none⟩ = some (.string (mk ((splitC 32 l).getD i []))) := fun i hi => by
    rw [o3.cellAt i (by omega), hL6, strs, List.getElem?_map, List.getElem?_append, List.getD]
    by_cases hlt : i < (splitC 32 l).length
    · rw [if_pos hlt, List.getElem?_eq_getElem hlt]; rfl
    · rw [if_neg hlt, List.getElem?_eq_none (by omega : (splitC 32 l).length ≤ i)]
      have h6 : i - (splitC 32 l).length < 6 := by omega
      generalize i - (splitC 32 l).length = q at h6
      have : ∀ q, q < 6 → ([[], [], [], [], [], []] : List Bs)[q]? = some [] := by decide
      rw [this q h6]; rfl
  have HO2 := Lib.hid (And.intro hb2 (And.intro hg hgl)); clear hb2 hg o2 o3 g2 hL6 hN6
  go_upto_region 3 with fail
  obtain ⟨X, hX⟩ : ∃ X, X = w2.alloc (.cells zCs 31) := ⟨_, rfl⟩
  have hXA : Blk X w2.heap.size 31 zCs := by rw [hX]; exact Blk.new _ _ _
  have hXW : Below W.heap.size W X := by rw [hX]; exact HO2.out.1.alloc HO2.out.1.size _
  have hXc : ∀ i, i < 6 → X.cell? ⟨gb, i, none⟩ = some (.string (mk ((splitC 32 l).getD i []))) := fun i hi => by
    rw [hX, World.cell?_alloc_lt _ _ _ HO2.out.2.2]; exact hwd i hi
  obtain ⟨b6, hb6⟩ : ∃ b6, b6 = w2.heap.size := ⟨_, rfl⟩
  have hsz : W.heap.size ≤ w2.heap.size := HO2.out.1.size
  have hXs : X.heap.size = b6 + 1 := by rw [hX, hb6]; simp
  have hgb : gb < b6 := by rw [hb6]; exact HO2.out.2.2
  rw [← hb6] at hXA hsz
  have hX2 : X = w2.alloc (.cells #[.int .i64 0, .int .i64 0, .int .i64 0, .int .u64 0, .int .u64 0, .int .i64 0, .string ⟨#[]⟩, .int .u64 0, .int .i64 0, .slice none 0 0] 31) := hX
  rw [← hX2, ← hb6]
  clear hX hX2 hb6 hwd hgl
  have HX := Lib.hid (And.intro hXA (And.intro hXW (And.intro hsz (And.intro hXs hgb)))); clear hXA hXW
  obtain ⟨x0, hx0⟩ : ∃ x, x = wd l 0 := ⟨_, rfl⟩
  obtain ⟨x1, hx1⟩ : ∃ x, x = wd l 1 := ⟨_, rfl⟩
  obtain ⟨x2, hx2⟩ : ∃ x, x = wd l 2 := ⟨_, rfl⟩
  obtain ⟨x3, hx3⟩ : ∃ x, x = wd l 3 := ⟨_, rfl⟩
  obtain ⟨x4, hx4⟩ : ∃ x, x = wd l 4 := ⟨_, rfl⟩
  obtain ⟨x5, hx5⟩ : ∃ x, x = wd l 5 := ⟨_, rfl⟩
  have m0 : X.cell? ⟨gb, 0, none⟩ = some (.string (mk x0)) := by rw [hx0]; exact hXc 0 (by omega)
  have m1 : X.cell? ⟨gb, 1, none⟩ = some (.string (mk x1)) := by rw [hx1]; exact hXc 1 (by omega)
  have m2 : X.cell? ⟨gb, 2, none⟩ = some (.string (mk x2)) := by rw [hx2]; exact hXc 2 (by omega)
  have m3 : X.cell? ⟨gb, 3, none⟩ = some (.string (mk x3)) := by rw [hx3]; exact hXc 3 (by omega)
  have m4 : X.cell? ⟨gb, 4, none⟩ = some (.string (mk x4)) := by rw [hx4]; exact hXc 4 (by omega)
  have m5 : X.cell? ⟨gb, 5, none⟩ = some (.string (mk x5)) := by rw [hx5]; exact hXc 5 (by omega)
  have HM := Lib.hid (And.intro m0 (And.intro m1 (And.intro m2 (And.intro m3 (And.intro m4 m5)))))
  have HL := Lib.hid (show x1.length ≤ 1000000 ∧ x2.length ≤ 1000000 ∧ x3.length ≤ 1000000 ∧ x4.length ≤ 1000000 ∧ x5.length ≤ 1000000 from by
    rw [hx1, hx2, hx3, hx4, hx5]
    exact ⟨wd_le l 1 HI.out.2.2.2, wd_le l 2 HI.out.2.2.2, wd_le l 3 HI.out.2.2.2, wd_le l 4 HI.out.2.2.2, wd_le l 5 HI.out.2.2.2⟩)
  rw [← hx0] at g1 g2 g3 g4 g5 g6 g7
  have HCC := Lib.hid (show cand l = ((⟨0, 0, Cl.zero, 0, 0, []⟩ : Ac), (1 : Int)) by
    rw [cand_wd, ← hx0, if_neg g1, if_neg g2, if_neg g3, if_neg g4, if_neg g5, if_neg g6, if_neg g7]; rfl)
  have e_sInvoke : (x0 == [105, 110, 118, 111, 107, 101]) = false := beq_eq_false_iff_ne.2 g1
  have e_sPick : (x0 == [112, 105, 99, 107]) = false := beq_eq_false_iff_ne.2 g2
  have e_sEvict : (x0 == [101, 118, 105, 99, 116]) = false := beq_eq_false_iff_ne.2 g3
  have e_sCrash : (x0 == [99, 114, 97, 115, 104]) = false := beq_eq_false_iff_ne.2 g4
  have e_sOpen : (x0 == [111, 112, 101, 110]) = false := beq_eq_false_iff_ne.2 g5
  have e_sScavenge : (x0 == [115, 99, 97, 118, 101, 110, 103, 101]) = false := beq_eq_false_iff_ne.2 g6
  have e_sBoot : (x0 == [98, 111, 111, 116]) = false := beq_eq_false_iff_ne.2 g7
  clear hx0 hx1 hx2 hx3 hx4 hx5 hXc g1 g2 g3 g4 g5 g6 g7
  clear m1
  clear m2
  clear m3
  clear m4
  clear m5
  have n0 : 0 < N6 := by omega
  have i0 : (0 : Int) < (N6 : Int) := by omega
  clear hn7 hnb hsz hXs
  go_upto_region 35 with fail
  obtain ⟨Z, hZ⟩ : ∃ Z, Z = X := ⟨_, rfl⟩
  have hZ1 : Blk Z b6 31 (acC ⟨0, 0, Cl.zero, 0, 0, []⟩ (.slice none 0 0)) := by rw [hZ]; exact (show Blk X b6 31 (acC ⟨0, 0, Cl.zero, 0, 0, []⟩ (.slice none 0 0)) from HX.out.1)
  have hZ2 : Z.ownsRow (b6 + 1) 3 1 (.slice none 0 0) (⟨0, 0, Cl.zero, 0, 0, []⟩ : Ac).keep.length (ints (⟨0, 0, Cl.zero, 0, 0, []⟩ : Ac).keep) := by rw [hZ]; exact World.ownsRow_nil _ _ _ _
  have hZ3 : Below W.heap.size W Z := by rw [hZ]; exact HX.out.2.1
  have HZ := Lib.hid (And.intro hZ1 (And.intro (RowR.of_own hZ2) (And.intro hZ2 hZ3)))
  rw [← hZ]
  clear hZ hZ1 hZ2 hZ3 m0
  have HRF := Lib.hid (refOf_at HCC.out)
  obtain ⟨d0, d1, d2, d3, d4, d5, d6, d7, d8, d9⟩ := acCells HZ.out.1
  dsimp only at d0 d1 d2 d3 d4 d5 d6 d7 d8 d9
  have CS := Lib.hid (cand_small l)
  have CT := Lib.hid (cand_typed l)
  rw [HCC.out] at CS CT
  go_wp2_with fail
  refine (rMayAct_any ⟨0, 0, Cl.zero, 0, 0, []⟩ (.slice none 0 0) HZ.out.2.1 (Nat.le_trans CS.out.2 (by have := HI.out.2.2.2; omega))).mono ?_; rintro e w3 ⟨he, hb3⟩
  obtain ⟨q, hq⟩ : ∃ q, q = mayAct ⟨0, 0, Cl.zero, 0, 0, []⟩ := ⟨_, rfl⟩
  rw [← hq] at he HRF
  obtain rfl := he
  have HQ := Lib.hid hq; clear hq
  have H3 := Lib.hid (show Blk w3 b6 31 (acC ⟨0, 0, Cl.zero, 0, 0, []⟩ (.slice none 0 0)) ∧ w3.ownsRow (b6 + 1) 3 1 (.slice none 0 0) (⟨0, 0, Cl.zero, 0, 0, []⟩ : Ac).keep.length (ints (⟨0, 0, Cl.zero, 0, 0, []⟩ : Ac).keep) ∧ Below W.heap.size W w3 from
    ⟨HZ.out.1.below hb3 HZ.out.1.lt, own_next HZ.out.2.2.1 hb3, HZ.out.2.2.2.trans (hb3.mono HZ.out.2.2.2.size)⟩)
  clear hb3 d0 d1 d2 d3 d4 d5 d6 d7 d8 d9
  obtain ⟨d0, d1, d2, d3, d4, d5, d6, d7, d8, d9⟩ := acCells H3.out.1
  dsimp only at d0 d1 d2 d3 d4 d5 d6 d7 d8 d9
  cases q with
  | false =>
    have HN := Lib.hid (HI.out.1.below H3.out.2.2 HI.out.1.lt)
    have HB9 := Lib.hid (HI.out.2.1.trans ((H3.out.2.2).mono HI.out.2.1.size))
    have r0 := HN.out.cell 0; have r1 := HN.out.cell 1; have r2 := HN.out.cell 2; have r3 := HN.out.cell 3; have r4 := HN.out.cell 4
    have r5 := HN.out.cell 5; have r6 := HN.out.cell 6; have r7 := HN.out.cell 7; have r8 := HN.out.cell 8; have r9 := HN.out.cell 9
    have s0 := HN.out.frozen 0; have s1 := HN.out.frozen 1; have s2 := HN.out.frozen 2; have s3 := HN.out.frozen 3; have s4 := HN.out.frozen 4
    have s5 := HN.out.frozen 5; have s6 := HN.out.frozen 6; have s7 := HN.out.frozen 7; have s8 := HN.out.frozen 8; have s9 := HN.out.frozen 9
    go_wp2_with fail
    refine bodyPost_ret (res_rOf (a := Ac.zero) (kv := .slice none 0 0) (put10_blk HN.out rfl Ac.zero (.slice none 0 0)) rfl rfl rfl) rfl ⟨put10_below HB9.out (Nat.le_refl _) Ac.zero (.slice none 0 0), ?_⟩
    rw [HRF.out, if_neg (by rintro ⟨h, _⟩; cases h)]
  | true =>
    have HU := Lib.hid (show (1 : Int) ≤ 1 ∧ (1 : Int) ≤ 100000 from by decide)
    have MM := Lib.hid ((mayAct_iff _).1 HQ.out.symm)
    go_wp2_with fail
    refine (rLine_any ⟨0, 0, Cl.zero, 0, 0, []⟩ (.slice none 0 0) 1 (RowR.of_own H3.out.2.1) MM.out CT.out (Nat.le_trans CS.out.1 (by have := HI.out.2.2.2; omega)) (Nat.le_trans CS.out.2 (by have := HI.out.2.2.2; omega)) ⟨by have := HU.out.1; omega, by have := HU.out.2; omega⟩).mono ?_; rintro e w4 ⟨rfl, hb4⟩
    obtain ⟨s, hs⟩ : ∃ s, s = lineL ⟨0, 0, Cl.zero, 0, 0, []⟩ 1 := ⟨_, rfl⟩
    rw [← hs] at HRF
    rw [← hs]
    clear hs
    have H4 := Lib.hid (show Blk w4 b6 31 (acC ⟨0, 0, Cl.zero, 0, 0, []⟩ (.slice none 0 0)) ∧ w4.ownsRow (b6 + 1) 3 1 (.slice none 0 0) (⟨0, 0, Cl.zero, 0, 0, []⟩ : Ac).keep.length (ints (⟨0, 0, Cl.zero, 0, 0, []⟩ : Ac).keep) ∧ Below W.heap.size W w4 from
      ⟨H3.out.1.below hb4 H3.out.1.lt, own_next H3.out.2.1 hb4, H3.out.2.2.trans (hb4.mono H3.out.2.2.size)⟩)
    clear hb4 d0 d1 d2 d3 d4 d5 d6 d7 d8 d9
    obtain ⟨d0, d1, d2, d3, d4, d5, d6, d7, d8, d9⟩ := acCells H4.out.1
    dsimp only at d0 d1 d2 d3 d4 d5 d6 d7 d8 d9
    by_cases hsl : s = l
    case neg =>
      have v1 : (s == l) = false := by simpa using hsl
      have v2 : (s != l) = true := by simpa using hsl
      have HU2 := Lib.hid hsl; clear hsl
      have HN := Lib.hid (HI.out.1.below H4.out.2.2 HI.out.1.lt)
      have HB9 := Lib.hid (HI.out.2.1.trans ((H4.out.2.2).mono HI.out.2.1.size))
      have r0 := HN.out.cell 0; have r1 := HN.out.cell 1; have r2 := HN.out.cell 2; have r3 := HN.out.cell 3; have r4 := HN.out.cell 4
      have r5 := HN.out.cell 5; have r6 := HN.out.cell 6; have r7 := HN.out.cell 7; have r8 := HN.out.cell 8; have r9 := HN.out.cell 9
      have s0 := HN.out.frozen 0; have s1 := HN.out.frozen 1; have s2 := HN.out.frozen 2; have s3 := HN.out.frozen 3; have s4 := HN.out.frozen 4
      have s5 := HN.out.frozen 5; have s6 := HN.out.frozen 6; have s7 := HN.out.frozen 7; have s8 := HN.out.frozen 8; have s9 := HN.out.frozen 9
      go_wp2_with fail
      refine bodyPost_ret (res_rOf (a := Ac.zero) (kv := .slice none 0 0) (put10_blk HN.out rfl Ac.zero (.slice none 0 0)) rfl rfl rfl) rfl ⟨put10_below HB9.out (Nat.le_refl _) Ac.zero (.slice none 0 0), ?_⟩
      rw [HRF.out, if_neg (by rintro ⟨_, _, _, h⟩; exact HU2.out h)]
    have v1 : (s == l) = true := by simpa using hsl
    have v2 : (s != l) = false := by simpa using hsl
    have HU2 := Lib.hid hsl; clear hsl
    have HN := Lib.hid (HI.out.1.below H4.out.2.2 HI.out.1.lt)
    have HB9 := Lib.hid (HI.out.2.1.trans ((H4.out.2.2).mono HI.out.2.1.size))
    have r0 := HN.out.cell 0; have r1 := HN.out.cell 1; have r2 := HN.out.cell 2; have r3 := HN.out.cell 3; have r4 := HN.out.cell 4
    have r5 := HN.out.cell 5; have r6 := HN.out.cell 6; have r7 := HN.out.cell 7; have r8 := HN.out.cell 8; have r9 := HN.out.cell 9
    have s0 := HN.out.frozen 0; have s1 := HN.out.frozen 1; have s2 := HN.out.frozen 2; have s3 := HN.out.frozen 3; have s4 := HN.out.frozen 4
    have s5 := HN.out.frozen 5; have s6 := HN.out.frozen 6; have s7 := HN.out.frozen 7; have s8 := HN.out.frozen 8; have s9 := HN.out.frozen 9
    go_wp2_with fail
    refine bodyPost_ret (res_rOf (a := ⟨0, 0, Cl.zero, 0, 0, []⟩) (kv := (.slice none 0 0)) (put10_blk HN.out rfl ⟨0, 0, Cl.zero, 0, 0, []⟩ (.slice none 0 0)) rfl rfl rfl) rfl ⟨put10_below HB9.out (Nat.le_refl _) ⟨0, 0, Cl.zero, 0, 0, []⟩ (.slice none 0 0), ?_⟩
    rw [HRF.out, if_pos ⟨by trivial, HU.out.1, HU.out.2, HU2.out⟩]
    exact ⟨(.slice none 0 0), rfl, RowR.of_own (own_put10B H4.out.2.1 (by have := HX.out.2.2.1; have := HI.out.2.2.1; omega) ⟨0, 0, Cl.zero, 0, 0, []⟩ (.slice none 0 0)), fun r e => by have := (H4.out.2.1.lt r e).1; have := HX.out.2.2.1; have := HI.out.2.2.1; omega⟩

set_option maxHeartbeats 4000000 in
set_option maxRecDepth 100000 in
theorem rof_pick {w : World} (l : Bs) (hl : l.length ≤ 100000) (h0 : wd l 0 = sPick) : Calls Tryz.prog 10 #[.string (mk l)] w (ROfPost w l) := by
  obtain ⟨W, hW⟩ : ∃ W, W = w.alloc (.cells zCs 31) := ⟨_, rfl⟩
  have hR : Blk W w.heap.size 31 zCs := by rw [hW]; exact Blk.new _ _ _
  have hB : Below w.heap.size w W := by rw [hW]; exact (Below.refl _ _).alloc (Nat.le_refl _) _
  have hWs : W.heap.size = w.heap.size + 1 := by rw [hW]; simp
  have HI := Lib.hid (And.intro hR (And.intro hB (And.intro hWs hl)))
  clear hR hB hWs hl
  go_enter Tryz.func10, Tryz.ntmps10
  go_upto_region 1 with fail
  rw [← hW]
  clear hW
  go_wp2_with fail
  refine (rWords_any l (by have := HI.out.2.2.2; omega)).mono ?_; rintro e w1 ⟨v1, rfl, ho1, hb1⟩
  have H1 := Lib.hid (And.intro ho1 hb1); clear ho1 hb1
  go_wp2_with (at_builtin; refine wpList_app_strs rfl _ _ rfl W.heap.size v1 _ _ rfl (H1.out.1.alloc _) (.slice (some ⟨w1.heap.size, 0, none⟩) 6 6) [[], [], [], [], [], []] rfl (lit_strs w1 [[], [], [], [], [], []] (by simp)) ?few ?base ?_)
  case few => have := splitC_few 32 l; have := HI.out.2.2.2; simp; omega
  case base => have := H1.out.2.size; simp; omega
  intro v2 w2 o2 g2
  obtain ⟨L6, hL6⟩ : ∃ L6, L6 = splitC 32 l ++ [[], [], [], [], [], []] := ⟨_, rfl⟩
  obtain ⟨N6, hN6⟩ : ∃ N6, N6 = (splitC 32 l).length + 6 := ⟨_, rfl⟩
  have o3 : w2.ownsRow W.heap.size 9 1 v2 N6 (strs L6) := by rw [hL6, hN6]; exact o2
  have hn7 : 7 ≤ N6 := by
    have : 0 < (splitC 32 l).length := List.length_pos_iff.2 (splitC_ne 32 l)
    omega
  have hnb : N6 ≤ 1000000 := by have := splitC_few 32 l; have := HI.out.2.2.2; omega
  obtain ⟨gb, cap, rfl, hg, hgl⟩ := o3.form (by omega)
  have hb2 : Below W.heap.size W w2 := (H1.out.2.alloc H1.out.2.size _).trans (g2.below.mono (by first | exact Nat.le_refl _ | omega))
  have hwd : ∀ i, i < 6 → w2.cell? ⟨gb, i, none⟩ = some (.string (mk ((splitC 32 l).getD i []))) := fun i hi => by
    rw [o3.cellAt i (by omega), hL6, strs, List.getElem?_map, List.getElem?_append, List.getD]
    by_cases hlt : i < (splitC 32 l).length
    · rw [if_pos hlt, List.getElem?_eq_getElem hlt]; rfl
    · rw [if_neg hlt, List.getElem?_eq_none (by omega : (splitC 32 l).length ≤ i)]
      have h6 : i - (splitC 32 l).length < 6 := by omega
      generalize i - (splitC 32 l).length = q at h6
      have : ∀ q, q < 6 → ([[], [], [], [], [], []] : List Bs)[q]? = some [] := by decide
      rw [this q h6]; rfl
  have HO2 := Lib.hid (And.intro hb2 (And.intro hg hgl)); clear hb2 hg o2 o3 g2 hL6 hN6
  go_upto_region 3 with fail
  obtain ⟨X, hX⟩ : ∃ X, X = w2.alloc (.cells zCs 31) := ⟨_, rfl⟩
  have hXA : Blk X w2.heap.size 31 zCs := by rw [hX]; exact Blk.new _ _ _
  have hXW : Below W.heap.size W X := by rw [hX]; exact HO2.out.1.alloc HO2.out.1.size _
  have hXc : ∀ i, i < 6 → X.cell? ⟨gb, i, none⟩ = some (.string (mk ((splitC 32 l).getD i []))) := fun i hi => by
    rw [hX, World.cell?_alloc_lt _ _ _ HO2.out.2.2]; exact hwd i hi
  obtain ⟨b6, hb6⟩ : ∃ b6, b6 = w2.heap.size := ⟨_, rfl⟩
  have hsz : W.heap.size ≤ w2.heap.size := HO2.out.1.size
  have hXs : X.heap.size = b6 + 1 := by rw [hX, hb6]; simp
  have hgb : gb < b6 := by rw [hb6]; exact HO2.out.2.2
  rw [← hb6] at hXA hsz
  have hX2 : X = w2.alloc (.cells #[.int .i64 0, .int .i64 0, .int .i64 0, .int .u64 0, .int .u64 0, .int .i64 0, .string ⟨#[]⟩, .int .u64 0, .int .i64 0, .slice none 0 0] 31) := hX
  rw [← hX2, ← hb6]
  clear hX hX2 hb6 hwd hgl
  have HX := Lib.hid (And.intro hXA (And.intro hXW (And.intro hsz (And.intro hXs hgb)))); clear hXA hXW
  obtain ⟨x0, hx0⟩ : ∃ x, x = wd l 0 := ⟨_, rfl⟩
  obtain ⟨x1, hx1⟩ : ∃ x, x = wd l 1 := ⟨_, rfl⟩
  obtain ⟨x2, hx2⟩ : ∃ x, x = wd l 2 := ⟨_, rfl⟩
  obtain ⟨x3, hx3⟩ : ∃ x, x = wd l 3 := ⟨_, rfl⟩
  obtain ⟨x4, hx4⟩ : ∃ x, x = wd l 4 := ⟨_, rfl⟩
  obtain ⟨x5, hx5⟩ : ∃ x, x = wd l 5 := ⟨_, rfl⟩
  have m0 : X.cell? ⟨gb, 0, none⟩ = some (.string (mk x0)) := by rw [hx0]; exact hXc 0 (by omega)
  have m1 : X.cell? ⟨gb, 1, none⟩ = some (.string (mk x1)) := by rw [hx1]; exact hXc 1 (by omega)
  have m2 : X.cell? ⟨gb, 2, none⟩ = some (.string (mk x2)) := by rw [hx2]; exact hXc 2 (by omega)
  have m3 : X.cell? ⟨gb, 3, none⟩ = some (.string (mk x3)) := by rw [hx3]; exact hXc 3 (by omega)
  have m4 : X.cell? ⟨gb, 4, none⟩ = some (.string (mk x4)) := by rw [hx4]; exact hXc 4 (by omega)
  have m5 : X.cell? ⟨gb, 5, none⟩ = some (.string (mk x5)) := by rw [hx5]; exact hXc 5 (by omega)
  have HM := Lib.hid (And.intro m0 (And.intro m1 (And.intro m2 (And.intro m3 (And.intro m4 m5)))))
  have HL := Lib.hid (show x1.length ≤ 1000000 ∧ x2.length ≤ 1000000 ∧ x3.length ≤ 1000000 ∧ x4.length ≤ 1000000 ∧ x5.length ≤ 1000000 from by
    rw [hx1, hx2, hx3, hx4, hx5]
    exact ⟨wd_le l 1 HI.out.2.2.2, wd_le l 2 HI.out.2.2.2, wd_le l 3 HI.out.2.2.2, wd_le l 4 HI.out.2.2.2, wd_le l 5 HI.out.2.2.2⟩)
  rw [← hx0] at h0
  have HCC := Lib.hid (show cand l = ((⟨2, smallR x1, Cl.zero, 0, 0, []⟩ : Ac), ((smallR x2) : Int)) by
    rw [cand_wd, ← hx0, ← hx1, ← hx2, ← hx3, ← hx4, ← hx5]
    rw [if_neg (by rw [h0]; decide)]; rw [if_pos h0])
  have e_sInvoke : (x0 == [105, 110, 118, 111, 107, 101]) = false := by rw [h0]; decide
  have e_sPick : (x0 == [112, 105, 99, 107]) = true := by rw [h0]; decide
  clear hx0 hx1 hx2 hx3 hx4 hx5 hXc h0
  clear m3
  clear m4
  clear m5
  have n0 : 0 < N6 := by omega
  have i0 : (0 : Int) < (N6 : Int) := by omega
  have n1 : 1 < N6 := by omega
  have i1 : (1 : Int) < (N6 : Int) := by omega
  have n2 : 2 < N6 := by omega
  have i2 : (2 : Int) < (N6 : Int) := by omega
  clear hn7 hnb hsz hXs
  have z0 := HX.out.1.frozen 0
  have y0 := HX.out.1.cell 0
  have z1 := HX.out.1.frozen 1
  have y1 := HX.out.1.cell 1
  have z2 := HX.out.1.frozen 2
  have y2 := HX.out.1.cell 2
  have z3 := HX.out.1.frozen 3
  have y3 := HX.out.1.cell 3
  have z4 := HX.out.1.frozen 4
  have y4 := HX.out.1.cell 4
  have z5 := HX.out.1.frozen 5
  have y5 := HX.out.1.cell 5
  have z6 := HX.out.1.frozen 6
  have y6 := HX.out.1.cell 6
  have z7 := HX.out.1.frozen 7
  have y7 := HX.out.1.cell 7
  have z8 := HX.out.1.frozen 8
  have y8 := HX.out.1.cell 8
  have z9 := HX.out.1.frozen 9
  have y9 := HX.out.1.cell 9
  go_wp2_with fail
  refine (rSmall_any x1 HL.out.1).mono ?_; rintro e w7 ⟨rfl, hw7⟩; rw [hw7]; clear hw7 w7
  go_upto_region 18 with fail
  obtain ⟨Y, hY⟩ : ∃ Y, Y = ((((((((((X.setCell ⟨b6, 0, none⟩ (.int .i64 2)).setCell ⟨b6, 1, none⟩ (.int .i64 (smallR x1))).setCell ⟨b6, 2, none⟩ (.int .i64 0)).setCell ⟨b6, 3, none⟩ (.int .u64 0)).setCell ⟨b6, 4, none⟩ (.int .u64 0)).setCell ⟨b6, 5, none⟩ (.int .i64 0)).setCell ⟨b6, 6, none⟩ (.string ⟨#[]⟩)).setCell ⟨b6, 7, none⟩ (.int .u64 0)).setCell ⟨b6, 8, none⟩ (.int .i64 0)).setCell ⟨b6, 9, none⟩ (.slice none 0 0)) := ⟨_, rfl⟩
  have hY1 : Y = put10 X b6 ⟨2, smallR x1, Cl.zero, 0, 0, []⟩ (.slice none 0 0) := hY
  have q2 : Y.cell? ⟨gb, 2, none⟩ = some (.string (mk x2)) := by rw [hY1, put10_cell (by have := HX.out.2.2.2.2; omega)]; exact m2
  rw [← hY]
  have HY := Lib.hid hY1; clear hY hY1 m0 m1 m2 z0 z1 z2 z3 z4 z5 z6 z7 z8 z9 y0 y1 y2 y3 y4 y5 y6 y7 y8 y9
  go_wp2_with fail
  refine (rSmall_any x2 HL.out.2.1).mono ?_; rintro e w8 ⟨rfl, hw8⟩; rw [hw8]; clear hw8 w8
  go_upto_region 35 with fail
  obtain ⟨Z, hZ⟩ : ∃ Z, Z = Y := ⟨_, rfl⟩
  have hZ1 : Blk Z b6 31 (acC ⟨2, smallR x1, Cl.zero, 0, 0, []⟩ (.slice none 0 0)) := by rw [hZ]; exact (HY.out ▸ put10_blk HX.out.1 rfl ⟨2, smallR x1, Cl.zero, 0, 0, []⟩ (.slice none 0 0))
  have hZ2 : Z.ownsRow (b6 + 1) 3 1 (.slice none 0 0) (⟨2, smallR x1, Cl.zero, 0, 0, []⟩ : Ac).keep.length (ints (⟨2, smallR x1, Cl.zero, 0, 0, []⟩ : Ac).keep) := by rw [hZ]; exact World.ownsRow_nil _ _ _ _
  have hZ3 : Below W.heap.size W Z := by rw [hZ]; exact (HY.out ▸ put10_below HX.out.2.1 HX.out.2.2.1 ⟨2, smallR x1, Cl.zero, 0, 0, []⟩ (.slice none 0 0))
  have HZ := Lib.hid (And.intro hZ1 (And.intro (RowR.of_own hZ2) (And.intro hZ2 hZ3)))
  rw [← hZ]
  clear hZ hZ1 hZ2 hZ3 q2
  have HRF := Lib.hid (refOf_at HCC.out)
  obtain ⟨d0, d1, d2, d3, d4, d5, d6, d7, d8, d9⟩ := acCells HZ.out.1
  dsimp only at d0 d1 d2 d3 d4 d5 d6 d7 d8 d9
  have CS := Lib.hid (cand_small l)
  have CT := Lib.hid (cand_typed l)
  rw [HCC.out] at CS CT
  go_wp2_with fail
  refine (rMayAct_any ⟨2, smallR x1, Cl.zero, 0, 0, []⟩ (.slice none 0 0) HZ.out.2.1 (Nat.le_trans CS.out.2 (by have := HI.out.2.2.2; omega))).mono ?_; rintro e w3 ⟨he, hb3⟩
  obtain ⟨q, hq⟩ : ∃ q, q = mayAct ⟨2, smallR x1, Cl.zero, 0, 0, []⟩ := ⟨_, rfl⟩
  rw [← hq] at he HRF
  obtain rfl := he
  have HQ := Lib.hid hq; clear hq
  have H3 := Lib.hid (show Blk w3 b6 31 (acC ⟨2, smallR x1, Cl.zero, 0, 0, []⟩ (.slice none 0 0)) ∧ w3.ownsRow (b6 + 1) 3 1 (.slice none 0 0) (⟨2, smallR x1, Cl.zero, 0, 0, []⟩ : Ac).keep.length (ints (⟨2, smallR x1, Cl.zero, 0, 0, []⟩ : Ac).keep) ∧ Below W.heap.size W w3 from
    ⟨HZ.out.1.below hb3 HZ.out.1.lt, own_next HZ.out.2.2.1 hb3, HZ.out.2.2.2.trans (hb3.mono HZ.out.2.2.2.size)⟩)
  clear hb3 d0 d1 d2 d3 d4 d5 d6 d7 d8 d9
  obtain ⟨d0, d1, d2, d3, d4, d5, d6, d7, d8, d9⟩ := acCells H3.out.1
  dsimp only at d0 d1 d2 d3 d4 d5 d6 d7 d8 d9
  cases q with
  | false =>
    have HN := Lib.hid (HI.out.1.below H3.out.2.2 HI.out.1.lt)
    have HB9 := Lib.hid (HI.out.2.1.trans ((H3.out.2.2).mono HI.out.2.1.size))
    have r0 := HN.out.cell 0; have r1 := HN.out.cell 1; have r2 := HN.out.cell 2; have r3 := HN.out.cell 3; have r4 := HN.out.cell 4
    have r5 := HN.out.cell 5; have r6 := HN.out.cell 6; have r7 := HN.out.cell 7; have r8 := HN.out.cell 8; have r9 := HN.out.cell 9
    have s0 := HN.out.frozen 0; have s1 := HN.out.frozen 1; have s2 := HN.out.frozen 2; have s3 := HN.out.frozen 3; have s4 := HN.out.frozen 4
    have s5 := HN.out.frozen 5; have s6 := HN.out.frozen 6; have s7 := HN.out.frozen 7; have s8 := HN.out.frozen 8; have s9 := HN.out.frozen 9
    go_wp2_with fail
    refine bodyPost_ret (res_rOf (a := Ac.zero) (kv := .slice none 0 0) (put10_blk HN.out rfl Ac.zero (.slice none 0 0)) rfl rfl rfl) rfl ⟨put10_below HB9.out (Nat.le_refl _) Ac.zero (.slice none 0 0), ?_⟩
    rw [HRF.out, if_neg (by rintro ⟨h, _⟩; cases h)]
  | true =>
    by_cases u1 : (smallR x2) < 1
    case pos =>
      have HU := Lib.hid u1
      have HN := Lib.hid (HI.out.1.below H3.out.2.2 HI.out.1.lt)
      have HB9 := Lib.hid (HI.out.2.1.trans ((H3.out.2.2).mono HI.out.2.1.size))
      have r0 := HN.out.cell 0; have r1 := HN.out.cell 1; have r2 := HN.out.cell 2; have r3 := HN.out.cell 3; have r4 := HN.out.cell 4
      have r5 := HN.out.cell 5; have r6 := HN.out.cell 6; have r7 := HN.out.cell 7; have r8 := HN.out.cell 8; have r9 := HN.out.cell 9
      have s0 := HN.out.frozen 0; have s1 := HN.out.frozen 1; have s2 := HN.out.frozen 2; have s3 := HN.out.frozen 3; have s4 := HN.out.frozen 4
      have s5 := HN.out.frozen 5; have s6 := HN.out.frozen 6; have s7 := HN.out.frozen 7; have s8 := HN.out.frozen 8; have s9 := HN.out.frozen 9
      go_wp2_with fail
      refine bodyPost_ret (res_rOf (a := Ac.zero) (kv := .slice none 0 0) (put10_blk HN.out rfl Ac.zero (.slice none 0 0)) rfl rfl rfl) rfl ⟨put10_below HB9.out (Nat.le_refl _) Ac.zero (.slice none 0 0), ?_⟩
      rw [HRF.out, if_neg (by have := HU.out; omega)]
    by_cases u2 : 100000 < (smallR x2)
    case pos =>
      have HU := Lib.hid u2
      have HN := Lib.hid (HI.out.1.below H3.out.2.2 HI.out.1.lt)
      have HB9 := Lib.hid (HI.out.2.1.trans ((H3.out.2.2).mono HI.out.2.1.size))
      have r0 := HN.out.cell 0; have r1 := HN.out.cell 1; have r2 := HN.out.cell 2; have r3 := HN.out.cell 3; have r4 := HN.out.cell 4
      have r5 := HN.out.cell 5; have r6 := HN.out.cell 6; have r7 := HN.out.cell 7; have r8 := HN.out.cell 8; have r9 := HN.out.cell 9
      have s0 := HN.out.frozen 0; have s1 := HN.out.frozen 1; have s2 := HN.out.frozen 2; have s3 := HN.out.frozen 3; have s4 := HN.out.frozen 4
      have s5 := HN.out.frozen 5; have s6 := HN.out.frozen 6; have s7 := HN.out.frozen 7; have s8 := HN.out.frozen 8; have s9 := HN.out.frozen 9
      go_wp2_with fail
      refine bodyPost_ret (res_rOf (a := Ac.zero) (kv := .slice none 0 0) (put10_blk HN.out rfl Ac.zero (.slice none 0 0)) rfl rfl rfl) rfl ⟨put10_below HB9.out (Nat.le_refl _) Ac.zero (.slice none 0 0), ?_⟩
      rw [HRF.out, if_neg (by have := HU.out; omega)]
    have HU := Lib.hid (show 1 ≤ (smallR x2) ∧ (smallR x2) ≤ 100000 from by omega)
    have MM := Lib.hid ((mayAct_iff _).1 HQ.out.symm)
    go_wp2_with fail
    refine (rLine_any ⟨2, smallR x1, Cl.zero, 0, 0, []⟩ (.slice none 0 0) (smallR x2) (RowR.of_own H3.out.2.1) MM.out CT.out (Nat.le_trans CS.out.1 (by have := HI.out.2.2.2; omega)) (Nat.le_trans CS.out.2 (by have := HI.out.2.2.2; omega)) ⟨by have := HU.out.1; omega, by have := HU.out.2; omega⟩).mono ?_; rintro e w4 ⟨rfl, hb4⟩
    obtain ⟨s, hs⟩ : ∃ s, s = lineL ⟨2, smallR x1, Cl.zero, 0, 0, []⟩ (smallR x2) := ⟨_, rfl⟩
    rw [← hs] at HRF
    rw [← hs]
    clear hs
    have H4 := Lib.hid (show Blk w4 b6 31 (acC ⟨2, smallR x1, Cl.zero, 0, 0, []⟩ (.slice none 0 0)) ∧ w4.ownsRow (b6 + 1) 3 1 (.slice none 0 0) (⟨2, smallR x1, Cl.zero, 0, 0, []⟩ : Ac).keep.length (ints (⟨2, smallR x1, Cl.zero, 0, 0, []⟩ : Ac).keep) ∧ Below W.heap.size W w4 from
      ⟨H3.out.1.below hb4 H3.out.1.lt, own_next H3.out.2.1 hb4, H3.out.2.2.trans (hb4.mono H3.out.2.2.size)⟩)
    clear hb4 d0 d1 d2 d3 d4 d5 d6 d7 d8 d9
    obtain ⟨d0, d1, d2, d3, d4, d5, d6, d7, d8, d9⟩ := acCells H4.out.1
    dsimp only at d0 d1 d2 d3 d4 d5 d6 d7 d8 d9
    by_cases hsl : s = l
    case neg =>
      have v1 : (s == l) = false := by simpa using hsl
      have v2 : (s != l) = true := by simpa using hsl
      have HU2 := Lib.hid hsl; clear hsl
      have HN := Lib.hid (HI.out.1.below H4.out.2.2 HI.out.1.lt)
      have HB9 := Lib.hid (HI.out.2.1.trans ((H4.out.2.2).mono HI.out.2.1.size))
      have r0 := HN.out.cell 0; have r1 := HN.out.cell 1; have r2 := HN.out.cell 2; have r3 := HN.out.cell 3; have r4 := HN.out.cell 4
      have r5 := HN.out.cell 5; have r6 := HN.out.cell 6; have r7 := HN.out.cell 7; have r8 := HN.out.cell 8; have r9 := HN.out.cell 9
      have s0 := HN.out.frozen 0; have s1 := HN.out.frozen 1; have s2 := HN.out.frozen 2; have s3 := HN.out.frozen 3; have s4 := HN.out.frozen 4
      have s5 := HN.out.frozen 5; have s6 := HN.out.frozen 6; have s7 := HN.out.frozen 7; have s8 := HN.out.frozen 8; have s9 := HN.out.frozen 9
      go_wp2_with fail
      refine bodyPost_ret (res_rOf (a := Ac.zero) (kv := .slice none 0 0) (put10_blk HN.out rfl Ac.zero (.slice none 0 0)) rfl rfl rfl) rfl ⟨put10_below HB9.out (Nat.le_refl _) Ac.zero (.slice none 0 0), ?_⟩
      rw [HRF.out, if_neg (by rintro ⟨_, _, _, h⟩; exact HU2.out h)]
    have v1 : (s == l) = true := by simpa using hsl
    have v2 : (s != l) = false := by simpa using hsl
    have HU2 := Lib.hid hsl; clear hsl
    have HN := Lib.hid (HI.out.1.below H4.out.2.2 HI.out.1.lt)
    have HB9 := Lib.hid (HI.out.2.1.trans ((H4.out.2.2).mono HI.out.2.1.size))
    have r0 := HN.out.cell 0; have r1 := HN.out.cell 1; have r2 := HN.out.cell 2; have r3 := HN.out.cell 3; have r4 := HN.out.cell 4
    have r5 := HN.out.cell 5; have r6 := HN.out.cell 6; have r7 := HN.out.cell 7; have r8 := HN.out.cell 8; have r9 := HN.out.cell 9
    have s0 := HN.out.frozen 0; have s1 := HN.out.frozen 1; have s2 := HN.out.frozen 2; have s3 := HN.out.frozen 3; have s4 := HN.out.frozen 4
    have s5 := HN.out.frozen 5; have s6 := HN.out.frozen 6; have s7 := HN.out.frozen 7; have s8 := HN.out.frozen 8; have s9 := HN.out.frozen 9
    go_wp2_with fail
    refine bodyPost_ret (res_rOf (a := ⟨2, smallR x1, Cl.zero, 0, 0, []⟩) (kv := (.slice none 0 0)) (put10_blk HN.out rfl ⟨2, smallR x1, Cl.zero, 0, 0, []⟩ (.slice none 0 0)) rfl rfl rfl) rfl ⟨put10_below HB9.out (Nat.le_refl _) ⟨2, smallR x1, Cl.zero, 0, 0, []⟩ (.slice none 0 0), ?_⟩
    rw [HRF.out, if_pos ⟨by trivial, HU.out.1, HU.out.2, HU2.out⟩]
    exact ⟨(.slice none 0 0), rfl, RowR.of_own (own_put10B H4.out.2.1 (by have := HX.out.2.2.1; have := HI.out.2.2.1; omega) ⟨2, smallR x1, Cl.zero, 0, 0, []⟩ (.slice none 0 0)), fun r e => by have := (H4.out.2.1.lt r e).1; have := HX.out.2.2.1; have := HI.out.2.2.1; omega⟩

set_option maxHeartbeats 4000000 in
set_option maxRecDepth 100000 in
theorem rof_evict {w : World} (l : Bs) (hl : l.length ≤ 100000) (h0 : wd l 0 = sEvict) : Calls Tryz.prog 10 #[.string (mk l)] w (ROfPost w l) := by
  obtain ⟨W, hW⟩ : ∃ W, W = w.alloc (.cells zCs 31) := ⟨_, rfl⟩
  have hR : Blk W w.heap.size 31 zCs := by rw [hW]; exact Blk.new _ _ _
  have hB : Below w.heap.size w W := by rw [hW]; exact (Below.refl _ _).alloc (Nat.le_refl _) _
  have hWs : W.heap.size = w.heap.size + 1 := by rw [hW]; simp
  have HI := Lib.hid (And.intro hR (And.intro hB (And.intro hWs hl)))
  clear hR hB hWs hl
  go_enter Tryz.func10, Tryz.ntmps10
  go_upto_region 1 with fail
  rw [← hW]
  clear hW
  go_wp2_with fail
  refine (rWords_any l (by have := HI.out.2.2.2; omega)).mono ?_; rintro e w1 ⟨v1, rfl, ho1, hb1⟩
  have H1 := Lib.hid (And.intro ho1 hb1); clear ho1 hb1
  go_wp2_with (at_builtin; refine wpList_app_strs rfl _ _ rfl W.heap.size v1 _ _ rfl (H1.out.1.alloc _) (.slice (some ⟨w1.heap.size, 0, none⟩) 6 6) [[], [], [], [], [], []] rfl (lit_strs w1 [[], [], [], [], [], []] (by simp)) ?few ?base ?_)
  case few => have := splitC_few 32 l; have := HI.out.2.2.2; simp; omega
  case base => have := H1.out.2.size; simp; omega
  intro v2 w2 o2 g2
  obtain ⟨L6, hL6⟩ : ∃ L6, L6 = splitC 32 l ++ [[], [], [], [], [], []] := ⟨_, rfl⟩
  obtain ⟨N6, hN6⟩ : ∃ N6, N6 = (splitC 32 l).length + 6 := ⟨_, rfl⟩
  have o3 : w2.ownsRow W.heap.size 9 1 v2 N6 (strs L6) := by rw [hL6, hN6]; exact o2
  have hn7 : 7 ≤ N6 := by
    have : 0 < (splitC 32 l).length := List.length_pos_iff.2 (splitC_ne 32 l)
    omega
  have hnb : N6 ≤ 1000000 := by have := splitC_few 32 l; have := HI.out.2.2.2; omega
  obtain ⟨gb, cap, rfl, hg, hgl⟩ := o3.form (by omega)
  have hb2 : Below W.heap.size W w2 := (H1.out.2.alloc H1.out.2.size _).trans (g2.below.mono (by first | exact Nat.le_refl _ | omega))
  have hwd : ∀ i, i < 6 → w2.cell? ⟨gb, i, none⟩ = some (.string (mk ((splitC 32 l).getD i []))) := fun i hi => by
    rw [o3.cellAt i (by omega), hL6, strs, List.getElem?_map, List.getElem?_append, List.getD]
    by_cases hlt : i < (splitC 32 l).length
    · rw [if_pos hlt, List.getElem?_eq_getElem hlt]; rfl
    · rw [if_neg hlt, List.getElem?_eq_none (by omega : (splitC 32 l).length ≤ i)]
      have h6 : i - (splitC 32 l).length < 6 := by omega
      generalize i - (splitC 32 l).length = q at h6
      have : ∀ q, q < 6 → ([[], [], [], [], [], []] : List Bs)[q]? = some [] := by decide
      rw [this q h6]; rfl
  have HO2 := Lib.hid (And.intro hb2 (And.intro hg hgl)); clear hb2 hg o2 o3 g2 hL6 hN6
  go_upto_region 3 with fail
  obtain ⟨X, hX⟩ : ∃ X, X = w2.alloc (.cells zCs 31) := ⟨_, rfl⟩
  have hXA : Blk X w2.heap.size 31 zCs := by rw [hX]; exact Blk.new _ _ _
  have hXW : Below W.heap.size W X := by rw [hX]; exact HO2.out.1.alloc HO2.out.1.size _
  have hXc : ∀ i, i < 6 → X.cell? ⟨gb, i, none⟩ = some (.string (mk ((splitC 32 l).getD i []))) := fun i hi => by
    rw [hX, World.cell?_alloc_lt _ _ _ HO2.out.2.2]; exact hwd i hi
  obtain ⟨b6, hb6⟩ : ∃ b6, b6 = w2.heap.size := ⟨_, rfl⟩
  have hsz : W.heap.size ≤ w2.heap.size := HO2.out.1.size
  have hXs : X.heap.size = b6 + 1 := by rw [hX, hb6]; simp
  have hgb : gb < b6 := by rw [hb6]; exact HO2.out.2.2
  rw [← hb6] at hXA hsz
  have hX2 : X = w2.alloc (.cells #[.int .i64 0, .int .i64 0, .int .i64 0, .int .u64 0, .int .u64 0, .int .i64 0, .string ⟨#[]⟩, .int .u64 0, .int .i64 0, .slice none 0 0] 31) := hX
  rw [← hX2, ← hb6]
  clear hX hX2 hb6 hwd hgl
  have HX := Lib.hid (And.intro hXA (And.intro hXW (And.intro hsz (And.intro hXs hgb)))); clear hXA hXW
  obtain ⟨x0, hx0⟩ : ∃ x, x = wd l 0 := ⟨_, rfl⟩
  obtain ⟨x1, hx1⟩ : ∃ x, x = wd l 1 := ⟨_, rfl⟩
  obtain ⟨x2, hx2⟩ : ∃ x, x = wd l 2 := ⟨_, rfl⟩
  obtain ⟨x3, hx3⟩ : ∃ x, x = wd l 3 := ⟨_, rfl⟩
  obtain ⟨x4, hx4⟩ : ∃ x, x = wd l 4 := ⟨_, rfl⟩
  obtain ⟨x5, hx5⟩ : ∃ x, x = wd l 5 := ⟨_, rfl⟩
  have m0 : X.cell? ⟨gb, 0, none⟩ = some (.string (mk x0)) := by rw [hx0]; exact hXc 0 (by omega)
  have m1 : X.cell? ⟨gb, 1, none⟩ = some (.string (mk x1)) := by rw [hx1]; exact hXc 1 (by omega)
  have m2 : X.cell? ⟨gb, 2, none⟩ = some (.string (mk x2)) := by rw [hx2]; exact hXc 2 (by omega)
  have m3 : X.cell? ⟨gb, 3, none⟩ = some (.string (mk x3)) := by rw [hx3]; exact hXc 3 (by omega)
  have m4 : X.cell? ⟨gb, 4, none⟩ = some (.string (mk x4)) := by rw [hx4]; exact hXc 4 (by omega)
  have m5 : X.cell? ⟨gb, 5, none⟩ = some (.string (mk x5)) := by rw [hx5]; exact hXc 5 (by omega)
  have HM := Lib.hid (And.intro m0 (And.intro m1 (And.intro m2 (And.intro m3 (And.intro m4 m5)))))
  have HL := Lib.hid (show x1.length ≤ 1000000 ∧ x2.length ≤ 1000000 ∧ x3.length ≤ 1000000 ∧ x4.length ≤ 1000000 ∧ x5.length ≤ 1000000 from by
    rw [hx1, hx2, hx3, hx4, hx5]
    exact ⟨wd_le l 1 HI.out.2.2.2, wd_le l 2 HI.out.2.2.2, wd_le l 3 HI.out.2.2.2, wd_le l 4 HI.out.2.2.2, wd_le l 5 HI.out.2.2.2⟩)
  rw [← hx0] at h0
  have HCC := Lib.hid (show cand l = ((⟨3, 0, Cl.zero, numR x1, smallR x2, []⟩ : Ac), (1 : Int)) by
    rw [cand_wd, ← hx0, ← hx1, ← hx2, ← hx3, ← hx4, ← hx5]
    rw [if_neg (by rw [h0]; decide)]; rw [if_neg (by rw [h0]; decide)]; rw [if_pos h0])
  have e_sInvoke : (x0 == [105, 110, 118, 111, 107, 101]) = false := by rw [h0]; decide
  have e_sPick : (x0 == [112, 105, 99, 107]) = false := by rw [h0]; decide
  have e_sEvict : (x0 == [101, 118, 105, 99, 116]) = true := by rw [h0]; decide
  clear hx0 hx1 hx2 hx3 hx4 hx5 hXc h0
  clear m3
  clear m4
  clear m5
  have n0 : 0 < N6 := by omega
  have i0 : (0 : Int) < (N6 : Int) := by omega
  have n1 : 1 < N6 := by omega
  have i1 : (1 : Int) < (N6 : Int) := by omega
  have n2 : 2 < N6 := by omega
  have i2 : (2 : Int) < (N6 : Int) := by omega
  clear hn7 hnb hsz hXs
  have z0 := HX.out.1.frozen 0
  have y0 := HX.out.1.cell 0
  have z1 := HX.out.1.frozen 1
  have y1 := HX.out.1.cell 1
  have z2 := HX.out.1.frozen 2
  have y2 := HX.out.1.cell 2
  have z3 := HX.out.1.frozen 3
  have y3 := HX.out.1.cell 3
  have z4 := HX.out.1.frozen 4
  have y4 := HX.out.1.cell 4
  have z5 := HX.out.1.frozen 5
  have y5 := HX.out.1.cell 5
  have z6 := HX.out.1.frozen 6
  have y6 := HX.out.1.cell 6
  have z7 := HX.out.1.frozen 7
  have y7 := HX.out.1.cell 7
  have z8 := HX.out.1.frozen 8
  have y8 := HX.out.1.cell 8
  have z9 := HX.out.1.frozen 9
  have y9 := HX.out.1.cell 9
  go_upto_region 20 with fail
  refine wp_region_still_tail 9 (by kernel_rfl) (by kernel_rfl) ?_
  simp only [List.take_succ_cons, List.take_zero, List.drop_succ_cons, List.drop_zero]
  still_step
  still_step
  still_step
  still_call (rNum_any x1 HL.out.1)
  still_step
  still_step
  still_step
  still_call (rSmall_any x2 HL.out.2.1)
  still_step
  refine wpStill_nil ?_
  have hdrew : ({ X with drawn := X.drawn + 1 } : World) = X.drew := rfl
  rw [hdrew]
  clear hdrew
  go_upto_region 35 with fail
  clear m0 m1 m2 z0 z1 z2 z3 z4 z5 z6 z7 z8 z9 y0 y1 y2 y3 y4 y5 y6 y7 y8 y9
  go_upto_region 35 with fail
  obtain ⟨Z, hZ⟩ : ∃ Z, Z = ((((((((((X.setCell ⟨b6, 0, none⟩ (.int .i64 3)).setCell ⟨b6, 1, none⟩ (.int .i64 0)).setCell ⟨b6, 2, none⟩ (.int .i64 0)).setCell ⟨b6, 3, none⟩ (.int .u64 0)).setCell ⟨b6, 4, none⟩ (.int .u64 0)).setCell ⟨b6, 5, none⟩ (.int .i64 0)).setCell ⟨b6, 6, none⟩ (.string ⟨#[]⟩)).setCell ⟨b6, 7, none⟩ (.int .u64 (numR x1))).setCell ⟨b6, 8, none⟩ (.int .i64 (smallR x2))).setCell ⟨b6, 9, none⟩ (.slice none 0 0)).drew := ⟨_, rfl⟩
  have hZ1 : Blk Z b6 31 (acC ⟨3, 0, Cl.zero, numR x1, smallR x2, []⟩ (.slice none 0 0)) := by rw [hZ]; exact (put10_blk HX.out.1 rfl ⟨3, 0, Cl.zero, numR x1, smallR x2, []⟩ (.slice none 0 0)).drew
  have hZ2 : Z.ownsRow (b6 + 1) 3 1 (.slice none 0 0) (⟨3, 0, Cl.zero, numR x1, smallR x2, []⟩ : Ac).keep.length (ints (⟨3, 0, Cl.zero, numR x1, smallR x2, []⟩ : Ac).keep) := by rw [hZ]; exact World.ownsRow_nil _ _ _ _
  have hZ3 : Below W.heap.size W Z := by rw [hZ]; exact (put10_below HX.out.2.1 HX.out.2.2.1 ⟨3, 0, Cl.zero, numR x1, smallR x2, []⟩ (.slice none 0 0)).drew
  have HZ := Lib.hid (And.intro hZ1 (And.intro (RowR.of_own hZ2) (And.intro hZ2 hZ3)))
  rw [← hZ]
  clear hZ hZ1 hZ2 hZ3
  have HRF := Lib.hid (refOf_at HCC.out)
  obtain ⟨d0, d1, d2, d3, d4, d5, d6, d7, d8, d9⟩ := acCells HZ.out.1
  dsimp only at d0 d1 d2 d3 d4 d5 d6 d7 d8 d9
  have CS := Lib.hid (cand_small l)
  have CT := Lib.hid (cand_typed l)
  rw [HCC.out] at CS CT
  go_wp2_with fail
  refine (rMayAct_any ⟨3, 0, Cl.zero, numR x1, smallR x2, []⟩ (.slice none 0 0) HZ.out.2.1 (Nat.le_trans CS.out.2 (by have := HI.out.2.2.2; omega))).mono ?_; rintro e w3 ⟨he, hb3⟩
  obtain ⟨q, hq⟩ : ∃ q, q = mayAct ⟨3, 0, Cl.zero, numR x1, smallR x2, []⟩ := ⟨_, rfl⟩
  rw [← hq] at he HRF
  obtain rfl := he
  have HQ := Lib.hid hq; clear hq
  have H3 := Lib.hid (show Blk w3 b6 31 (acC ⟨3, 0, Cl.zero, numR x1, smallR x2, []⟩ (.slice none 0 0)) ∧ w3.ownsRow (b6 + 1) 3 1 (.slice none 0 0) (⟨3, 0, Cl.zero, numR x1, smallR x2, []⟩ : Ac).keep.length (ints (⟨3, 0, Cl.zero, numR x1, smallR x2, []⟩ : Ac).keep) ∧ Below W.heap.size W w3 from
    ⟨HZ.out.1.below hb3 HZ.out.1.lt, own_next HZ.out.2.2.1 hb3, HZ.out.2.2.2.trans (hb3.mono HZ.out.2.2.2.size)⟩)
  clear hb3 d0 d1 d2 d3 d4 d5 d6 d7 d8 d9
  obtain ⟨d0, d1, d2, d3, d4, d5, d6, d7, d8, d9⟩ := acCells H3.out.1
  dsimp only at d0 d1 d2 d3 d4 d5 d6 d7 d8 d9
  cases q with
  | false =>
    have HN := Lib.hid (HI.out.1.below H3.out.2.2 HI.out.1.lt)
    have HB9 := Lib.hid (HI.out.2.1.trans ((H3.out.2.2).mono HI.out.2.1.size))
    have r0 := HN.out.cell 0; have r1 := HN.out.cell 1; have r2 := HN.out.cell 2; have r3 := HN.out.cell 3; have r4 := HN.out.cell 4
    have r5 := HN.out.cell 5; have r6 := HN.out.cell 6; have r7 := HN.out.cell 7; have r8 := HN.out.cell 8; have r9 := HN.out.cell 9
    have s0 := HN.out.frozen 0; have s1 := HN.out.frozen 1; have s2 := HN.out.frozen 2; have s3 := HN.out.frozen 3; have s4 := HN.out.frozen 4
    have s5 := HN.out.frozen 5; have s6 := HN.out.frozen 6; have s7 := HN.out.frozen 7; have s8 := HN.out.frozen 8; have s9 := HN.out.frozen 9
    go_wp2_with fail
    refine bodyPost_ret (res_rOf (a := Ac.zero) (kv := .slice none 0 0) (put10_blk HN.out rfl Ac.zero (.slice none 0 0)) rfl rfl rfl) rfl ⟨put10_below HB9.out (Nat.le_refl _) Ac.zero (.slice none 0 0), ?_⟩
    rw [HRF.out, if_neg (by rintro ⟨h, _⟩; cases h)]
  | true =>
    have HU := Lib.hid (show (1 : Int) ≤ 1 ∧ (1 : Int) ≤ 100000 from by decide)
    have MM := Lib.hid ((mayAct_iff _).1 HQ.out.symm)
    go_wp2_with fail
    refine (rLine_any ⟨3, 0, Cl.zero, numR x1, smallR x2, []⟩ (.slice none 0 0) 1 (RowR.of_own H3.out.2.1) MM.out CT.out (Nat.le_trans CS.out.1 (by have := HI.out.2.2.2; omega)) (Nat.le_trans CS.out.2 (by have := HI.out.2.2.2; omega)) ⟨by have := HU.out.1; omega, by have := HU.out.2; omega⟩).mono ?_; rintro e w4 ⟨rfl, hb4⟩
    obtain ⟨s, hs⟩ : ∃ s, s = lineL ⟨3, 0, Cl.zero, numR x1, smallR x2, []⟩ 1 := ⟨_, rfl⟩
    rw [← hs] at HRF
    rw [← hs]
    clear hs
    have H4 := Lib.hid (show Blk w4 b6 31 (acC ⟨3, 0, Cl.zero, numR x1, smallR x2, []⟩ (.slice none 0 0)) ∧ w4.ownsRow (b6 + 1) 3 1 (.slice none 0 0) (⟨3, 0, Cl.zero, numR x1, smallR x2, []⟩ : Ac).keep.length (ints (⟨3, 0, Cl.zero, numR x1, smallR x2, []⟩ : Ac).keep) ∧ Below W.heap.size W w4 from
      ⟨H3.out.1.below hb4 H3.out.1.lt, own_next H3.out.2.1 hb4, H3.out.2.2.trans (hb4.mono H3.out.2.2.size)⟩)
    clear hb4 d0 d1 d2 d3 d4 d5 d6 d7 d8 d9
    obtain ⟨d0, d1, d2, d3, d4, d5, d6, d7, d8, d9⟩ := acCells H4.out.1
    dsimp only at d0 d1 d2 d3 d4 d5 d6 d7 d8 d9
    by_cases hsl : s = l
    case neg =>
      have v1 : (s == l) = false := by simpa using hsl
      have v2 : (s != l) = true := by simpa using hsl
      have HU2 := Lib.hid hsl; clear hsl
      have HN := Lib.hid (HI.out.1.below H4.out.2.2 HI.out.1.lt)
      have HB9 := Lib.hid (HI.out.2.1.trans ((H4.out.2.2).mono HI.out.2.1.size))
      have r0 := HN.out.cell 0; have r1 := HN.out.cell 1; have r2 := HN.out.cell 2; have r3 := HN.out.cell 3; have r4 := HN.out.cell 4
      have r5 := HN.out.cell 5; have r6 := HN.out.cell 6; have r7 := HN.out.cell 7; have r8 := HN.out.cell 8; have r9 := HN.out.cell 9
      have s0 := HN.out.frozen 0; have s1 := HN.out.frozen 1; have s2 := HN.out.frozen 2; have s3 := HN.out.frozen 3; have s4 := HN.out.frozen 4
      have s5 := HN.out.frozen 5; have s6 := HN.out.frozen 6; have s7 := HN.out.frozen 7; have s8 := HN.out.frozen 8; have s9 := HN.out.frozen 9
      go_wp2_with fail
      refine bodyPost_ret (res_rOf (a := Ac.zero) (kv := .slice none 0 0) (put10_blk HN.out rfl Ac.zero (.slice none 0 0)) rfl rfl rfl) rfl ⟨put10_below HB9.out (Nat.le_refl _) Ac.zero (.slice none 0 0), ?_⟩
      rw [HRF.out, if_neg (by rintro ⟨_, _, _, h⟩; exact HU2.out h)]
    have v1 : (s == l) = true := by simpa using hsl
    have v2 : (s != l) = false := by simpa using hsl
    have HU2 := Lib.hid hsl; clear hsl
    have HN := Lib.hid (HI.out.1.below H4.out.2.2 HI.out.1.lt)
    have HB9 := Lib.hid (HI.out.2.1.trans ((H4.out.2.2).mono HI.out.2.1.size))
    have r0 := HN.out.cell 0; have r1 := HN.out.cell 1; have r2 := HN.out.cell 2; have r3 := HN.out.cell 3; have r4 := HN.out.cell 4
    have r5 := HN.out.cell 5; have r6 := HN.out.cell 6; have r7 := HN.out.cell 7; have r8 := HN.out.cell 8; have r9 := HN.out.cell 9
    have s0 := HN.out.frozen 0; have s1 := HN.out.frozen 1; have s2 := HN.out.frozen 2; have s3 := HN.out.frozen 3; have s4 := HN.out.frozen 4
    have s5 := HN.out.frozen 5; have s6 := HN.out.frozen 6; have s7 := HN.out.frozen 7; have s8 := HN.out.frozen 8; have s9 := HN.out.frozen 9
    go_wp2_with fail
    refine bodyPost_ret (res_rOf (a := ⟨3, 0, Cl.zero, numR x1, smallR x2, []⟩) (kv := (.slice none 0 0)) (put10_blk HN.out rfl ⟨3, 0, Cl.zero, numR x1, smallR x2, []⟩ (.slice none 0 0)) rfl rfl rfl) rfl ⟨put10_below HB9.out (Nat.le_refl _) ⟨3, 0, Cl.zero, numR x1, smallR x2, []⟩ (.slice none 0 0), ?_⟩
    rw [HRF.out, if_pos ⟨by trivial, HU.out.1, HU.out.2, HU2.out⟩]
    exact ⟨(.slice none 0 0), rfl, RowR.of_own (own_put10B H4.out.2.1 (by have := HX.out.2.2.1; have := HI.out.2.2.1; omega) ⟨3, 0, Cl.zero, numR x1, smallR x2, []⟩ (.slice none 0 0)), fun r e => by have := (H4.out.2.1.lt r e).1; have := HX.out.2.2.1; have := HI.out.2.2.1; omega⟩

set_option maxHeartbeats 4000000 in
set_option maxRecDepth 100000 in
theorem rof_crash {w : World} (l : Bs) (hl : l.length ≤ 100000) (h0 : wd l 0 = sCrash) : Calls Tryz.prog 10 #[.string (mk l)] w (ROfPost w l) := by
  obtain ⟨W, hW⟩ : ∃ W, W = w.alloc (.cells zCs 31) := ⟨_, rfl⟩
  have hR : Blk W w.heap.size 31 zCs := by rw [hW]; exact Blk.new _ _ _
  have hB : Below w.heap.size w W := by rw [hW]; exact (Below.refl _ _).alloc (Nat.le_refl _) _
  have hWs : W.heap.size = w.heap.size + 1 := by rw [hW]; simp
  have HI := Lib.hid (And.intro hR (And.intro hB (And.intro hWs hl)))
  clear hR hB hWs hl
  go_enter Tryz.func10, Tryz.ntmps10
  go_upto_region 1 with fail
  rw [← hW]
  clear hW
  go_wp2_with fail
  refine (rWords_any l (by have := HI.out.2.2.2; omega)).mono ?_; rintro e w1 ⟨v1, rfl, ho1, hb1⟩
  have H1 := Lib.hid (And.intro ho1 hb1); clear ho1 hb1
  go_wp2_with (at_builtin; refine wpList_app_strs rfl _ _ rfl W.heap.size v1 _ _ rfl (H1.out.1.alloc _) (.slice (some ⟨w1.heap.size, 0, none⟩) 6 6) [[], [], [], [], [], []] rfl (lit_strs w1 [[], [], [], [], [], []] (by simp)) ?few ?base ?_)
  case few => have := splitC_few 32 l; have := HI.out.2.2.2; simp; omega
  case base => have := H1.out.2.size; simp; omega
  intro v2 w2 o2 g2
  obtain ⟨L6, hL6⟩ : ∃ L6, L6 = splitC 32 l ++ [[], [], [], [], [], []] := ⟨_, rfl⟩
  obtain ⟨N6, hN6⟩ : ∃ N6, N6 = (splitC 32 l).length + 6 := ⟨_, rfl⟩
  have o3 : w2.ownsRow W.heap.size 9 1 v2 N6 (strs L6) := by rw [hL6, hN6]; exact o2
  have hn7 : 7 ≤ N6 := by
    have : 0 < (splitC 32 l).length := List.length_pos_iff.2 (splitC_ne 32 l)
    omega
  have hnb : N6 ≤ 1000000 := by have := splitC_few 32 l; have := HI.out.2.2.2; omega
  obtain ⟨gb, cap, rfl, hg, hgl⟩ := o3.form (by omega)
  have hb2 : Below W.heap.size W w2 := (H1.out.2.alloc H1.out.2.size _).trans (g2.below.mono (by first | exact Nat.le_refl _ | omega))
  have hwd : ∀ i, i < 6 → w2.cell? ⟨gb, i, none⟩ = some (.string (mk ((splitC 32 l).getD i []))) := fun i hi => by
    rw [o3.cellAt i (by omega), hL6, strs, List.getElem?_map, List.getElem?_append, List.getD]
    by_cases hlt : i < (splitC 32 l).length
    · rw [if_pos hlt, List.getElem?_eq_getElem hlt]; rfl
    · rw [if_neg hlt, List.getElem?_eq_none (by omega : (splitC 32 l).length ≤ i)]
      have h6 : i - (splitC 32 l).length < 6 := by omega
      generalize i - (splitC 32 l).length = q at h6
      have : ∀ q, q < 6 → ([[], [], [], [], [], []] : List Bs)[q]? = some [] := by decide
      rw [this q h6]; rfl
  have HO2 := Lib.hid (And.intro hb2 (And.intro hg hgl)); clear hb2 hg o2 o3 g2 hL6 hN6
  go_upto_region 3 with fail
  obtain ⟨X, hX⟩ : ∃ X, X = w2.alloc (.cells zCs 31) := ⟨_, rfl⟩
  have hXA : Blk X w2.heap.size 31 zCs := by rw [hX]; exact Blk.new _ _ _
  have hXW : Below W.heap.size W X := by rw [hX]; exact HO2.out.1.alloc HO2.out.1.size _
  have hXc : ∀ i, i < 6 → X.cell? ⟨gb, i, none⟩ = some (.string (mk ((splitC 32 l).getD i []))) := fun i hi => by
    rw [hX, World.cell?_alloc_lt _ _ _ HO2.out.2.2]; exact hwd i hi
  obtain ⟨b6, hb6⟩ : ∃ b6, b6 = w2.heap.size := ⟨_, rfl⟩
  have hsz : W.heap.size ≤ w2.heap.size := HO2.out.1.size
  have hXs : X.heap.size = b6 + 1 := by rw [hX, hb6]; simp
  have hgb : gb < b6 := by rw [hb6]; exact HO2.out.2.2
  rw [← hb6] at hXA hsz
  have hX2 : X = w2.alloc (.cells #[.int .i64 0, .int .i64 0, .int .i64 0, .int .u64 0, .int .u64 0, .int .i64 0, .string ⟨#[]⟩, .int .u64 0, .int .i64 0, .slice none 0 0] 31) := hX
  rw [← hX2, ← hb6]
  clear hX hX2 hb6 hwd hgl
  have HX := Lib.hid (And.intro hXA (And.intro hXW (And.intro hsz (And.intro hXs hgb)))); clear hXA hXW
  obtain ⟨x0, hx0⟩ : ∃ x, x = wd l 0 := ⟨_, rfl⟩
  obtain ⟨x1, hx1⟩ : ∃ x, x = wd l 1 := ⟨_, rfl⟩
  obtain ⟨x2, hx2⟩ : ∃ x, x = wd l 2 := ⟨_, rfl⟩
  obtain ⟨x3, hx3⟩ : ∃ x, x = wd l 3 := ⟨_, rfl⟩
  obtain ⟨x4, hx4⟩ : ∃ x, x = wd l 4 := ⟨_, rfl⟩
  obtain ⟨x5, hx5⟩ : ∃ x, x = wd l 5 := ⟨_, rfl⟩
  have m0 : X.cell? ⟨gb, 0, none⟩ = some (.string (mk x0)) := by rw [hx0]; exact hXc 0 (by omega)
  have m1 : X.cell? ⟨gb, 1, none⟩ = some (.string (mk x1)) := by rw [hx1]; exact hXc 1 (by omega)
  have m2 : X.cell? ⟨gb, 2, none⟩ = some (.string (mk x2)) := by rw [hx2]; exact hXc 2 (by omega)
  have m3 : X.cell? ⟨gb, 3, none⟩ = some (.string (mk x3)) := by rw [hx3]; exact hXc 3 (by omega)
  have m4 : X.cell? ⟨gb, 4, none⟩ = some (.string (mk x4)) := by rw [hx4]; exact hXc 4 (by omega)
  have m5 : X.cell? ⟨gb, 5, none⟩ = some (.string (mk x5)) := by rw [hx5]; exact hXc 5 (by omega)
  have HM := Lib.hid (And.intro m0 (And.intro m1 (And.intro m2 (And.intro m3 (And.intro m4 m5)))))
  have HL := Lib.hid (show x1.length ≤ 1000000 ∧ x2.length ≤ 1000000 ∧ x3.length ≤ 1000000 ∧ x4.length ≤ 1000000 ∧ x5.length ≤ 1000000 from by
    rw [hx1, hx2, hx3, hx4, hx5]
    exact ⟨wd_le l 1 HI.out.2.2.2, wd_le l 2 HI.out.2.2.2, wd_le l 3 HI.out.2.2.2, wd_le l 4 HI.out.2.2.2, wd_le l 5 HI.out.2.2.2⟩)
  rw [← hx0] at h0
  obtain ⟨kp, hkp⟩ : ∃ kp, kp = ((splitC 32 l).drop 1).map smallR := ⟨_, rfl⟩
  have HCC := Lib.hid (show cand l = ((⟨4, 0, Cl.zero, 0, 0, kp⟩ : Ac), (1 : Int)) by
    rw [cand_wd, ← hx0, ← hx1, ← hx2, ← hx3, ← hx4, ← hx5]
    rw [if_neg (by rw [h0]; decide)]; rw [if_neg (by rw [h0]; decide)]; rw [if_neg (by rw [h0]; decide)]; rw [if_pos h0, hkp])
  have e_sInvoke : (x0 == [105, 110, 118, 111, 107, 101]) = false := by rw [h0]; decide
  have e_sPick : (x0 == [112, 105, 99, 107]) = false := by rw [h0]; decide
  have e_sEvict : (x0 == [101, 118, 105, 99, 116]) = false := by rw [h0]; decide
  have e_sCrash : (x0 == [99, 114, 97, 115, 104]) = true := by rw [h0]; decide
  clear hx0 hx1 hx2 hx3 hx4 hx5 hXc h0
  clear m1
  clear m2
  clear m3
  clear m4
  clear m5
  have n0 : 0 < N6 := by omega
  have i0 : (0 : Int) < (N6 : Int) := by omega
  clear hn7 hnb hsz hXs
  have z0 := HX.out.1.frozen 0
  have y0 := HX.out.1.cell 0
  go_wp2_with fail
  refine (rWords_any l (by have := HI.out.2.2.2; omega)).mono ?_; rintro e w8 ⟨v8, rfl, o8, hb8⟩
  have hYB : Blk (X.setCell ⟨b6, 0, none⟩ (.int .i64 4)) b6 31 (acC ⟨4, 0, Cl.zero, 0, 0, []⟩ (.slice none 0 0)) := HX.out.1.set_ 0 _
  have hYW : Below W.heap.size W (X.setCell ⟨b6, 0, none⟩ (.int .i64 4)) := HX.out.2.1.setCell (p := ⟨b6, 0, none⟩) HX.out.2.2.1 _
  have hlp : 0 < (splitC 32 l).length := List.length_pos_iff.2 (splitC_ne 32 l)
  obtain ⟨g8, cap8, rfl, hg8, hl8⟩ := o8.form hlp
  obtain ⟨cur8, hc8, hcur⟩ := own_blk o8
  have hg8' : b6 + 1 ≤ g8 := by have := HX.out.2.2.2.1; simp at hg8; omega
  obtain ⟨N8, hN8⟩ : ∃ N8, N8 = (splitC 32 l).length := ⟨_, rfl⟩
  have hN8b : N8 ≤ 1000000 := by have := splitC_few 32 l; have := HI.out.2.2.2; omega
  have H8 := Lib.hid (And.intro (hYB.below hb8 hYB.lt) (And.intro (hYW.trans (hb8.mono hYW.size)) (And.intro hc8 (And.intro hcur (And.intro hg8' hN8)))))
  rw [← hN8] at hlp ⊢
  clear hYB hYW o8 hg8 hl8 hc8 hcur hg8' hN8 hb8 z0 y0 m0
  go_upto_region 25 with fail
  go_loopw [9] (fun s9 wr => ∃ (j i : Nat) (u : Value), i = j + 1 ∧ i ≤ N8 ∧ s9 = .int .i64 (i : Int) ∧ wr.ownsRow (b6 + 1) 3 1 u j (ints ((((splitC 32 l).drop 1).take j).map smallR)) ∧ Blk wr b6 31 (acC ⟨4, 0, Cl.zero, 0, 0, []⟩ u) ∧ Blk wr g8 9 cur8 ∧ u.ownBlock ≠ some g8 ∧ Below W.heap.size W wr) (fun s9 _ => N8 - (RowKit.intOf s9).toNat)
  case atStart => exact ⟨0, 1, .slice none 0 0, rfl, by omega, rfl, World.ownsRow_nil _ _ _ _, H8.out.1, H8.out.2.2.1, by simp [Value.ownBlock], H8.out.2.1⟩
  case round =>
    obtain ⟨j, i, u, hij, hi, rfl, hown, hblk, hb8, hne, hbel⟩ := hrel
    have HIJ := Lib.hid hij; clear hij
    by_cases hlt : i < N8
    · obtain ⟨x, hx⟩ : ∃ x, (splitC 32 l)[i]? = some x := ⟨_, List.getElem?_eq_getElem (by have := H8.out.2.2.2.2.2; omega)⟩
      have cx : wr.cell? ⟨g8, i, none⟩ = some (.string (mk x)) := by
        rw [hb8.cell, H8.out.2.2.2.1 i (by have := H8.out.2.2.2.2.2; omega)]
        exact strs_get hx
      obtain ⟨t, ht⟩ : ∃ t, t = (((splitC 32 l).drop 1).take j).map smallR := ⟨_, rfl⟩
      rw [← ht] at hown
      obtain ⟨v1, hv1⟩ : ∃ v1, v1 = smallR x := ⟨_, rfl⟩
      have HXX := Lib.hid (And.intro hx (And.intro ht (And.intro hv1 (Nat.le_trans (splitC_short 32 l x (List.mem_of_getElem? hx)) HI.out.2.2.2)))); clear hx ht hv1
      have HR := Lib.hid (And.intro hown (And.intro hblk (And.intro hb8 (And.intro hne hbel)))); clear hown hblk hb8 hne hbel
      go_upto_region 27 with fail
      have hq0 : Below W.heap.size W wr.drew := HR.out.2.2.2.2.drew
      have hqb : Blk wr.drew b6 31 (acC ⟨4, 0, Cl.zero, 0, 0, []⟩ u) := HR.out.2.1.drew
      have hqo : wr.drew.ownsRow (b6 + 1) 3 1 u j (ints t) := HR.out.1
      have hqc : Blk wr.drew g8 9 cur8 := HR.out.2.2.1.drew
      have q9 : wr.cell? ⟨b6, 9, none⟩ = some u := HR.out.2.1.cell 9
      have p9 := HR.out.2.1.frozen 9
      go_region_law (first
        | ((with_reducible refine step_app_ints rfl _ _ rfl (b6 + 1) u j t ?_ ?_ (.slice (some ⟨w6.heap.size, 0, none⟩) 1 1) [v1] ?_ ?_ ?_ ?_ ?_)
           · rfl
           · exact own_next O6 (Below.alloc (Below.refl _ _) (Nat.le_refl _) _)
           · rfl
           · exact RowR.one w6 _ v1
           · have := HIJ.out; simp; omega
           · have := K6.size; have := B6.lt; simp; omega
           intro v9 w9 o9 G9
           obtain ⟨g9, cp9, hv9, _, _⟩ := o9.form (by simp)
           have N9 := G9.own g8 (C6.alloc (.cells #[.int .i64 v1] 3)).lt HR.out.2.2.2.1
           subst hv9
           have B9 := (B6.alloc (.cells #[.int .i64 v1] 3)).below G9.below (Nat.lt_succ_self _)
           have C9 := (C6.alloc (.cells #[.int .i64 v1] 3)).grew G9 HR.out.2.2.2.1
           have K9 : Below W.heap.size W w9 := (K6.alloc K6.size _).trans (G9.below.mono (by have := HX.out.2.2.1; omega))
           have q8 : w9.cell? ⟨b6, 9, none⟩ = some u := B9.cell 9
           have p8 := B9.frozen 9)
        | (go_simp
           refine (rSmall_b x (by have := HXX.out.2.2.2; omega)).mono ?_
           rintro e w6 ⟨he, hb6⟩
           rw [← HXX.out.2.2.1] at he
           obtain rfl := he
           have K6 : Below W.heap.size W w6 := Below.trans hq0 (hb6.mono hq0.size)
           have B6 := hqb.below hb6 hqb.lt
           have C6 := hqc.below hb6 hqc.lt
           have O6 := own_next hqo hb6
           have q6 : w6.cell? ⟨b6, 9, none⟩ = some u := B6.cell 9
           have q6a : ∀ ob, (w6.alloc ob).cell? ⟨b6, 9, none⟩ = some u := fun ob => (B6.alloc ob).cell 9))
      all_goals
        have H9 := Lib.hid (And.intro (own_farB (g := b6) (i := 9) (u := .slice (some ⟨g9, 0, none⟩) (j + 1) cp9) o9 (Nat.lt_succ_self _)) (And.intro (show Blk _ b6 31 (acC ⟨4, 0, Cl.zero, 0, 0, []⟩ (.slice (some ⟨g9, 0, none⟩) (j + 1) cp9)) from B9.set_ 9 _) (And.intro (C9.far (p := ⟨b6, 9, none⟩) (show g8 ≠ b6 by have := H8.out.2.2.2.2.1; omega) (.slice (some ⟨g9, 0, none⟩) (j + 1) cp9)) (And.intro N9 (K9.setCell (p := ⟨b6, 9, none⟩) HX.out.2.2.1 (.slice (some ⟨g9, 0, none⟩) (j + 1) cp9))))))
        clear o9 G9 B9 C9 N9 K9 q8 p8 q6 q6a O6 B6 C6 K6 hb6
        go_wp2_with fail
        go_roundw
        case rel =>
          refine ⟨j + 1, i + 1, _, by have := HIJ.out; omega, by omega, by go_num, ?_, H9.out.2.1, H9.out.2.2.1, H9.out.2.2.2.1, H9.out.2.2.2.2⟩
          have e : (((splitC 32 l).drop 1).take (j + 1)).map smallR = t ++ [v1] := by
            rw [List.take_add_one, List.getElem?_drop, show 1 + j = i by have := HIJ.out; omega, HXX.out.1, HXX.out.2.1, HXX.out.2.2.1]
            simp
          rw [e]
          exact H9.out.1
        case measure => simp [RowKit.intOf]; omega
    · obtain ⟨uA, uc, rfl⟩ := (RowR.of_own hown).len
      have hjk : (((splitC 32 l).drop 1).take j).map smallR = kp := by
        rw [hkp, List.take_of_length_le (by rw [List.length_drop]; have := H8.out.2.2.2.2.2; have := HIJ.out; omega)]
      have hkl : kp.length = j := by rw [hkp, List.length_map, List.length_drop]; have := H8.out.2.2.2.2.2; have := HIJ.out; omega
      have hown2 : wr.ownsRow (b6 + 1) 3 1 (.slice uA j uc) kp.length (ints kp) := by rw [hkl, ← hjk]; exact hown
      have HKK := Lib.hid (And.intro hown2 (And.intro hblk hbel))
      clear hjk hkl hown hown2 hblk hbel hb8 hne
      go_upto_region 35 with fail
      obtain ⟨Z, hZ⟩ : ∃ Z, Z = wr := ⟨_, rfl⟩
      have hZ1 : Blk Z b6 31 (acC ⟨4, 0, Cl.zero, 0, 0, kp⟩ (.slice uA j uc)) := by rw [hZ]; exact HKK.out.2.1
      have hZ2 : Z.ownsRow (b6 + 1) 3 1 (.slice uA j uc) (⟨4, 0, Cl.zero, 0, 0, kp⟩ : Ac).keep.length (ints (⟨4, 0, Cl.zero, 0, 0, kp⟩ : Ac).keep) := by rw [hZ]; exact HKK.out.1
      have hZ3 : Below W.heap.size W Z := by rw [hZ]; exact HKK.out.2.2
      have HZ := Lib.hid (And.intro hZ1 (And.intro (RowR.of_own hZ2) (And.intro hZ2 hZ3)))
      rw [← hZ]
      clear hZ hZ1 hZ2 hZ3
      have HRF := Lib.hid (refOf_at HCC.out)
      obtain ⟨d0, d1, d2, d3, d4, d5, d6, d7, d8, d9⟩ := acCells HZ.out.1
      dsimp only at d0 d1 d2 d3 d4 d5 d6 d7 d8 d9
      have CS := Lib.hid (cand_small l)
      have CT := Lib.hid (cand_typed l)
      rw [HCC.out] at CS CT
      go_wp2_with fail
      refine (rMayAct_any ⟨4, 0, Cl.zero, 0, 0, kp⟩ (.slice uA j uc) HZ.out.2.1 (Nat.le_trans CS.out.2 (by have := HI.out.2.2.2; omega))).mono ?_; rintro e w3 ⟨he, hb3⟩
      obtain ⟨q, hq⟩ : ∃ q, q = mayAct ⟨4, 0, Cl.zero, 0, 0, kp⟩ := ⟨_, rfl⟩
      rw [← hq] at he HRF
      obtain rfl := he
      have HQ := Lib.hid hq; clear hq
      have H3 := Lib.hid (show Blk w3 b6 31 (acC ⟨4, 0, Cl.zero, 0, 0, kp⟩ (.slice uA j uc)) ∧ w3.ownsRow (b6 + 1) 3 1 (.slice uA j uc) (⟨4, 0, Cl.zero, 0, 0, kp⟩ : Ac).keep.length (ints (⟨4, 0, Cl.zero, 0, 0, kp⟩ : Ac).keep) ∧ Below W.heap.size W w3 from
        ⟨HZ.out.1.below hb3 HZ.out.1.lt, own_next HZ.out.2.2.1 hb3, HZ.out.2.2.2.trans (hb3.mono HZ.out.2.2.2.size)⟩)
      clear hb3 d0 d1 d2 d3 d4 d5 d6 d7 d8 d9
      obtain ⟨d0, d1, d2, d3, d4, d5, d6, d7, d8, d9⟩ := acCells H3.out.1
      dsimp only at d0 d1 d2 d3 d4 d5 d6 d7 d8 d9
      cases q with
      | false =>
        have HN := Lib.hid (HI.out.1.below H3.out.2.2 HI.out.1.lt)
        have HB9 := Lib.hid (HI.out.2.1.trans ((H3.out.2.2).mono HI.out.2.1.size))
        have r0 := HN.out.cell 0; have r1 := HN.out.cell 1; have r2 := HN.out.cell 2; have r3 := HN.out.cell 3; have r4 := HN.out.cell 4
        have r5 := HN.out.cell 5; have r6 := HN.out.cell 6; have r7 := HN.out.cell 7; have r8 := HN.out.cell 8; have r9 := HN.out.cell 9
        have s0 := HN.out.frozen 0; have s1 := HN.out.frozen 1; have s2 := HN.out.frozen 2; have s3 := HN.out.frozen 3; have s4 := HN.out.frozen 4
        have s5 := HN.out.frozen 5; have s6 := HN.out.frozen 6; have s7 := HN.out.frozen 7; have s8 := HN.out.frozen 8; have s9 := HN.out.frozen 9
        go_wp2_with fail
        refine bodyPost_ret (res_rOf (a := Ac.zero) (kv := .slice none 0 0) (put10_blk HN.out rfl Ac.zero (.slice none 0 0)) rfl rfl rfl) rfl ⟨put10_below HB9.out (Nat.le_refl _) Ac.zero (.slice none 0 0), ?_⟩
        rw [HRF.out, if_neg (by rintro ⟨h, _⟩; cases h)]
      | true =>
        have HU := Lib.hid (show (1 : Int) ≤ 1 ∧ (1 : Int) ≤ 100000 from by decide)
        have MM := Lib.hid ((mayAct_iff _).1 HQ.out.symm)
        go_wp2_with fail
        refine (rLine_any ⟨4, 0, Cl.zero, 0, 0, kp⟩ (.slice uA j uc) 1 (RowR.of_own H3.out.2.1) MM.out CT.out (Nat.le_trans CS.out.1 (by have := HI.out.2.2.2; omega)) (Nat.le_trans CS.out.2 (by have := HI.out.2.2.2; omega)) ⟨by have := HU.out.1; omega, by have := HU.out.2; omega⟩).mono ?_; rintro e w4 ⟨rfl, hb4⟩
        obtain ⟨s, hs⟩ : ∃ s, s = lineL ⟨4, 0, Cl.zero, 0, 0, kp⟩ 1 := ⟨_, rfl⟩
        rw [← hs] at HRF
        rw [← hs]
        clear hs
        have H4 := Lib.hid (show Blk w4 b6 31 (acC ⟨4, 0, Cl.zero, 0, 0, kp⟩ (.slice uA j uc)) ∧ w4.ownsRow (b6 + 1) 3 1 (.slice uA j uc) (⟨4, 0, Cl.zero, 0, 0, kp⟩ : Ac).keep.length (ints (⟨4, 0, Cl.zero, 0, 0, kp⟩ : Ac).keep) ∧ Below W.heap.size W w4 from
          ⟨H3.out.1.below hb4 H3.out.1.lt, own_next H3.out.2.1 hb4, H3.out.2.2.trans (hb4.mono H3.out.2.2.size)⟩)
        clear hb4 d0 d1 d2 d3 d4 d5 d6 d7 d8 d9
        obtain ⟨d0, d1, d2, d3, d4, d5, d6, d7, d8, d9⟩ := acCells H4.out.1
        dsimp only at d0 d1 d2 d3 d4 d5 d6 d7 d8 d9
        by_cases hsl : s = l
        case neg =>
          have v1 : (s == l) = false := by simpa using hsl
          have v2 : (s != l) = true := by simpa using hsl
          have HU2 := Lib.hid hsl; clear hsl
          have HN := Lib.hid (HI.out.1.below H4.out.2.2 HI.out.1.lt)
          have HB9 := Lib.hid (HI.out.2.1.trans ((H4.out.2.2).mono HI.out.2.1.size))
          have r0 := HN.out.cell 0; have r1 := HN.out.cell 1; have r2 := HN.out.cell 2; have r3 := HN.out.cell 3; have r4 := HN.out.cell 4
          have r5 := HN.out.cell 5; have r6 := HN.out.cell 6; have r7 := HN.out.cell 7; have r8 := HN.out.cell 8; have r9 := HN.out.cell 9
          have s0 := HN.out.frozen 0; have s1 := HN.out.frozen 1; have s2 := HN.out.frozen 2; have s3 := HN.out.frozen 3; have s4 := HN.out.frozen 4
          have s5 := HN.out.frozen 5; have s6 := HN.out.frozen 6; have s7 := HN.out.frozen 7; have s8 := HN.out.frozen 8; have s9 := HN.out.frozen 9
          go_wp2_with fail
          refine bodyPost_ret (res_rOf (a := Ac.zero) (kv := .slice none 0 0) (put10_blk HN.out rfl Ac.zero (.slice none 0 0)) rfl rfl rfl) rfl ⟨put10_below HB9.out (Nat.le_refl _) Ac.zero (.slice none 0 0), ?_⟩
          rw [HRF.out, if_neg (by rintro ⟨_, _, _, h⟩; exact HU2.out h)]
        have v1 : (s == l) = true := by simpa using hsl
        have v2 : (s != l) = false := by simpa using hsl
        have HU2 := Lib.hid hsl; clear hsl
        have HN := Lib.hid (HI.out.1.below H4.out.2.2 HI.out.1.lt)
        have HB9 := Lib.hid (HI.out.2.1.trans ((H4.out.2.2).mono HI.out.2.1.size))
        have r0 := HN.out.cell 0; have r1 := HN.out.cell 1; have r2 := HN.out.cell 2; have r3 := HN.out.cell 3; have r4 := HN.out.cell 4
        have r5 := HN.out.cell 5; have r6 := HN.out.cell 6; have r7 := HN.out.cell 7; have r8 := HN.out.cell 8; have r9 := HN.out.cell 9
        have s0 := HN.out.frozen 0; have s1 := HN.out.frozen 1; have s2 := HN.out.frozen 2; have s3 := HN.out.frozen 3; have s4 := HN.out.frozen 4
        have s5 := HN.out.frozen 5; have s6 := HN.out.frozen 6; have s7 := HN.out.frozen 7; have s8 := HN.out.frozen 8; have s9 := HN.out.frozen 9
        go_wp2_with fail
        refine bodyPost_ret (res_rOf (a := ⟨4, 0, Cl.zero, 0, 0, kp⟩) (kv := (.slice uA j uc)) (put10_blk HN.out rfl ⟨4, 0, Cl.zero, 0, 0, kp⟩ (.slice uA j uc)) rfl rfl rfl) rfl ⟨put10_below HB9.out (Nat.le_refl _) ⟨4, 0, Cl.zero, 0, 0, kp⟩ (.slice uA j uc), ?_⟩
        rw [HRF.out, if_pos ⟨by trivial, HU.out.1, HU.out.2, HU2.out⟩]
        exact ⟨(.slice uA j uc), rfl, RowR.of_own (own_put10B H4.out.2.1 (by have := HX.out.2.2.1; have := HI.out.2.2.1; omega) ⟨4, 0, Cl.zero, 0, 0, kp⟩ (.slice uA j uc)), fun r e => by have := (H4.out.2.1.lt r e).1; have := HX.out.2.2.1; have := HI.out.2.2.1; omega⟩

end Go.Proofs.YtbpbkmhipbchbaaGreatDoor.sc
