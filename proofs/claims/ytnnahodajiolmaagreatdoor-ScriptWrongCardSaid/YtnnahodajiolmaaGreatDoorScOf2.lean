/-
  PROVED HERE: the contract of script's of, for invoke and for words that name no kind. Conditions: as ScOf. (Printed by a program of mine.)
-/
import Derived.Test.YtnnahodajiolmaaGreatDoorScOf
namespace Go.Proofs.YtnnahodajiolmaaGreatDoor.sc
open Go.RowKit
set_option linter.unusedVariables false

theorem ofL_invoke_nil : ofL [sInvoke] = none := by decide
theorem ofL_invoke (x : Bs) (r : List Bs) : ofL (sInvoke :: x :: r) = match whole x 0 1099511627776, ofCall r with
      | some c, some y => some (⟨1, c, y, 0, 0, []⟩, 1)
      | _, _ => none := by
  unfold ofL
  simp [show idx sInvoke kindsL 0 = 1 by decide, big]
  cases whole x 0 1099511627776 <;> cases ofCall r <;> rfl
theorem ofL_other {o : Bs} (hk : idx o kindsL 0 = 0 ∨ idx o kindsL 0 = -1) (f : List Bs) : ofL (o :: f) = none := by
  unfold ofL
  rcases hk with h | h <;> simp [h]
theorem want_other {o : Bs} (hk : idx o kindsL 0 = 0 ∨ idx o kindsL 0 = -1) : getS wantL o = none := by
  have h1 : sPick ≠ o := by rintro rfl; revert hk; decide
  have h2 : sEvict ≠ o := by rintro rfl; revert hk; decide
  have h3 : sOpen ≠ o := by rintro rfl; revert hk; decide
  have h4 : sScavenge ≠ o := by rintro rfl; revert hk; decide
  have h5 : sBoot ≠ o := by rintro rfl; revert hk; decide
  simp [getS, wantL, h1, h2, h3, h4, h5]

set_option maxHeartbeats 4000000 in
set_option maxRecDepth 100000 in
theorem of_invoke {w : World}  (f : List Bs) (A : Option Addr) (c : Nat) (hv : StrsAt w (.slice A (f.length + 1) c) (sInvoke :: f)) (hl : ∀ x ∈ f, x.length ≤ 1000000) (hN : f.length ≤ 1000000) (E : Env w) :
    Calls Tryz.prog 25 #[.slice A (f.length + 1) c] w (OfPost w (sInvoke :: f)) := by
  obtain ⟨lb, lo, rfl, _, c0⟩ := hv.cell (k := 0) (x := sInvoke) rfl
  obtain ⟨W0, hW0⟩ : ∃ W, W = w.alloc (.cells zCs 40) := ⟨_, rfl⟩
  have hc0 : W0.cell? ⟨lb, lo, none⟩ = some (.string (mk sInvoke)) := by
    rw [hW0, World.cell?_alloc_lt _ _ _ (lt_of_cell c0)]; exact c0
  have hcl := lt_of_cell hc0
  have hz0 : Blk W0 w.heap.size 40 zCs := by rw [hW0]; exact Blk.new _ _ _
  have hb0 : Below w.heap.size w W0 := by rw [hW0]; exact (Below.refl _ _).alloc (Nat.le_refl _) _
  obtain ⟨W2, W3, W4, W5, W6, r2, r3, r4, r5, r6, hb6, hlk⟩ := want_any W0
  have hlk6 := hlk sInvoke
  rw [show getS wantL sInvoke = none from rfl] at hlk6
  have hcap : f.length + 1 ≤ c := by
    obtain ⟨A', c', e, h2, _⟩ := hv
    cases e; exact h2
  have hc6 : W6.cell? ⟨lb, lo, none⟩ = some (.string (mk sInvoke)) := by
    rw [hb6.cell (p := ⟨lb, lo, none⟩) hcl]; exact hc0
  have hmm := @run_makeMap Tryz.prog
  obtain ⟨len, hlen⟩ : ∃ n, n = f.length + 1 := ⟨_, rfl⟩
  obtain ⟨m, hm⟩ : ∃ m, m = f.length := ⟨_, rfl⟩
  obtain ⟨A2, hA2⟩ : ∃ A2, (if c = 1 then some (⟨lb, lo, none⟩ : Addr) else some ⟨lb, lo + 1, none⟩) = A2 := ⟨_, rfl⟩
  obtain ⟨c2, hc2⟩ : ∃ c2, c - 1 = c2 := ⟨_, rfl⟩
  have hf0 : StrsAt w (.slice A2 m c2) f := by rw [← hA2, ← hc2, hm]; exact tail_at hv hcap
  have hml : len - 1 = m := by omega
  have hbd6 : Below w.heap.size w W6 := hb0.trans (hb6.mono hb0.size)
  have HI := Lib.hid (And.intro hb6 (And.intro hbd6 (And.intro (hz0.below hb6 hz0.lt) (And.intro hf0 (And.intro E (And.intro hl (And.intro hm (And.intro hN (And.intro hz0 hc6)))))))))
  rw [← hlen] at hv hcap ⊢
  have hi1 : (1 : Int) ≤ (len : Int) := by omega
  have hi0 : 0 < len := by omega
  clear hlen hlk hv hl hb0 hz0 hf0 hbd6 E hm hN c0 hc0 hcl hcap
  go_enter Tryz.func25, Tryz.ntmps25
  go_upto_region 1 with fail
  rw [← hW0]
  clear hW0
  go_upto_region 2 with fail
  clear hA2 hml hc2 hi1
  go_wp2_with fail
  refine (kinds_any _).mono ?_; rintro e w4 ⟨rfl, hb4⟩
  go_upto_region 8 with fail
  obtain ⟨W, hW⟩ : ∃ W, W = w4.alloc (.cells #[.string (mk sNone), .string (mk sInvoke), .string (mk sPick), .string (mk sEvict), .string (mk sCrash), .string (mk sOpen), .string (mk sScavenge), .string (mk sBoot)] 92) := ⟨_, rfl⟩
  have HK := Lib.hid (of_kinds hW hb4 HI.out.2.1 HI.out.2.2.1 HI.out.2.2.2.1 HI.out.2.2.2.2.1)
  have hcW : W.cell? ⟨lb, lo, none⟩ = some (.string (mk sInvoke)) := by
    have hlt := lt_of_cell HI.out.2.2.2.2.2.2.2.2.2
    rw [hW, World.cell?_alloc_lt _ _ _ (Nat.lt_of_lt_of_le hlt hb4.size), hb4.cell (p := ⟨lb, lo, none⟩) hlt]; exact HI.out.2.2.2.2.2.2.2.2.2
  have hz := HK.out.2.1.cell 0
  have hzf := HK.out.2.1.frozen 0
  have hix : idx sInvoke kindsL 0 = 1 := by decide
  rw [← hW]
  clear hW hb4 hc6
  go_region_with (first | (go_at_call 48; refine (index_any (l := kindsL) sInvoke (kinds_row HK.out.1.drew) (by decide)).mono ?_; rintro e w5 ⟨rfl, rfl⟩; rw [hix]))
  obtain ⟨X, hX⟩ : ∃ X, X = (W.setCell ⟨w.heap.size, 0, none⟩ (.int .i64 1)).drew := ⟨_, rfl⟩
  have HX := Lib.hid (of_stored hX HK.out.2.1 HI.out.2.2.2.1 HI.out.2.2.2.2.1 HK.out.2.2.2.2.1)
  rw [← hX]
  clear hX hz hzf hcW hix
  obtain ⟨d0, d1, d2, d3, d4, d5, d6, d7, d8, d9⟩ := acCells HX.out.1
  have z0 := HX.out.1.frozen 0
  have z1 := HX.out.1.frozen 1
  have z2 := HX.out.1.frozen 2
  have z3 := HX.out.1.frozen 3
  have z4 := HX.out.1.frozen 4
  have z5 := HX.out.1.frozen 5
  have z6 := HX.out.1.frozen 6
  have z7 := HX.out.1.frozen 7
  have z8 := HX.out.1.frozen 8
  have z9 := HX.out.1.frozen 9
  match f with
  | [] =>
    have hm0 : m = 0 := HI.out.2.2.2.2.2.2.1
    subst hm0
    go_wp2_with fail
    refine (check_no _ _).mono ?_; rintro e w3 ⟨rfl, rfl⟩
    refine ⟨rfl, HX.out.2.2.2, ?_⟩
    rw [ofL_invoke_nil]
  | x :: r =>
    have hmr : m = r.length + 1 := HI.out.2.2.2.2.2.2.1
    have hi2 : 0 < m := by omega
    have hi3 : (0 : Int) < (m : Int) := by omega
    have hi4 : (1 : Int) ≤ (m : Int) := by omega
    obtain ⟨xb, xo, rfl, hmq, cx⟩ := HX.out.2.1.cell (k := 0) (x := x) rfl
    clear cx hmq
    have hcap2 : m ≤ c2 := by
      obtain ⟨A', c', e, h2, _⟩ := HI.out.2.2.2.1
      cases e; rw [hmr]; exact h2
    obtain ⟨A3, hA3⟩ : ∃ A3, (if c2 = 1 then some (⟨xb, xo, none⟩ : Addr) else some ⟨xb, xo + 1, none⟩) = A3 := ⟨_, rfl⟩
    obtain ⟨c3, hc3⟩ : ∃ c3, c2 - 1 = c3 := ⟨_, rfl⟩
    obtain ⟨m1, hm1⟩ : ∃ m1, m - 1 = m1 := ⟨_, rfl⟩
    have hr0 : StrsAt w (.slice A3 m1 c3) r := by
      have h := HI.out.2.2.2.1
      rw [hmr] at h hcap2
      rw [← hA3, ← hc3, ← hm1, hmr]
      exact tail_at h hcap2
    have HR := Lib.hid hr0; clear hr0 hmr hcap2
    have hS : ∀ wx, Below w.heap.size w wx → (wx.cell? ⟨xb, xo, none⟩ = some (.string (mk x)) ∧ Below w.heap.size w wx) := fun wx hk => by
      obtain ⟨b, o', e, _, c0⟩ := (HI.out.2.2.2.1.next hk).cell (k := 0) (x := x) rfl
      cases e
      exact ⟨c0, hk⟩
    have HS := Lib.hid hS; clear hS
    have hq0 : Below w.heap.size w X.drew := HX.out.2.2.2.drew
    have hqb := HX.out.1.drew
    go_upto_region 12 with fail
    go_wp2_with fail
    refine (check_yes _ _).mono ?_; rintro e w3 ⟨rfl, rfl⟩
    go_upto_region 13 with fail
    clear d0 d1 d2 d3 d4 d5 d6 d7 d8 d9 z0 z1 z2 z3 z4 z5 z6 z7 z8 z9
    cases hax : whole x 0 1099511627776 with
    | none =>
      have HA := Lib.hid hax; clear hax
      have HQ := Lib.hid (show ofL (sInvoke :: x :: r) = none by rw [ofL_invoke, HA.out])
      obtain ⟨c0, _⟩ := HS.out X HX.out.2.2.2
      have q1 : X.cell? ⟨w.heap.size, 1, none⟩ = some (.int .i64 0) := HX.out.1.cell 1
      have p1 := HX.out.1.frozen 1
      have q2 : X.cell? ⟨w.heap.size, 2, none⟩ = some (.int .i64 0) := HX.out.1.cell 2
      have p2 := HX.out.1.frozen 2
      have q3 : X.cell? ⟨w.heap.size, 3, none⟩ = some (.int .u64 0) := HX.out.1.cell 3
      have p3 := HX.out.1.frozen 3
      have q4 : X.cell? ⟨w.heap.size, 4, none⟩ = some (.int .u64 0) := HX.out.1.cell 4
      have p4 := HX.out.1.frozen 4
      have q5 : X.cell? ⟨w.heap.size, 5, none⟩ = some (.int .i64 0) := HX.out.1.cell 5
      have p5 := HX.out.1.frozen 5
      have q6 : X.cell? ⟨w.heap.size, 6, none⟩ = some (.string ⟨#[]⟩) := HX.out.1.cell 6
      have p6 := HX.out.1.frozen 6
      go_region_with (first
        | (go_at_call 49
           refine calls_absurd hF (.agg #[.int .i64 0, .int .u64 0, .int .u64 0, .int .i64 0, .string ⟨#[]⟩]) ?_)
        | (go_at_call 23
           refine calls_panics (.int .i64 0) (whole_any x (HI.out.2.2.2.2.2.1 x (by simp)) 0 1099511627776 (by decide) (by decide) (by decide) (by decide) (HI.out.2.2.2.2.1.next hq0)) ?_ (fun hF => ?_)
           · rintro e w6 ⟨hb6, he⟩
             rw [show whole x 0 1099511627776 = none from HA.out] at he
             obtain rfl := he
             refine ⟨_, rfl, rfl, hq0.trans (hb6.mono hq0.size), ?_⟩
             rw [HQ.out]))
      all_goals exact hF.out.elim
    | some v1 =>
      have HA := Lib.hid hax; clear hax
      cases hay : ofCall r with
      | none =>
        have HB := Lib.hid hay; clear hay
        have HQ := Lib.hid (show ofL (sInvoke :: x :: r) = none by rw [ofL_invoke, HA.out, HB.out])
        obtain ⟨c0, _⟩ := HS.out X HX.out.2.2.2
        go_region_with (first
          | (go_at_call 23
             with_reducible refine (whole_any x (HI.out.2.2.2.2.2.1 x (by simp)) 0 1099511627776 (by decide) (by decide) (by decide) (by decide) (HI.out.2.2.2.2.1.next hq0)).mono ?_
             rintro e w6 ⟨hb6, he⟩
             rw [show whole x 0 1099511627776 = some v1 from HA.out] at he
             obtain rfl := he
             have K6 : Below w.heap.size w w6 := Below.trans hq0 (hb6.mono hq0.size)
             have B6 := hqb.below hb6 hqb.lt
             have q1 : w6.cell? ⟨w.heap.size, 1, none⟩ = some (.int .i64 0) := B6.cell 1
             have p1 := B6.frozen 1
             have q2 : w6.cell? ⟨w.heap.size, 2, none⟩ = some (.int .i64 0) := B6.cell 2
             have p2 := B6.frozen 2
             have q3 : w6.cell? ⟨w.heap.size, 3, none⟩ = some (.int .u64 0) := B6.cell 3
             have p3 := B6.frozen 3
             have q4 : w6.cell? ⟨w.heap.size, 4, none⟩ = some (.int .u64 0) := B6.cell 4
             have p4 := B6.frozen 4
             have q5 : w6.cell? ⟨w.heap.size, 5, none⟩ = some (.int .i64 0) := B6.cell 5
             have p5 := B6.frozen 5
             have q6 : w6.cell? ⟨w.heap.size, 6, none⟩ = some (.string ⟨#[]⟩) := B6.cell 6
             have p6 := B6.frozen 6)
          | (go_at_call 49
             refine calls_panics (.agg #[.int .i64 0, .int .u64 0, .int .u64 0, .int .i64 0, .string ⟨#[]⟩]) (ofCall_any r (.slice A3 m1 c3) (HR.out.next K6) (fun z hz => HI.out.2.2.2.2.2.1 z (List.mem_cons_of_mem _ hz)) (by have := HI.out.2.2.2.2.2.2.2.1; simp at this; omega) (HI.out.2.2.2.2.1.next K6)) ?_ (fun hF => ?_)
             · rintro e w7 ⟨hb7, he⟩
               rw [HB.out] at he
               obtain rfl := he
               refine ⟨_, rfl, rfl, K6.trans (hb7.mono K6.size), ?_⟩
               rw [HQ.out]))
        all_goals exact hF.out.elim
      | some y =>
        have HB := Lib.hid hay; clear hay
        obtain ⟨yo, yk, yh, yl, yv⟩ := y
        have HQ := Lib.hid (show ofL (sInvoke :: x :: r) = some (⟨1, v1, ⟨yo, yk, yh, yl, yv⟩, 0, 0, []⟩, 1) by rw [ofL_invoke, HA.out, HB.out])
        go_region_held3 (fun wx => wx.cell? ⟨xb, xo, none⟩ = some (.string (mk x)) ∧ Below w.heap.size w wx)
          (first | (with_reducible exact HS.out _ (by assumption)) | (with_reducible exact HS.out _ (K7.setCell (p := ⟨w.heap.size, 1, none⟩) (Nat.le_refl _) (.int .i64 v1))) | (with_reducible exact HS.out _ ((K7.setCell (p := ⟨w.heap.size, 1, none⟩) (Nat.le_refl _) (.int .i64 v1)).setCell (p := ⟨w.heap.size, 2, none⟩) (Nat.le_refl _) (.int .i64 yo))) | (with_reducible exact HS.out _ (((K7.setCell (p := ⟨w.heap.size, 1, none⟩) (Nat.le_refl _) (.int .i64 v1)).setCell (p := ⟨w.heap.size, 2, none⟩) (Nat.le_refl _) (.int .i64 yo)).setCell (p := ⟨w.heap.size, 3, none⟩) (Nat.le_refl _) (.int .u64 yk))) | (with_reducible exact HS.out _ ((((K7.setCell (p := ⟨w.heap.size, 1, none⟩) (Nat.le_refl _) (.int .i64 v1)).setCell (p := ⟨w.heap.size, 2, none⟩) (Nat.le_refl _) (.int .i64 yo)).setCell (p := ⟨w.heap.size, 3, none⟩) (Nat.le_refl _) (.int .u64 yk)).setCell (p := ⟨w.heap.size, 4, none⟩) (Nat.le_refl _) (.int .u64 yh))) | (with_reducible exact HS.out _ (((((K7.setCell (p := ⟨w.heap.size, 1, none⟩) (Nat.le_refl _) (.int .i64 v1)).setCell (p := ⟨w.heap.size, 2, none⟩) (Nat.le_refl _) (.int .i64 yo)).setCell (p := ⟨w.heap.size, 3, none⟩) (Nat.le_refl _) (.int .u64 yk)).setCell (p := ⟨w.heap.size, 4, none⟩) (Nat.le_refl _) (.int .u64 yh)).setCell (p := ⟨w.heap.size, 5, none⟩) (Nat.le_refl _) (.int .i64 yl))) | (with_reducible exact HS.out _ ((((((K7.setCell (p := ⟨w.heap.size, 1, none⟩) (Nat.le_refl _) (.int .i64 v1)).setCell (p := ⟨w.heap.size, 2, none⟩) (Nat.le_refl _) (.int .i64 yo)).setCell (p := ⟨w.heap.size, 3, none⟩) (Nat.le_refl _) (.int .u64 yk)).setCell (p := ⟨w.heap.size, 4, none⟩) (Nat.le_refl _) (.int .u64 yh)).setCell (p := ⟨w.heap.size, 5, none⟩) (Nat.le_refl _) (.int .i64 yl)).setCell (p := ⟨w.heap.size, 6, none⟩) (Nat.le_refl _) (.string (mk yv)))))
          (first
            | (go_at_call 23
               with_reducible refine (whole_any x (HI.out.2.2.2.2.2.1 x (by simp)) 0 1099511627776 (by decide) (by decide) (by decide) (by decide) (HI.out.2.2.2.2.1.next hq0)).mono ?_
               rintro e w6 ⟨hb6, he⟩
               rw [show whole x 0 1099511627776 = some v1 from HA.out] at he
               obtain rfl := he
               have K6 : Below w.heap.size w w6 := Below.trans hq0 (hb6.mono hq0.size)
               have B6 := hqb.below hb6 hqb.lt)
            | (go_at_call 49
               refine (ofCall_any r (.slice A3 m1 c3) (HR.out.next K6) (fun z hz => HI.out.2.2.2.2.2.1 z (List.mem_cons_of_mem _ hz)) (by have := HI.out.2.2.2.2.2.2.2.1; simp at this; omega) (HI.out.2.2.2.2.1.next K6)).mono ?_
               rintro e w7 ⟨hb7, he⟩
               rw [HB.out] at he
               have he2 : e = .returned (.agg #[.int .i64 yo, .int .u64 yk, .int .u64 yh, .int .i64 yl, .string (mk yv)]) := he
               clear he
               obtain rfl := he2
               have K7 : Below w.heap.size w w7 := Below.trans K6 (hb7.mono K6.size)
               have B7 := B6.below hb7 B6.lt
               have q1 : w7.cell? ⟨w.heap.size, 1, none⟩ = some (.int .i64 0) := B7.cell 1
               have p1 := B7.frozen 1
               have q2 : w7.cell? ⟨w.heap.size, 2, none⟩ = some (.int .i64 0) := B7.cell 2
               have p2 := B7.frozen 2
               have q3 : w7.cell? ⟨w.heap.size, 3, none⟩ = some (.int .u64 0) := B7.cell 3
               have p3 := B7.frozen 3
               have q4 : w7.cell? ⟨w.heap.size, 4, none⟩ = some (.int .u64 0) := B7.cell 4
               have p4 := B7.frozen 4
               have q5 : w7.cell? ⟨w.heap.size, 5, none⟩ = some (.int .i64 0) := B7.cell 5
               have p5 := B7.frozen 5
               have q6 : w7.cell? ⟨w.heap.size, 6, none⟩ = some (.string ⟨#[]⟩) := B7.cell 6
               have p6 := B7.frozen 6))
        have H9 := Lib.hid (And.intro (show Blk ((((((w7.setCell ⟨w.heap.size, 1, none⟩ (.int .i64 v1)).setCell ⟨w.heap.size, 2, none⟩ (.int .i64 yo)).setCell ⟨w.heap.size, 3, none⟩ (.int .u64 yk)).setCell ⟨w.heap.size, 4, none⟩ (.int .u64 yh)).setCell ⟨w.heap.size, 5, none⟩ (.int .i64 yl)).setCell ⟨w.heap.size, 6, none⟩ (.string (mk yv))) w.heap.size 40 (acC ⟨1, v1, ⟨yo, yk, yh, yl, yv⟩, 0, 0, []⟩ (.slice none 0 0)) from ((((((B7.set_ 1 (.int .i64 v1)).set_ 2 (.int .i64 yo)).set_ 3 (.int .u64 yk)).set_ 4 (.int .u64 yh)).set_ 5 (.int .i64 yl)).set_ 6 (.string (mk yv)))) ((((((K7.setCell (p := ⟨w.heap.size, 1, none⟩) (Nat.le_refl _) (.int .i64 v1)).setCell (p := ⟨w.heap.size, 2, none⟩) (Nat.le_refl _) (.int .i64 yo)).setCell (p := ⟨w.heap.size, 3, none⟩) (Nat.le_refl _) (.int .u64 yk)).setCell (p := ⟨w.heap.size, 4, none⟩) (Nat.le_refl _) (.int .u64 yh)).setCell (p := ⟨w.heap.size, 5, none⟩) (Nat.le_refl _) (.int .i64 yl)).setCell (p := ⟨w.heap.size, 6, none⟩) (Nat.le_refl _) (.string (mk yv))))
        obtain ⟨w9, hw9⟩ : ∃ w9, w9 = ((((((w7.setCell ⟨w.heap.size, 1, none⟩ (.int .i64 v1)).setCell ⟨w.heap.size, 2, none⟩ (.int .i64 yo)).setCell ⟨w.heap.size, 3, none⟩ (.int .u64 yk)).setCell ⟨w.heap.size, 4, none⟩ (.int .u64 yh)).setCell ⟨w.heap.size, 5, none⟩ (.int .i64 yl)).setCell ⟨w.heap.size, 6, none⟩ (.string (mk yv))) := ⟨_, rfl⟩
        rw [← hw9] at H9 ⊢
        clear hw9 B7 B6 K6 K7 hb6 hb7 q1 p1 q2 p2 q3 p3 q4 p4 q5 p5 q6 p6
        obtain ⟨d0, d1, d2, d3, d4, d5, d6, d7, d8, d9⟩ := acCells H9.out.1
        have z0 := H9.out.1.frozen 0
        have z1 := H9.out.1.frozen 1
        have z2 := H9.out.1.frozen 2
        have z3 := H9.out.1.frozen 3
        have z4 := H9.out.1.frozen 4
        have z5 := H9.out.1.frozen 5
        have z6 := H9.out.1.frozen 6
        have z7 := H9.out.1.frozen 7
        have z8 := H9.out.1.frozen 8
        have z9 := H9.out.1.frozen 9
        go_wp2_with fail
        refine bodyPost_ret (res_of (a := ⟨1, v1, ⟨yo, yk, yh, yl, yv⟩, 0, 0, []⟩) (put10_blk H9.out.1 rfl ⟨1, v1, ⟨yo, yk, yh, yl, yv⟩, 0, 0, []⟩ _) rfl rfl) rfl ⟨put10_below H9.out.2 (Nat.le_refl _) ⟨1, v1, ⟨yo, yk, yh, yl, yv⟩, 0, 0, []⟩ _, ?_⟩
        rw [HQ.out]
        exact ⟨_, rfl, RowR.nil _ _, Fresh.nil _⟩

set_option maxHeartbeats 4000000 in
set_option maxRecDepth 100000 in
theorem of_other {w : World} {o : Bs} (hk : idx o kindsL 0 = 0 ∨ idx o kindsL 0 = -1) (f : List Bs) (A : Option Addr) (c : Nat) (hv : StrsAt w (.slice A (f.length + 1) c) (o :: f)) (hl : ∀ x ∈ f, x.length ≤ 1000000) (hN : f.length ≤ 1000000) (E : Env w) :
    Calls Tryz.prog 25 #[.slice A (f.length + 1) c] w (OfPost w (o :: f)) := by
  obtain ⟨lb, lo, rfl, _, c0⟩ := hv.cell (k := 0) (x := o) rfl
  obtain ⟨W0, hW0⟩ : ∃ W, W = w.alloc (.cells zCs 40) := ⟨_, rfl⟩
  have hc0 : W0.cell? ⟨lb, lo, none⟩ = some (.string (mk o)) := by
    rw [hW0, World.cell?_alloc_lt _ _ _ (lt_of_cell c0)]; exact c0
  have hcl := lt_of_cell hc0
  have hz0 : Blk W0 w.heap.size 40 zCs := by rw [hW0]; exact Blk.new _ _ _
  have hb0 : Below w.heap.size w W0 := by rw [hW0]; exact (Below.refl _ _).alloc (Nat.le_refl _) _
  obtain ⟨W2, W3, W4, W5, W6, r2, r3, r4, r5, r6, hb6, hlk⟩ := want_any W0
  have hlk6 := hlk o
  rw [want_other hk] at hlk6
  obtain ⟨kv, hix⟩ : ∃ kv, idx o kindsL 0 = kv := ⟨_, rfl⟩
  have n1 : (kv == 1) = false := by simp; omega
  have n2 : (kv == 2) = false := by simp; omega
  have n3 : (kv == 3) = false := by simp; omega
  have n4 : (kv == 4) = false := by simp; omega
  have n5 : (kv == 5) = false := by simp; omega
  have n6 : (kv == 6) = false := by simp; omega
  have n7 : (kv == 7) = false := by simp; omega
  have HKO := Lib.hid hk; clear hk
  have hcap : f.length + 1 ≤ c := by
    obtain ⟨A', c', e, h2, _⟩ := hv
    cases e; exact h2
  have hc6 : W6.cell? ⟨lb, lo, none⟩ = some (.string (mk o)) := by
    rw [hb6.cell (p := ⟨lb, lo, none⟩) hcl]; exact hc0
  have hmm := @run_makeMap Tryz.prog
  obtain ⟨len, hlen⟩ : ∃ n, n = f.length + 1 := ⟨_, rfl⟩
  obtain ⟨m, hm⟩ : ∃ m, m = f.length := ⟨_, rfl⟩
  obtain ⟨A2, hA2⟩ : ∃ A2, (if c = 1 then some (⟨lb, lo, none⟩ : Addr) else some ⟨lb, lo + 1, none⟩) = A2 := ⟨_, rfl⟩
  obtain ⟨c2, hc2⟩ : ∃ c2, c - 1 = c2 := ⟨_, rfl⟩
  have hf0 : StrsAt w (.slice A2 m c2) f := by rw [← hA2, ← hc2, hm]; exact tail_at hv hcap
  have hml : len - 1 = m := by omega
  have hbd6 : Below w.heap.size w W6 := hb0.trans (hb6.mono hb0.size)
  have HI := Lib.hid (And.intro hb6 (And.intro hbd6 (And.intro (hz0.below hb6 hz0.lt) (And.intro hf0 (And.intro E (And.intro hl (And.intro hm (And.intro hN (And.intro hz0 hc6)))))))))
  rw [← hlen] at hv hcap ⊢
  have hi1 : (1 : Int) ≤ (len : Int) := by omega
  have hi0 : 0 < len := by omega
  clear hlen hlk hv hl hb0 hz0 hf0 hbd6 E hm hN c0 hc0 hcl hcap
  go_enter Tryz.func25, Tryz.ntmps25
  go_upto_region 1 with fail
  rw [← hW0]
  clear hW0
  go_upto_region 2 with fail
  clear hA2 hml hc2 hi1
  go_wp2_with fail
  refine (kinds_any _).mono ?_; rintro e w4 ⟨rfl, hb4⟩
  go_upto_region 8 with fail
  obtain ⟨W, hW⟩ : ∃ W, W = w4.alloc (.cells #[.string (mk sNone), .string (mk sInvoke), .string (mk sPick), .string (mk sEvict), .string (mk sCrash), .string (mk sOpen), .string (mk sScavenge), .string (mk sBoot)] 92) := ⟨_, rfl⟩
  have HK := Lib.hid (of_kinds hW hb4 HI.out.2.1 HI.out.2.2.1 HI.out.2.2.2.1 HI.out.2.2.2.2.1)
  have hcW : W.cell? ⟨lb, lo, none⟩ = some (.string (mk o)) := by
    have hlt := lt_of_cell HI.out.2.2.2.2.2.2.2.2.2
    rw [hW, World.cell?_alloc_lt _ _ _ (Nat.lt_of_lt_of_le hlt hb4.size), hb4.cell (p := ⟨lb, lo, none⟩) hlt]; exact HI.out.2.2.2.2.2.2.2.2.2
  have hz := HK.out.2.1.cell 0
  have hzf := HK.out.2.1.frozen 0
  rw [← hW]
  clear hW hb4 hc6
  go_region_with (first | (go_at_call 48; refine (index_any (l := kindsL) o (kinds_row HK.out.1.drew) (by decide)).mono ?_; rintro e w5 ⟨rfl, rfl⟩; rw [hix]))
  obtain ⟨X, hX⟩ : ∃ X, X = (W.setCell ⟨w.heap.size, 0, none⟩ (.int .i64 kv)).drew := ⟨_, rfl⟩
  have HX := Lib.hid (of_stored hX HK.out.2.1 HI.out.2.2.2.1 HI.out.2.2.2.2.1 HK.out.2.2.2.2.1)
  rw [← hX]
  clear hX hz hzf hcW hix
  obtain ⟨d0, d1, d2, d3, d4, d5, d6, d7, d8, d9⟩ := acCells HX.out.1
  have z0 := HX.out.1.frozen 0
  have z1 := HX.out.1.frozen 1
  have z2 := HX.out.1.frozen 2
  have z3 := HX.out.1.frozen 3
  have z4 := HX.out.1.frozen 4
  have z5 := HX.out.1.frozen 5
  have z6 := HX.out.1.frozen 6
  have z7 := HX.out.1.frozen 7
  have z8 := HX.out.1.frozen 8
  have z9 := HX.out.1.frozen 9
  go_wp2_with fail
  refine (check_no _ _).mono ?_; rintro e w3 ⟨rfl, rfl⟩
  refine ⟨rfl, HX.out.2.2.2, ?_⟩
  rw [ofL_other HKO.out f]

end Go.Proofs.YtnnahodajiolmaaGreatDoor.sc
