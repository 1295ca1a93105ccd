/-
  PROVED HERE: the law ScriptLines answers true. Conditions: numbers of their kinds; the library's tables lie (Env).
-/
import Derived.Test.YtbpbkmhipbchbaaGreatDoorScReads
import Derived.Test.YtbpbkmhipbchbaaGreatDoorScOpen
namespace Go.Proofs.YtbpbkmhipbchbaaGreatDoor.sc
open Go.RowKit
set_option linter.unusedVariables false

theorem ty_ok {a : Ac} (T : AcTy a) (hv : a.call.val.length ≤ 300) (hk : a.keep.length ≤ 30) : AcOk a :=
  ⟨T.kind, T.client, ⟨T.op, T.key, T.hi, T.lim, by omega⟩, T.at_, T.n, by omega, T.keep⟩
theorem ty_typed {a : Ac} (T : AcTy a) : Typed a := ⟨T.key, T.hi, T.at_⟩
theorem line_short {a : Ac} (T : AcTy a) (hv : a.call.val.length ≤ 300) (hk : a.keep.length ≤ 30) (n : Int) (hn : I64 n) : (lineL a n).length ≤ 36 * 623 :=
  Nat.le_trans (line_le a n (ty_ok T hv hk) hn) (Nat.mul_le_mul (by omega) (by omega))
theorem lineOk_iff (a : Ac) (n : Int) (T : Typed a) : lineOk a n = true ↔ mayAct a = true ∧ 1 ≤ n ∧ n ≤ 100000 ∧ (n ≤ 1 ∨ again a = true) := by
  unfold lineOk
  rw [may_iff T]
  simp only [Bool.and_eq_true, Bool.or_eq_true, decide_eq_true_eq]
  constructor
  · rintro ⟨⟨⟨h1, h2⟩, h3⟩, h4⟩; exact ⟨h1, h2, h3, h4⟩
  · rintro ⟨h1, h2, h3, h4⟩; exact ⟨⟨⟨h1, h2⟩, h3⟩, h4⟩
theorem line_read {a : Ac} {n : Int} (T : Typed a) (h : lineOk a n = true) : lineOf (lineL a n) = some (a, n) := by
  obtain ⟨h1, h2, h3, h4⟩ := (lineOk_iff a n T).1 h
  exact lineOf_line ((mayAct_iff a).1 h1) T n ⟨h2, h3, fun hg => by
    rcases h4 with h4 | h4
    · omega
    · rw [hg] at h4; cases h4⟩

set_option maxHeartbeats 4000000 in
set_option maxRecDepth 100000 in
theorem lines_long {w : World} (a : Ac) (A : Option Addr) (c : Nat) (n : Int) (h : 300 < a.call.val.length ∨ 30 < a.keep.length) (E : Env w) :
    Calls Tryz.prog 5 #[.agg (acC a (.slice A a.keep.length c)), .int .i64 n] w fun e w' => e = .returned (.bool true) ∧ Below w.heap.size w w' := by
  obtain ⟨kind, client, ⟨op, key, hi, lim, val⟩, at_, an, keep⟩ := a
  simp only at h
  obtain ⟨W, hW⟩ : ∃ W, W = w.alloc (.cells (acC ⟨kind, client, ⟨op, key, hi, lim, val⟩, at_, an, keep⟩ (.slice A keep.length c)) 31) := ⟨_, rfl⟩
  have hN : Blk W w.heap.size 31 (acC ⟨kind, client, ⟨op, key, hi, lim, val⟩, at_, an, keep⟩ (.slice A keep.length c)) := by rw [hW]; exact Blk.new _ _ _
  have hB : Below w.heap.size w W := by rw [hW]; exact (Below.refl _ _).alloc (Nat.le_refl _) _
  have HI := Lib.hid (And.intro hB (E.next hB))
  obtain ⟨d0, d1, d2, d3, d4, d5, d6, d7, d8, d9⟩ := acCells hN
  dsimp only at d0 d1 d2 d3 d4 d5 d6 d7 d8 d9
  have hs : (mk val).size = val.length := mk_size _
  clear hN hB E
  by_cases h3 : 300 < val.length
  · have i3 : (300 : Int) < (val.length : Int) := by omega
    clear h
    go_enter Tryz.func5, Tryz.ntmps5
    go_upto_region 1 with fail
    rw [← hW]
    clear hW
    go_wp2_with fail
    refine (known_any HI.out.2).mono ?_; rintro e w2 ⟨rfl, hb2⟩
    go_wp2_with fail
    go_ret
    exact ⟨rfl, HI.out.1.trans (hb2.mono HI.out.1.size)⟩
  · have i3 : ¬ (300 : Int) < (val.length : Int) := by omega
    have h4 : 30 < keep.length := by omega
    have i4 : (30 : Int) < (keep.length : Int) := by omega
    clear h
    go_enter Tryz.func5, Tryz.ntmps5
    go_upto_region 1 with fail
    rw [← hW]
    clear hW
    go_wp2_with fail
    refine (known_any HI.out.2).mono ?_; rintro e w2 ⟨rfl, hb2⟩
    go_wp2_with fail
    go_ret
    exact ⟨rfl, HI.out.1.trans (hb2.mono HI.out.1.size)⟩

set_option maxHeartbeats 8000000 in
set_option maxRecDepth 100000 in
theorem lines_short {w : World} (a : Ac) (A : Option Addr) (c : Nat) (n : Int) (hrow : RowR w (.slice A a.keep.length c) a.keep.length 1 (a.keep.map (Value.int .i64))) (T : AcTy a) (hn : I64 n) (hv : a.call.val.length ≤ 300) (hk : a.keep.length ≤ 30) (E : Env w) (q : Bool) (hq : lineOk a n = q) :
    Calls Tryz.prog 5 #[.agg (acC a (.slice A a.keep.length c)), .int .i64 n] w fun e w' => e = .returned (.bool true) ∧ Below w.heap.size w w' := by
  have HO := Lib.hid (And.intro (ty_ok T hv hk) (And.intro (ty_typed T) (And.intro (line_short T hv hk 1 ⟨by decide, by decide⟩) (And.intro (line_short T hv hk n hn) (And.intro hn (And.intro hv hk))))))
  have HQ := Lib.hid hq; clear hq T
  obtain ⟨kind, client, ⟨op, key, hi, lim, val⟩, at_, an, keep⟩ := a
  simp only at hv hk hrow
  obtain ⟨W, hW⟩ : ∃ W, W = w.alloc (.cells (acC ⟨kind, client, ⟨op, key, hi, lim, val⟩, at_, an, keep⟩ (.slice A keep.length c)) 31) := ⟨_, rfl⟩
  have hN : Blk W w.heap.size 31 (acC ⟨kind, client, ⟨op, key, hi, lim, val⟩, at_, an, keep⟩ (.slice A keep.length c)) := by rw [hW]; exact Blk.new _ _ _
  have hB : Below w.heap.size w W := by rw [hW]; exact (Below.refl _ _).alloc (Nat.le_refl _) _
  have HI := Lib.hid (And.intro hN (And.intro hB (And.intro (E.next hB) (hrow.next hB))))
  obtain ⟨d0, d1, d2, d3, d4, d5, d6, d7, d8, d9⟩ := acCells hN
  dsimp only at d0 d1 d2 d3 d4 d5 d6 d7 d8 d9
  have hs : (mk val).size = val.length := mk_size _
  have i3 : ¬ (300 : Int) < (val.length : Int) := by omega
  have i4 : ¬ (30 : Int) < (keep.length : Int) := by omega
  have i3' : ¬ 300 < val.length := by omega
  have i4' : ¬ 30 < keep.length := by omega
  clear hN hB E hn hv hk hrow
  go_enter Tryz.func5, Tryz.ntmps5
  go_upto_region 1 with fail
  rw [← hW]
  clear hW
  go_wp2_with fail
  refine (line_any ⟨kind, client, ⟨op, key, hi, lim, val⟩, at_, an, keep⟩ (.slice A keep.length c) n HO.out.2.2.2.2.1 HI.out.2.2.2 HO.out.1 (Nat.le_trans HO.out.2.2.1 (by decide)) (Nat.le_trans HO.out.2.2.2.1 (by decide)) HI.out.2.2.1).mono ?_; rintro e w1 ⟨hb1, he⟩
  rw [HQ.out] at he
  obtain ⟨s, hs'⟩ : ∃ s, s = lineL ⟨kind, client, ⟨op, key, hi, lim, val⟩, at_, an, keep⟩ n := ⟨_, rfl⟩
  rw [← hs'] at he
  have HSS := Lib.hid hs'; clear hs'
  have H1 := Lib.hid hb1; clear hb1 d0 d1 d2 d3 d4 d5 d6 d7 d8 d9
  obtain ⟨d0, d1, d2, d3, d4, d5, d6, d7, d8, d9⟩ := acCells (HI.out.1.below H1.out HI.out.1.lt)
  dsimp only at d0 d1 d2 d3 d4 d5 d6 d7 d8 d9
  clear hs i3 i4 i3' i4'
  obtain ⟨m, hm⟩ : ∃ m, m = mayAct ⟨kind, client, ⟨op, key, hi, lim, val⟩, at_, an, keep⟩ := ⟨_, rfl⟩
  obtain ⟨g, hg⟩ : ∃ g, g = again ⟨kind, client, ⟨op, key, hi, lim, val⟩, at_, an, keep⟩ := ⟨_, rfl⟩
  have HM := Lib.hid hm
  have HG := Lib.hid hg
  have HIFF := lineOk_iff ⟨kind, client, ⟨op, key, hi, lim, val⟩, at_, an, keep⟩ n HO.out.2.1
  rw [HQ.out, ← hm, ← hg] at HIFF
  have HIF := Lib.hid HIFF; clear HIFF hm hg
  cases q with
  | false =>
    obtain rfl := he
    go_wp2_with fail
    refine (rMayAct_any ⟨kind, client, ⟨op, key, hi, lim, val⟩, at_, an, keep⟩ (.slice A keep.length c) (HI.out.2.2.2.next H1.out) (by have := HO.out.2.2.2.2.2.2; exact Nat.le_trans this (by omega))).mono ?_; rintro e w2 ⟨he, hb2⟩
    rw [← HM.out] at he
    obtain rfl := he
    have H2 := Lib.hid (H1.out.trans (hb2.mono H1.out.size)); clear hb2 d0 d1 d2 d3 d4 d5 d6 d7 d8 d9
    obtain ⟨d0, d1, d2, d3, d4, d5, d6, d7, d8, d9⟩ := acCells (HI.out.1.below H2.out HI.out.1.lt)
    dsimp only at d0 d1 d2 d3 d4 d5 d6 d7 d8 d9
    cases m with
    | false =>
      go_wp2_with fail
      refine (known_any (HI.out.2.2.1.next H2.out)).mono ?_; rintro e w3 ⟨rfl, hb3⟩
      have H3 := Lib.hid (H2.out.trans (hb3.mono H2.out.size)); clear hb3
      go_wp2_with fail
      go_ret
      exact ⟨rfl, HI.out.2.1.trans (H3.out.mono HI.out.2.1.size)⟩
    | true =>
      by_cases n1 : n < 1
      · go_wp2_with fail
        refine (known_any (HI.out.2.2.1.next H2.out)).mono ?_; rintro e w3 ⟨rfl, hb3⟩
        have H3 := Lib.hid (H2.out.trans (hb3.mono H2.out.size)); clear hb3
        go_wp2_with fail
        go_ret
        exact ⟨rfl, HI.out.2.1.trans (H3.out.mono HI.out.2.1.size)⟩
      by_cases n2 : 100000 < n
      · go_wp2_with fail
        refine (known_any (HI.out.2.2.1.next H2.out)).mono ?_; rintro e w3 ⟨rfl, hb3⟩
        have H3 := Lib.hid (H2.out.trans (hb3.mono H2.out.size)); clear hb3
        go_wp2_with fail
        go_ret
        exact ⟨rfl, HI.out.2.1.trans (H3.out.mono HI.out.2.1.size)⟩
      have n3 : 1 < n := by
        rcases Int.lt_or_le 1 n with h | h
        · exact h
        · exact absurd (HIF.out.2 ⟨by trivial, by omega, by omega, .inl h⟩) (by decide)
      have hgf : g = false := by
        cases hgg : g with
        | false => rfl
        | true => exact absurd (HIF.out.2 ⟨by trivial, by omega, by omega, .inr hgg⟩) (by decide)
      have HGF := Lib.hid hgf; clear hgf
      go_wp2_with fail
      refine (rAgain_any ⟨kind, client, ⟨op, key, hi, lim, val⟩, at_, an, keep⟩ A keep.length c).mono ?_; rintro e w3 ⟨he, hb3⟩
      rw [← HG.out, HGF.out] at he
      obtain rfl := he
      have H3 := Lib.hid (H2.out.trans (hb3.mono H2.out.size)); clear hb3
      go_wp2_with fail
      refine (known_any (HI.out.2.2.1.next H3.out)).mono ?_; rintro e w4 ⟨rfl, hb4⟩
      have H4 := Lib.hid (H3.out.trans (hb4.mono H3.out.size)); clear hb4
      go_wp2_with fail
      go_ret
      exact ⟨rfl, HI.out.2.1.trans (H4.out.mono HI.out.2.1.size)⟩
  | true =>
    obtain rfl := he
    have hif := HIF.out.1 rfl
    have n1 : ¬ n < 1 := by omega
    have n2 : ¬ 100000 < n := by omega
    have HMT := Lib.hid hif; clear hif
    go_wp2_with fail
    refine (rMayAct_any ⟨kind, client, ⟨op, key, hi, lim, val⟩, at_, an, keep⟩ (.slice A keep.length c) (HI.out.2.2.2.next H1.out) (by have := HO.out.2.2.2.2.2.2; exact Nat.le_trans this (by omega))).mono ?_; rintro e w2 ⟨he, hb2⟩
    rw [← HM.out, HMT.out.1] at he
    obtain rfl := he
    have H2 := Lib.hid (H1.out.trans (hb2.mono H1.out.size)); clear hb2 d0 d1 d2 d3 d4 d5 d6 d7 d8 d9
    obtain ⟨d0, d1, d2, d3, d4, d5, d6, d7, d8, d9⟩ := acCells (HI.out.1.below H2.out HI.out.1.lt)
    dsimp only at d0 d1 d2 d3 d4 d5 d6 d7 d8 d9
    by_cases n3 : 1 < n
    · have hgt : g = true := by
        rcases HMT.out.2.2.2 with h | h
        · omega
        · exact h
      have HGT := Lib.hid hgt; clear hgt
      go_wp2_with fail
      refine (rAgain_any ⟨kind, client, ⟨op, key, hi, lim, val⟩, at_, an, keep⟩ A keep.length c).mono ?_; rintro e w3 ⟨he, hb3⟩
      rw [← HG.out, HGT.out] at he
      obtain rfl := he
      have H3 := Lib.hid (H2.out.trans (hb3.mono H2.out.size)); clear hb3
      have HWC := Lib.hid H3.out; clear d0 d1 d2 d3 d4 d5 d6 d7 d8 d9
      go_wp2_with fail
      refine (ofLine_one s (by have := HSS.out; have h2 := HO.out.2.2.2.1; rw [← this] at h2; omega) (HI.out.2.2.1.next HWC.out)).mono ?_; rintro e w4 ⟨hb4, a2, n2', er2, kv2, rfl, hrow2, hres2⟩
      rw [HSS.out, line_read HO.out.2.1 HQ.out] at hres2
      simp only [Prod.mk.injEq] at hres2
      obtain ⟨hra, hrn, hre⟩ := hres2; subst a2; subst n2'; subst er2
      obtain ⟨kA2, kc2, rfl⟩ := hrow2.len
      have H4 := Lib.hid (And.intro (HWC.out.trans (hb4.mono HWC.out.size)) hrow2); clear hb4 hrow2
      unfold acC
      go_upto_region 7 with fail
      obtain ⟨W4, hW4⟩ : ∃ W4, W4 = w4.alloc (.cells #[.int .i64 kind, .int .i64 client, .int .i64 op, .int .u64 key, .int .u64 hi, .int .i64 lim, .string (mk val), .int .u64 at_, .int .i64 an, .slice kA2 keep.length kc2] 31) := ⟨_, rfl⟩
      have hA4 : Blk W4 w4.heap.size 31 (acC ⟨kind, client, ⟨op, key, hi, lim, val⟩, at_, an, keep⟩ (.slice kA2 keep.length kc2)) := by rw [hW4]; exact Blk.new _ _ _
      have hB4 : Below W.heap.size W W4 := by rw [hW4]; exact H4.out.1.alloc H4.out.1.size _
      have hR4 : RowR W4 (.slice kA2 keep.length kc2) keep.length 1 (keep.map (Value.int .i64)) := by rw [hW4]; exact H4.out.2.next ((Below.refl _ _).alloc (Nat.le_refl _) _)
      have HW4 := Lib.hid (And.intro hA4 (And.intro hB4 hR4)); clear hA4 hB4 hR4
      rw [← hW4]
      clear hW4
      obtain ⟨d0, d1, d2, d3, d4, d5, d6, d7, d8, d9⟩ := acCells (HI.out.1.below HW4.out.2.1 HI.out.1.lt)
      dsimp only at d0 d1 d2 d3 d4 d5 d6 d7 d8 d9
      go_wp2_with fail
      refine (rLine_any ⟨kind, client, ⟨op, key, hi, lim, val⟩, at_, an, keep⟩ (.slice A keep.length c) n (HI.out.2.2.2.next HW4.out.2.1) ((mayAct_iff _).1 (HM.out.symm.trans HMT.out.1)) HO.out.2.1 (Nat.le_trans HO.out.2.2.2.2.2.1 (by decide)) (Nat.le_trans HO.out.2.2.2.2.2.2 (by decide)) ⟨by have := HMT.out.2.1; omega, by have := HMT.out.2.2.1; omega⟩).mono ?_; rintro e w5 ⟨rfl, hb5⟩
      rw [← HSS.out]
      have H5 := Lib.hid (And.intro (HW4.out.2.1.trans (hb5.mono HW4.out.2.1.size)) (And.intro (HW4.out.1.below hb5 HW4.out.1.lt) (HW4.out.2.2.next hb5))); clear hb5 d0 d1 d2 d3 d4 d5 d6 d7 d8 d9
      obtain ⟨d0, d1, d2, d3, d4, d5, d6, d7, d8, d9⟩ := acCells (HI.out.1.below H5.out.1 HI.out.1.lt)
      obtain ⟨f0, f1, f2, f3, f4, f5, f6, f7, f8, f9⟩ := acCells H5.out.2.1
      dsimp only at d0 d1 d2 d3 d4 d5 d6 d7 d8 d9 f0 f1 f2 f3 f4 f5 f6 f7 f8 f9
      go_wp2_with fail
      refine (rSame_any ⟨kind, client, ⟨op, key, hi, lim, val⟩, at_, an, keep⟩ ⟨kind, client, ⟨op, key, hi, lim, val⟩, at_, an, keep⟩ (.slice A keep.length c) (.slice kA2 keep.length kc2) (HI.out.2.2.2.next H5.out.1) H5.out.2.2 (Nat.le_trans HO.out.2.2.2.2.2.2 (by decide))).mono ?_; rintro e w6 ⟨he, hb6⟩
      rw [decide_eq_true rfl] at he
      obtain rfl := he
      have H6 := Lib.hid (H5.out.1.trans (hb6.mono H5.out.1.size)); clear hb6 d0 d1 d2 d3 d4 d5 d6 d7 d8 d9 f0 f1 f2 f3 f4 f5 f6 f7 f8 f9
      go_wp2_with fail
      refine (known_any (HI.out.2.2.1.next H6.out)).mono ?_; rintro e w7 ⟨rfl, hb7⟩
      go_wp2_with fail
      go_ret
      exact ⟨rfl, HI.out.2.1.trans ((H6.out.trans (hb7.mono H6.out.size)).mono HI.out.2.1.size)⟩
    · have HWC := Lib.hid H2.out; clear d0 d1 d2 d3 d4 d5 d6 d7 d8 d9
      go_wp2_with fail
      refine (ofLine_one s (by have := HSS.out; have h2 := HO.out.2.2.2.1; rw [← this] at h2; omega) (HI.out.2.2.1.next HWC.out)).mono ?_; rintro e w4 ⟨hb4, a2, n2', er2, kv2, rfl, hrow2, hres2⟩
      rw [HSS.out, line_read HO.out.2.1 HQ.out] at hres2
      simp only [Prod.mk.injEq] at hres2
      obtain ⟨hra, hrn, hre⟩ := hres2; subst a2; subst n2'; subst er2
      obtain ⟨kA2, kc2, rfl⟩ := hrow2.len
      have H4 := Lib.hid (And.intro (HWC.out.trans (hb4.mono HWC.out.size)) hrow2); clear hb4 hrow2
      unfold acC
      go_upto_region 7 with fail
      obtain ⟨W4, hW4⟩ : ∃ W4, W4 = w4.alloc (.cells #[.int .i64 kind, .int .i64 client, .int .i64 op, .int .u64 key, .int .u64 hi, .int .i64 lim, .string (mk val), .int .u64 at_, .int .i64 an, .slice kA2 keep.length kc2] 31) := ⟨_, rfl⟩
      have hA4 : Blk W4 w4.heap.size 31 (acC ⟨kind, client, ⟨op, key, hi, lim, val⟩, at_, an, keep⟩ (.slice kA2 keep.length kc2)) := by rw [hW4]; exact Blk.new _ _ _
      have hB4 : Below W.heap.size W W4 := by rw [hW4]; exact H4.out.1.alloc H4.out.1.size _
      have hR4 : RowR W4 (.slice kA2 keep.length kc2) keep.length 1 (keep.map (Value.int .i64)) := by rw [hW4]; exact H4.out.2.next ((Below.refl _ _).alloc (Nat.le_refl _) _)
      have HW4 := Lib.hid (And.intro hA4 (And.intro hB4 hR4)); clear hA4 hB4 hR4
      rw [← hW4]
      clear hW4
      obtain ⟨d0, d1, d2, d3, d4, d5, d6, d7, d8, d9⟩ := acCells (HI.out.1.below HW4.out.2.1 HI.out.1.lt)
      dsimp only at d0 d1 d2 d3 d4 d5 d6 d7 d8 d9
      go_wp2_with fail
      refine (rLine_any ⟨kind, client, ⟨op, key, hi, lim, val⟩, at_, an, keep⟩ (.slice A keep.length c) n (HI.out.2.2.2.next HW4.out.2.1) ((mayAct_iff _).1 (HM.out.symm.trans HMT.out.1)) HO.out.2.1 (Nat.le_trans HO.out.2.2.2.2.2.1 (by decide)) (Nat.le_trans HO.out.2.2.2.2.2.2 (by decide)) ⟨by have := HMT.out.2.1; omega, by have := HMT.out.2.2.1; omega⟩).mono ?_; rintro e w5 ⟨rfl, hb5⟩
      rw [← HSS.out]
      have H5 := Lib.hid (And.intro (HW4.out.2.1.trans (hb5.mono HW4.out.2.1.size)) (And.intro (HW4.out.1.below hb5 HW4.out.1.lt) (HW4.out.2.2.next hb5))); clear hb5 d0 d1 d2 d3 d4 d5 d6 d7 d8 d9
      obtain ⟨d0, d1, d2, d3, d4, d5, d6, d7, d8, d9⟩ := acCells (HI.out.1.below H5.out.1 HI.out.1.lt)
      obtain ⟨f0, f1, f2, f3, f4, f5, f6, f7, f8, f9⟩ := acCells H5.out.2.1
      dsimp only at d0 d1 d2 d3 d4 d5 d6 d7 d8 d9 f0 f1 f2 f3 f4 f5 f6 f7 f8 f9
      go_wp2_with fail
      refine (rSame_any ⟨kind, client, ⟨op, key, hi, lim, val⟩, at_, an, keep⟩ ⟨kind, client, ⟨op, key, hi, lim, val⟩, at_, an, keep⟩ (.slice A keep.length c) (.slice kA2 keep.length kc2) (HI.out.2.2.2.next H5.out.1) H5.out.2.2 (Nat.le_trans HO.out.2.2.2.2.2.2 (by decide))).mono ?_; rintro e w6 ⟨he, hb6⟩
      rw [decide_eq_true rfl] at he
      obtain rfl := he
      have H6 := Lib.hid (H5.out.1.trans (hb6.mono H5.out.1.size)); clear hb6 d0 d1 d2 d3 d4 d5 d6 d7 d8 d9 f0 f1 f2 f3 f4 f5 f6 f7 f8 f9
      go_wp2_with fail
      refine (known_any (HI.out.2.2.1.next H6.out)).mono ?_; rintro e w7 ⟨rfl, hb7⟩
      go_wp2_with fail
      go_ret
      exact ⟨rfl, HI.out.2.1.trans ((H6.out.trans (hb7.mono H6.out.size)).mono HI.out.2.1.size)⟩

theorem lines_any {w : World} (a : Ac) (kv : Value) (n : Int) (hrow : RowR w kv a.keep.length 1 (a.keep.map (Value.int .i64))) (T : AcTy a) (hn : I64 n) (E : Env w) :
    Calls Tryz.prog 5 #[.agg (acC a kv), .int .i64 n] w fun e w' => e = .returned (.bool true) ∧ Below w.heap.size w w' := by
  obtain ⟨A, c, rfl⟩ := hrow.len
  by_cases h3 : 300 < a.call.val.length
  · exact lines_long a A c n (.inl h3) E
  by_cases h4 : 30 < a.keep.length
  · exact lines_long a A c n (.inr h4) E
  exact lines_short a A c n hrow T hn (by omega) (by omega) E _ rfl

end Go.Proofs.YtbpbkmhipbchbaaGreatDoor.sc
