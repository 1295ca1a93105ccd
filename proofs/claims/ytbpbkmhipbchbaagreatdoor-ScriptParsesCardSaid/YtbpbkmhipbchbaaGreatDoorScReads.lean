/-
  PROVED HERE: the law ScriptReads answers true. Conditions: the library's tables lie (Env).
-/
import Derived.Test.YtbpbkmhipbchbaaGreatDoorScQ8
import Derived.Test.YtbpbkmhipbchbaaGreatDoorScKnown
namespace Go.Proofs.YtbpbkmhipbchbaaGreatDoor.sc
open Go.RowKit
set_option linter.unusedVariables false

/-- What OfLine answers, in one shape. -/
theorem ofLine_one {w : World} (l : Bs) (hl : l.length ≤ 900000) (E : Env w) : Calls Tryz.prog 9 #[.string (mk l)] w fun e w' => Below w.heap.size w w' ∧ ∃ (a : Ac) (n er : Int) (kv : Value), e = .returned (.tuple #[.agg (acC a kv), .int .i64 n, .int .i64 er]) ∧ RowR w' kv a.keep.length 1 (a.keep.map (Value.int .i64))
    ∧ (a, n, er) = (match lineOf l with | some (a, n) => (a, n, 0) | none => (Ac.zero, 0, 11)) := by
  refine (ofLine_any l hl E).mono ?_
  rintro e w' ⟨hb, he⟩
  refine ⟨hb, ?_⟩
  cases h : lineOf l with
  | none => rw [h] at he; exact ⟨Ac.zero, 0, 11, _, he, RowR.nil _ _, rfl⟩
  | some p =>
    obtain ⟨a, n⟩ := p
    rw [h] at he
    obtain ⟨kv, h1, h2, _⟩ := he
    exact ⟨a, n, 0, kv, h1, h2, rfl⟩
theorem rOfLine_one {w : World} (l : Bs) (hl : l.length ≤ 100000) : Calls Tryz.prog 10 #[.string (mk l)] w fun e w' => Below w.heap.size w w' ∧ ∃ (a : Ac) (n er : Int) (kv : Value), e = .returned (.tuple #[.agg (acC a kv), .int .i64 n, .int .i64 er]) ∧ RowR w' kv a.keep.length 1 (a.keep.map (Value.int .i64))
    ∧ (a, n, er) = (match lineOf l with | some (a, n) => (a, n, 0) | none => (Ac.zero, 0, 11)) := by
  refine (rOfLine_any l hl).mono ?_
  rintro e w' ⟨hb, he⟩
  rw [refOf_eq] at he
  refine ⟨hb, ?_⟩
  cases h : lineOf l with
  | none => rw [h] at he; exact ⟨Ac.zero, 0, 11, _, he, RowR.nil _ _, rfl⟩
  | some p =>
    obtain ⟨a, n⟩ := p
    rw [h] at he
    obtain ⟨kv, h1, h2, _⟩ := he
    exact ⟨a, n, 0, kv, h1, h2, rfl⟩
theorem lineOf_few {l : Bs} {a : Ac} {n : Int} (h : lineOf l = some (a, n)) : a.keep.length ≤ l.length + 1 := by
  have hr : refOf l = some (a, n) := by rw [refOf_eq]; exact h
  unfold refOf at hr
  simp only at hr
  split at hr
  · injection hr with hr
    have := (cand_small l).2
    rw [hr] at this
    exact this
  · cases hr

set_option maxHeartbeats 4000000 in
set_option maxRecDepth 100000 in
theorem reads_any {w : World} (l : Bs) (E : Env w) : Calls Tryz.prog 3 #[.string (mk l)] w fun e w' => e = .returned (.bool true) ∧ Below w.heap.size w w' := by
  have hlen : (mk l).size = l.length := mk_size l
  have HE := Lib.hid E; clear E
  by_cases h500 : 500 < l.length
  · have hi : (500 : Int) < (l.length : Int) := by omega
    go_enter Tryz.func3, Tryz.ntmps3
    go_wp2_with fail
    refine (known_any HE.out).mono ?_; rintro e w2 ⟨rfl, hb2⟩
    go_wp2_with fail
    go_ret
    exact ⟨rfl, hb2⟩
  · have hi : ¬ (500 : Int) < (l.length : Int) := by omega
    have HL := Lib.hid h500; clear h500
    go_enter Tryz.func3, Tryz.ntmps3
    go_wp2_with fail
    refine (ofLine_one l (by have := HL.out; omega) HE.out).mono ?_; rintro e w1 ⟨hb1, a, n, er, kv, rfl, hrow, hres⟩
    obtain ⟨kA, kc, rfl⟩ := hrow.len
    have H1 := Lib.hid (And.intro hb1 (And.intro hrow hres)); clear hb1 hrow hres
    obtain ⟨kind, client, ⟨op, key, hi', lim, val⟩, at_, an, keep⟩ := a
    unfold acC
    go_upto_region 4 with fail
    obtain ⟨W1, hW1⟩ : ∃ W1, W1 = w1.alloc (.cells #[.int .i64 kind, .int .i64 client, .int .i64 op, .int .u64 key, .int .u64 hi', .int .i64 lim, .string (mk val), .int .u64 at_, .int .i64 an, .slice kA keep.length kc] 31) := ⟨_, rfl⟩
    have hA1 : Blk W1 w1.heap.size 31 (acC ⟨kind, client, ⟨op, key, hi', lim, val⟩, at_, an, keep⟩ (.slice kA keep.length kc)) := by rw [hW1]; exact Blk.new _ _ _
    have hB1 : Below w.heap.size w W1 := by rw [hW1]; exact H1.out.1.alloc H1.out.1.size _
    have hR1 : RowR W1 (.slice kA keep.length kc) keep.length 1 (keep.map (Value.int .i64)) := by rw [hW1]; exact H1.out.2.1.next ((Below.refl _ _).alloc (Nat.le_refl _) _)
    have HW1 := Lib.hid (And.intro hA1 (And.intro hB1 hR1)); clear hA1 hB1 hR1
    rw [← hW1]
    clear hW1
    go_wp2_with fail
    refine (rOfLine_one l (by have := HL.out; omega)).mono ?_; rintro e w2 ⟨hb2, a2, n2, er2, kv2, rfl, hrow2, hres2⟩
    obtain ⟨kA2, kc2, rfl⟩ := hrow2.len
    have H2 := Lib.hid (And.intro hb2 (And.intro hrow2 hres2)); clear hb2 hrow2 hres2
    obtain ⟨kind2, client2, ⟨op2, key2, hi2, lim2, val2⟩, at2, an2, keep2⟩ := a2
    unfold acC
    go_upto_region 5 with fail
    obtain ⟨W2, hW2⟩ : ∃ W2, W2 = w2.alloc (.cells #[.int .i64 kind2, .int .i64 client2, .int .i64 op2, .int .u64 key2, .int .u64 hi2, .int .i64 lim2, .string (mk val2), .int .u64 at2, .int .i64 an2, .slice kA2 keep2.length kc2] 31) := ⟨_, rfl⟩
    have hA2 : Blk W2 w2.heap.size 31 (acC ⟨kind2, client2, ⟨op2, key2, hi2, lim2, val2⟩, at2, an2, keep2⟩ (.slice kA2 keep2.length kc2)) := by rw [hW2]; exact Blk.new _ _ _
    have hB2 : Below W1.heap.size W1 W2 := by rw [hW2]; exact H2.out.1.alloc H2.out.1.size _
    have hR2 : RowR W2 (.slice kA2 keep2.length kc2) keep2.length 1 (keep2.map (Value.int .i64)) := by rw [hW2]; exact H2.out.2.1.next ((Below.refl _ _).alloc (Nat.le_refl _) _)
    have HW2 := Lib.hid (And.intro hA2 (And.intro hB2 hR2)); clear hA2 hB2 hR2
    rw [← hW2]
    clear hW2
    have hee : n = n2 ∧ er = er2 ∧ (⟨kind, client, ⟨op, key, hi', lim, val⟩, at_, an, keep⟩ : Ac) = ⟨kind2, client2, ⟨op2, key2, hi2, lim2, val2⟩, at2, an2, keep2⟩ := by
      have h := H1.out.2.2.trans H2.out.2.2.symm
      simp only [Prod.mk.injEq] at h
      exact ⟨h.2.1, h.2.2, h.1⟩
    obtain ⟨rfl, rfl, hac⟩ := hee
    have HAC := Lib.hid hac; clear hac
    have HKL := Lib.hid (show keep.length ≤ 1000000000 by
      have h := H1.out.2.2
      cases hl : lineOf l with
      | none => rw [hl] at h; simp only [Prod.mk.injEq] at h; have h1 := congrArg (fun x : Ac => x.keep) h.1; simp only [Ac.zero] at h1; rw [h1]; simp
      | some p =>
        obtain ⟨a, n⟩ := p
        rw [hl] at h; simp only [Prod.mk.injEq] at h
        have h1 := lineOf_few hl
        have h2 := congrArg (fun x : Ac => x.keep) h.1
        simp only at h2
        rw [h2]; have := HL.out; omega)
    obtain ⟨d0, d1, d2, d3, d4, d5, d6, d7, d8, d9⟩ := acCells (HW1.out.1.below HW2.out.2.1 HW1.out.1.lt)
    obtain ⟨f0, f1, f2, f3, f4, f5, f6, f7, f8, f9⟩ := acCells HW2.out.1
    dsimp only at d0 d1 d2 d3 d4 d5 d6 d7 d8 d9 f0 f1 f2 f3 f4 f5 f6 f7 f8 f9
    go_wp2_with fail
    refine (rSame_any ⟨kind, client, ⟨op, key, hi', lim, val⟩, at_, an, keep⟩ ⟨kind2, client2, ⟨op2, key2, hi2, lim2, val2⟩, at2, an2, keep2⟩ (.slice kA keep.length kc) (.slice kA2 keep2.length kc2) (HW1.out.2.2.next HW2.out.2.1) HW2.out.2.2 HKL.out).mono ?_; rintro e w3 ⟨he, hb3⟩
    rw [decide_eq_true HAC.out] at he
    obtain rfl := he
    have H3 := Lib.hid (HW1.out.2.1.trans ((HW2.out.2.1.trans (hb3.mono HW2.out.2.1.size)).mono HW1.out.2.1.size)); clear hb3 d0 d1 d2 d3 d4 d5 d6 d7 d8 d9 f0 f1 f2 f3 f4 f5 f6 f7 f8 f9
    go_wp2_with fail
    refine (known_any (HE.out.next H3.out)).mono ?_; rintro e w4 ⟨rfl, hb4⟩
    go_wp2_with fail
    go_ret
    exact ⟨rfl, H3.out.trans (hb4.mono H3.out.size)⟩

end Go.Proofs.YtbpbkmhipbchbaaGreatDoor.sc
