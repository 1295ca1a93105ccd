/-
  ScAct: PROVED HERE: the contracts of slices.Equal at []int, of script's again and of script's same. Conditions: rows that read.
  ScCaught: PROVED HERE: the contracts of script's caught, deferred: of a frame that returns, and of one that panics with an Errno. Conditions: the variable's block.
  ScLine: PROVED HERE: the contracts of OfLine's deferred function (OfLine$1). Conditions: the three variables' blocks.
-/
import Derived.Test.YtnnahodajiolmaaGreatDoorScWord2
import Derived.Test.YtnnahodajiolmaaGreatDoorScWorld
import Derived.Defers
import Derived.Recover
import Derived.Test.YtnnahodajiolmaaGreatDoorScOfCall
namespace Go.Proofs.YtnnahodajiolmaaGreatDoor.sc
open Go.RowKit
set_option linter.unusedVariables false

theorem equal_any {w : World} (k1 k2 : List Int) (v1 v2 : Value) (h1 : RowR w v1 k1.length 1 (k1.map (Value.int .i64))) (h2 : RowR w v2 k2.length 1 (k2.map (Value.int .i64))) (hb1 : k1.length ≤ 1000000000) (hb2 : k2.length ≤ 1000000000) :
    Calls Tryz.prog 26 #[v1, v2] w (fun e w' => e = .returned (.bool (decide (k1 = k2))) ∧ Below w.heap.size w w') := by
  obtain ⟨A, c, rfl, _, _, g1⟩ := h1
  obtain ⟨B, d, rfl, _, _, g2⟩ := h2
  by_cases hl : k1.length = k2.length
  · by_cases hz : k1.length = 0
    · have e1 : k1 = [] := List.eq_nil_of_length_eq_zero hz
      have e2 : k2 = [] := List.eq_nil_of_length_eq_zero (by omega)
      subst e1; subst e2
      refine (Tryz.slices_Equal_int_empty A B c 0 d w (by decide)).mono ?_
      rintro e w' ⟨rfl, rfl⟩
      exact ⟨by simp, Below.refl _ _⟩
    · obtain ⟨b1, o1, rfl, _, c1⟩ := g1 (by omega)
      obtain ⟨b2, o2, rfl, _, c2⟩ := g2 (by omega)
      refine (Tryz.slices_Equal_int b1 o1 k1.length c b2 o2 k2.length d k1 k2 w (Nat.le_refl _) (Nat.le_refl _) (by omega) (by omega) (fun j hj => c1 j _ (by simp [hj])) (fun j hj => c2 j _ (by simp [hj]))).mono ?_
      rintro e w' ⟨rfl, q, rfl⟩
      refine ⟨?_, ⟨rfl, rfl, rfl, Nat.le_refl _, fun _ _ => rfl⟩⟩
      rw [List.take_length, List.take_length]
      by_cases h : k1 = k2
      · simp [h]
      · simp [h]
  · refine (Tryz.slices_Equal_int_lens A B _ c _ d w hl).mono ?_
    rintro e w' ⟨rfl, rfl⟩
    exact ⟨by rw [decide_eq_false (by rintro rfl; exact hl rfl)], Below.refl _ _⟩

set_option maxHeartbeats 1000000 in
set_option maxRecDepth 100000 in
theorem again_any {w : World} (a : Ac) (A : Option Addr) (m c : Nat) :
    Calls Tryz.prog 11 #[.agg (acC a (.slice A m c))] w (fun e w' => e = .returned (.bool (again a)) ∧ Below w.heap.size w w') := by
  obtain ⟨kind, client, ⟨op, key, hi, lim, val⟩, at_, an, keep⟩ := a
  obtain ⟨d0, d1, d2, d3, d4, d5, d6, d7, d8, d9⟩ := acCells (Blk.new w 40 (acC ⟨kind, client, ⟨op, key, hi, lim, val⟩, at_, an, keep⟩ (.slice A m c)))
  have hb := (Below.refl w.heap.size w).alloc (Nat.le_refl _) (.cells (acC ⟨kind, client, ⟨op, key, hi, lim, val⟩, at_, an, keep⟩ (.slice A m c)) 40)
  obtain ⟨W, hW⟩ : ∃ W, W = w.alloc (.cells (acC ⟨kind, client, ⟨op, key, hi, lim, val⟩, at_, an, keep⟩ (.slice A m c)) 40) := ⟨_, rfl⟩
  rw [← hW] at hb d0 d1 d2 d3 d4 d5 d6 d7 d8 d9
  have HB := Lib.hid hb; clear hb d1 d2 d3 d4 d5 d6 d7 d8 d9
  have HG := Lib.hid (show again ⟨kind, client, ⟨op, key, hi, lim, val⟩, at_, an, keep⟩ = (kind == 2 || kind == 7) from rfl)
  by_cases h2 : kind = 2
  · subst h2
    go_enter Tryz.func11, Tryz.ntmps11
    go_upto_region 1 with fail
    rw [← hW]
    clear hW
    go_wp2_with fail
    go_ret
    exact ⟨by rw [HG.out]; rfl, HB.out⟩
  · have e2 : (kind == 2) = false := by simpa using h2
    go_enter Tryz.func11, Tryz.ntmps11
    go_upto_region 1 with fail
    rw [← hW]
    clear hW
    go_wp2_with fail
    go_ret
    exact ⟨by rw [HG.out, e2]; rfl, HB.out⟩

set_option maxHeartbeats 1000000 in
set_option maxRecDepth 100000 in
theorem same_any {w : World} (a b : Ac) (va vb : Value) (ha : RowR w va a.keep.length 1 (a.keep.map (Value.int .i64))) (hb : RowR w vb b.keep.length 1 (b.keep.map (Value.int .i64))) (hla : a.keep.length ≤ 1000000000) (hlb : b.keep.length ≤ 1000000000) :
    Calls Tryz.prog 12 #[.agg (acC a va), .agg (acC b vb)] w (fun e w' => e = .returned (.bool (decide (a = b))) ∧ Below w.heap.size w w') := by
  obtain ⟨kind, client, ⟨op, key, hi, lim, val⟩, at_, an, keep⟩ := a
  obtain ⟨kind', client', ⟨op', key', hi', lim', val'⟩, at_', an', keep'⟩ := b
  obtain ⟨A, cA, rfl⟩ := ha.len
  obtain ⟨B, cB, rfl⟩ := hb.len
  simp only at ha hb hla hlb
  obtain ⟨W1, hW1⟩ : ∃ W, W = w.alloc (.cells (acC ⟨kind, client, ⟨op, key, hi, lim, val⟩, at_, an, keep⟩ (.slice A keep.length cA)) 40) := ⟨_, rfl⟩
  obtain ⟨W, hW⟩ : ∃ W, W = W1.alloc (.cells (acC ⟨kind', client', ⟨op', key', hi', lim', val'⟩, at_', an', keep'⟩ (.slice B keep'.length cB)) 40) := ⟨_, rfl⟩
  have hN1 : Blk W w.heap.size 40 (acC ⟨kind, client, ⟨op, key, hi, lim, val⟩, at_, an, keep⟩ (.slice A keep.length cA)) := by rw [hW, hW1]; exact (Blk.new _ _ _).alloc _
  have hN2 : Blk W W1.heap.size 40 (acC ⟨kind', client', ⟨op', key', hi', lim', val'⟩, at_', an', keep'⟩ (.slice B keep'.length cB)) := by rw [hW]; exact Blk.new _ _ _
  have h1 : Below w.heap.size w W1 := by rw [hW1]; exact (Below.refl _ _).alloc (Nat.le_refl _) _
  have h2 : Below w.heap.size w W := by rw [hW]; exact h1.alloc h1.size _
  have HB := Lib.hid (And.intro h2 (And.intro (ha.next h2) (hb.next h2))); clear h2 h1 ha hb
  obtain ⟨d0, d1, d2, d3, d4, d5, d6, d7, d8, d9⟩ := acCells hN1
  obtain ⟨f0, f1, f2, f3, f4, f5, f6, f7, f8, f9⟩ := acCells hN2
  clear hN1 hN2
  dsimp only at d0 d1 d2 d3 d4 d5 d6 d7 d8 d9 f0 f1 f2 f3 f4 f5 f6 f7 f8 f9
  have hs : W1.heap.size = w.heap.size + 1 := by rw [hW1]; simp
  rw [hs] at f0 f1 f2 f3 f4 f5 f6 f7 f8 f9
  go_enter Tryz.func12, Tryz.ntmps12
  go_upto_region 1 with fail
  rw [← hW1, ← hW]
  clear hW hW1 hs
  by_cases e1 : kind = kind'
  · subst e1
    by_cases e2 : client = client'
    · subst e2
      by_cases e3 : op = op'
      · subst e3
        by_cases e4 : key = key'
        · subst e4
          by_cases e5 : hi = hi'
          · subst e5
            by_cases e6 : lim = lim'
            · subst e6
              by_cases e7 : val = val'
              · subst e7
                by_cases e8 : at_ = at_'
                · subst e8
                  by_cases e9 : an = an'
                  · subst e9
                    have HG := Lib.hid (show decide ((⟨kind, client, ⟨op, key, hi, lim, val⟩, at_, an, keep⟩ : Ac) = ⟨kind, client, ⟨op, key, hi, lim, val⟩, at_, an, keep'⟩) = decide (keep = keep') by simp)
                    go_wp2_with fail
                    refine (equal_any keep keep' _ _ HB.out.2.1 HB.out.2.2 hla hlb).mono ?_; rintro e w6 ⟨rfl, hb6⟩
                    go_wp2_with fail
                    go_ret
                    exact ⟨by rw [HG.out]; first | done | rfl, HB.out.1.trans (hb6.mono HB.out.1.size)⟩
                  · have HG := Lib.hid (decide_eq_false (p := _) (fun h : (⟨kind, client, ⟨op, key, hi, lim, val⟩, at_, an, keep⟩ : Ac) = ⟨kind, client, ⟨op, key, hi, lim, val⟩, at_, an', keep'⟩ => e9 (congrArg (fun x => x.n) h)))
                    have q : (an == an') = false := by simpa using e9
                    go_wp2_with fail
                    go_ret
                    exact ⟨by rw [HG.out]; first | done | rfl, HB.out.1⟩
                · have HG := Lib.hid (decide_eq_false (p := _) (fun h : (⟨kind, client, ⟨op, key, hi, lim, val⟩, at_, an, keep⟩ : Ac) = ⟨kind, client, ⟨op, key, hi, lim, val⟩, at_', an', keep'⟩ => e8 (congrArg (fun x => x.at_) h)))
                  have q : (at_ == at_') = false := by simpa using e8
                  go_wp2_with fail
                  go_ret
                  exact ⟨by rw [HG.out]; first | done | rfl, HB.out.1⟩
              · have HG := Lib.hid (decide_eq_false (p := _) (fun h : (⟨kind, client, ⟨op, key, hi, lim, val⟩, at_, an, keep⟩ : Ac) = ⟨kind, client, ⟨op, key, hi, lim, val'⟩, at_', an', keep'⟩ => e7 (congrArg (fun x => x.call.val) h)))
                have q : (val == val') = false := by simpa using e7
                go_wp2_with fail
                go_ret
                exact ⟨by rw [HG.out]; first | done | rfl, HB.out.1⟩
            · have HG := Lib.hid (decide_eq_false (p := _) (fun h : (⟨kind, client, ⟨op, key, hi, lim, val⟩, at_, an, keep⟩ : Ac) = ⟨kind, client, ⟨op, key, hi, lim', val'⟩, at_', an', keep'⟩ => e6 (congrArg (fun x => x.call.lim) h)))
              have q : (lim == lim') = false := by simpa using e6
              go_wp2_with fail
              go_ret
              exact ⟨by rw [HG.out]; first | done | rfl, HB.out.1⟩
          · have HG := Lib.hid (decide_eq_false (p := _) (fun h : (⟨kind, client, ⟨op, key, hi, lim, val⟩, at_, an, keep⟩ : Ac) = ⟨kind, client, ⟨op, key, hi', lim', val'⟩, at_', an', keep'⟩ => e5 (congrArg (fun x => x.call.hi) h)))
            have q : (hi == hi') = false := by simpa using e5
            go_wp2_with fail
            go_ret
            exact ⟨by rw [HG.out]; first | done | rfl, HB.out.1⟩
        · have HG := Lib.hid (decide_eq_false (p := _) (fun h : (⟨kind, client, ⟨op, key, hi, lim, val⟩, at_, an, keep⟩ : Ac) = ⟨kind, client, ⟨op, key', hi', lim', val'⟩, at_', an', keep'⟩ => e4 (congrArg (fun x => x.call.key) h)))
          have q : (key == key') = false := by simpa using e4
          go_wp2_with fail
          go_ret
          exact ⟨by rw [HG.out]; first | done | rfl, HB.out.1⟩
      · have HG := Lib.hid (decide_eq_false (p := _) (fun h : (⟨kind, client, ⟨op, key, hi, lim, val⟩, at_, an, keep⟩ : Ac) = ⟨kind, client, ⟨op', key', hi', lim', val'⟩, at_', an', keep'⟩ => e3 (congrArg (fun x => x.call.op) h)))
        have q : (op == op') = false := by simpa using e3
        go_wp2_with fail
        go_ret
        exact ⟨by rw [HG.out]; first | done | rfl, HB.out.1⟩
    · have HG := Lib.hid (decide_eq_false (p := _) (fun h : (⟨kind, client, ⟨op, key, hi, lim, val⟩, at_, an, keep⟩ : Ac) = ⟨kind, client', ⟨op', key', hi', lim', val'⟩, at_', an', keep'⟩ => e2 (congrArg (fun x => x.client) h)))
      have q : (client == client') = false := by simpa using e2
      go_wp2_with fail
      go_ret
      exact ⟨by rw [HG.out]; first | done | rfl, HB.out.1⟩
  · have HG := Lib.hid (decide_eq_false (p := _) (fun h : (⟨kind, client, ⟨op, key, hi, lim, val⟩, at_, an, keep⟩ : Ac) = ⟨kind', client', ⟨op', key', hi', lim', val'⟩, at_', an', keep'⟩ => e1 (congrArg (fun x => x.kind) h)))
    have q : (kind == kind') = false := by simpa using e1
    go_wp2_with fail
    go_ret
    exact ⟨by rw [HG.out]; first | done | rfl, HB.out.1⟩

end Go.Proofs.YtnnahodajiolmaaGreatDoor.sc

namespace Go.Proofs.YtnnahodajiolmaaGreatDoor.sc
open Go.RowKit
set_option linter.unusedVariables false

theorem caught_idle (p : Addr) (w : World) :
    CallsD Tryz.prog 20 #[.pointer (some p)] .returning w fun e u' w' => e = .returned (.tuple #[]) ∧ u' = .returning ∧ w' = w := by
  refine callsD_of_wpS Tryz.func20 rfl fun c₀ cs hu => ?_
  simp only [Tryz.ntmps20, List.size_toArray, List.length_cons, List.length_nil, Nat.reduceAdd, Nat.reduceSub, Array.replicate_succ, Array.replicate_zero, List.push_toArray, List.append_toArray, List.nil_append, List.cons_append]
  apply wpS_seq
  apply wpS_region
  simp [wpOpsS, go_sem, recoverD, hu, Exit.thenS]
  refine wpS_of_wp ?_
  go_wp2
  cases c₀
  simp_all [bodyPostS, results, Tryz.results20]

theorem run_assert_errno (ev : Int) (w : World) : (Instr.typeAssert (.iface 26 (.int .i64 ev)) 20 26 true).run Tryz.prog w = .ok (.tuple #[.int .i64 ev, .bool true]) w := by kernel_rfl

set_option maxRecDepth 100000 in
theorem caught_panicking (p : Addr) (x ev : Int) (older : List PanicEntry) (w : World) (hc : w.cell? p = some (.int .i64 x)) (hz : w.frozen? p = false) :
    CallsD Tryz.prog 20 #[.pointer (some p)] (.panicking ({ v := .iface 26 (.int .i64 ev), recovered := false } :: older)) w fun e u' w' =>
      e = .returned (.tuple #[]) ∧ u' = .panicking ({ v := .iface 26 (.int .i64 ev), recovered := true } :: older) ∧ w' = w.setCell p (.int .i64 ev) := by
  refine callsD_of_wpS Tryz.func20 rfl fun c₀ cs hu => ?_
  simp only [Tryz.ntmps20, List.size_toArray, List.length_cons, List.length_nil, Nat.reduceAdd, Nat.reduceSub, Array.replicate_succ, Array.replicate_zero, List.push_toArray, List.append_toArray, List.nil_append, List.cons_append]
  apply wpS_seq
  apply wpS_region
  simp [wpOpsS, go_sem, recoverD, hu, Exit.thenS]
  refine wpS_of_wp ?_
  have hta := run_assert_errno ev w
  generalize hQ : (fun e a' w' => bodyPostS Tryz.prog Tryz.f20 c₀ cs _ e a' _ w') = Q
  have HQ := Lib.hid hQ; clear hQ hu
  go_wp2
  rw [← HQ.out]
  refine ⟨rfl, _, rfl, ?_⟩
  exact ⟨.tuple #[], by simp [results, Tryz.results20, go_sem], rfl, rfl, rfl⟩

end Go.Proofs.YtnnahodajiolmaaGreatDoor.sc

namespace Go.Proofs.YtnnahodajiolmaaGreatDoor.sc
open Go.RowKit
set_option linter.unusedVariables false

/-- The world with act number zero in block g. -/
abbrev zeroAct (w : World) (g : Nat) : World := ((((((((((w.setCell ⟨g, 0, none⟩ (.int .i64 0)).setCell ⟨g, 1, none⟩ (.int .i64 0)).setCell ⟨g, 2, none⟩ (.int .i64 0)).setCell ⟨g, 3, none⟩ (.int .u64 0)).setCell ⟨g, 4, none⟩ (.int .u64 0)).setCell ⟨g, 5, none⟩ (.int .i64 0)).setCell ⟨g, 6, none⟩ (.string ⟨#[]⟩)).setCell ⟨g, 7, none⟩ (.int .u64 0)).setCell ⟨g, 8, none⟩ (.int .i64 0)).setCell ⟨g, 9, none⟩ (.slice none 0 0))
theorem set10 {w : World} {g : Nat} {t : TypeId} {a0 a1 a2 a3 a4 a5 a6 a7 a8 a9 : Value} (h : Blk w g t #[a0, a1, a2, a3, a4, a5, a6, a7, a8, a9]) (b0 b1 b2 b3 b4 b5 b6 b7 b8 b9 : Value) : Blk ((((((((((w.setCell ⟨g, 0, none⟩ b0).setCell ⟨g, 1, none⟩ b1).setCell ⟨g, 2, none⟩ b2).setCell ⟨g, 3, none⟩ b3).setCell ⟨g, 4, none⟩ b4).setCell ⟨g, 5, none⟩ b5).setCell ⟨g, 6, none⟩ b6).setCell ⟨g, 7, none⟩ b7).setCell ⟨g, 8, none⟩ b8).setCell ⟨g, 9, none⟩ b9) g t #[b0, b1, b2, b3, b4, b5, b6, b7, b8, b9] := by
  have h0 : Blk (w.setCell ⟨g, 0, none⟩ b0) g t #[b0, a1, a2, a3, a4, a5, a6, a7, a8, a9] := h.set_ 0 b0
  have h1 : Blk ((w.setCell ⟨g, 0, none⟩ b0).setCell ⟨g, 1, none⟩ b1) g t #[b0, b1, a2, a3, a4, a5, a6, a7, a8, a9] := h0.set_ 1 b1
  have h2 : Blk (((w.setCell ⟨g, 0, none⟩ b0).setCell ⟨g, 1, none⟩ b1).setCell ⟨g, 2, none⟩ b2) g t #[b0, b1, b2, a3, a4, a5, a6, a7, a8, a9] := h1.set_ 2 b2
  have h3 : Blk ((((w.setCell ⟨g, 0, none⟩ b0).setCell ⟨g, 1, none⟩ b1).setCell ⟨g, 2, none⟩ b2).setCell ⟨g, 3, none⟩ b3) g t #[b0, b1, b2, b3, a4, a5, a6, a7, a8, a9] := h2.set_ 3 b3
  have h4 : Blk (((((w.setCell ⟨g, 0, none⟩ b0).setCell ⟨g, 1, none⟩ b1).setCell ⟨g, 2, none⟩ b2).setCell ⟨g, 3, none⟩ b3).setCell ⟨g, 4, none⟩ b4) g t #[b0, b1, b2, b3, b4, a5, a6, a7, a8, a9] := h3.set_ 4 b4
  have h5 : Blk ((((((w.setCell ⟨g, 0, none⟩ b0).setCell ⟨g, 1, none⟩ b1).setCell ⟨g, 2, none⟩ b2).setCell ⟨g, 3, none⟩ b3).setCell ⟨g, 4, none⟩ b4).setCell ⟨g, 5, none⟩ b5) g t #[b0, b1, b2, b3, b4, b5, a6, a7, a8, a9] := h4.set_ 5 b5
  have h6 : Blk (((((((w.setCell ⟨g, 0, none⟩ b0).setCell ⟨g, 1, none⟩ b1).setCell ⟨g, 2, none⟩ b2).setCell ⟨g, 3, none⟩ b3).setCell ⟨g, 4, none⟩ b4).setCell ⟨g, 5, none⟩ b5).setCell ⟨g, 6, none⟩ b6) g t #[b0, b1, b2, b3, b4, b5, b6, a7, a8, a9] := h5.set_ 6 b6
  have h7 : Blk ((((((((w.setCell ⟨g, 0, none⟩ b0).setCell ⟨g, 1, none⟩ b1).setCell ⟨g, 2, none⟩ b2).setCell ⟨g, 3, none⟩ b3).setCell ⟨g, 4, none⟩ b4).setCell ⟨g, 5, none⟩ b5).setCell ⟨g, 6, none⟩ b6).setCell ⟨g, 7, none⟩ b7) g t #[b0, b1, b2, b3, b4, b5, b6, b7, a8, a9] := h6.set_ 7 b7
  have h8 : Blk (((((((((w.setCell ⟨g, 0, none⟩ b0).setCell ⟨g, 1, none⟩ b1).setCell ⟨g, 2, none⟩ b2).setCell ⟨g, 3, none⟩ b3).setCell ⟨g, 4, none⟩ b4).setCell ⟨g, 5, none⟩ b5).setCell ⟨g, 6, none⟩ b6).setCell ⟨g, 7, none⟩ b7).setCell ⟨g, 8, none⟩ b8) g t #[b0, b1, b2, b3, b4, b5, b6, b7, b8, a9] := h7.set_ 8 b8
  have h9 : Blk ((((((((((w.setCell ⟨g, 0, none⟩ b0).setCell ⟨g, 1, none⟩ b1).setCell ⟨g, 2, none⟩ b2).setCell ⟨g, 3, none⟩ b3).setCell ⟨g, 4, none⟩ b4).setCell ⟨g, 5, none⟩ b5).setCell ⟨g, 6, none⟩ b6).setCell ⟨g, 7, none⟩ b7).setCell ⟨g, 8, none⟩ b8).setCell ⟨g, 9, none⟩ b9) g t #[b0, b1, b2, b3, b4, b5, b6, b7, b8, b9] := h8.set_ 9 b9
  exact h9
theorem zeroAct_blk {w : World} {g : Nat} {a : Ac} {v : Value} (h : Blk w g 40 (acC a v)) : Blk (zeroAct w g) g 40 (acC Ac.zero (.slice none 0 0)) := set10 h _ _ _ _ _ _ _ _ _ _
theorem zeroAct_far {w : World} {g b : Nat} {t : TypeId} {cs : Array Value} (h : Blk w b t cs) (hg : b ≠ g) : Blk (zeroAct w g) b t cs := ((((((((((h.far (p := ⟨g, 0, none⟩) hg (.int .i64 0)).far (p := ⟨g, 1, none⟩) hg (.int .i64 0)).far (p := ⟨g, 2, none⟩) hg (.int .i64 0)).far (p := ⟨g, 3, none⟩) hg (.int .u64 0)).far (p := ⟨g, 4, none⟩) hg (.int .u64 0)).far (p := ⟨g, 5, none⟩) hg (.int .i64 0)).far (p := ⟨g, 6, none⟩) hg (.string ⟨#[]⟩)).far (p := ⟨g, 7, none⟩) hg (.int .u64 0)).far (p := ⟨g, 8, none⟩) hg (.int .i64 0)).far (p := ⟨g, 9, none⟩) hg (.slice none 0 0))
theorem zeroAct_below {w : World} {g B : Nat} (hg : B ≤ g) : Below B w (zeroAct w g) := (((((((((((Below.refl B w).setCell (p := ⟨g, 0, none⟩) hg (.int .i64 0)).setCell (p := ⟨g, 1, none⟩) hg (.int .i64 0)).setCell (p := ⟨g, 2, none⟩) hg (.int .i64 0)).setCell (p := ⟨g, 3, none⟩) hg (.int .u64 0)).setCell (p := ⟨g, 4, none⟩) hg (.int .u64 0)).setCell (p := ⟨g, 5, none⟩) hg (.int .i64 0)).setCell (p := ⟨g, 6, none⟩) hg (.string ⟨#[]⟩)).setCell (p := ⟨g, 7, none⟩) hg (.int .u64 0)).setCell (p := ⟨g, 8, none⟩) hg (.int .i64 0)).setCell (p := ⟨g, 9, none⟩) hg (.slice none 0 0))

theorem ofLineFn_ok {w : World} (u : FrameMode) (ge ga gn : Nat) (h : Blk w ge 26 #[.int .i64 0]) :
    CallsD Tryz.prog 24 #[.pointer (some ⟨ge, 0, none⟩), .pointer (some ⟨ga, 0, none⟩), .pointer (some ⟨gn, 0, none⟩)] u w (fun e u' w' => u' = u ∧ (e = .returned (.tuple #[]) ∧ w' = w)) := by
  have d0 : w.cell? ⟨ge, 0, none⟩ = some (.int .i64 0) := h.cell 0
  clear h
  go_enter_d Tryz.func24, Tryz.ntmps24
  go_wp2_with fail
  go_end0
  exact ⟨rfl, rfl⟩

set_option maxRecDepth 100000 in
theorem ofLineFn_bad {w : World} (u : FrameMode) (ge ga gn : Nat) (ev : Int) (hev : ev ≠ 0) (a : Ac) (A : Option Addr) (m c : Nat) (nv : Value) (h : Blk w ge 26 #[.int .i64 ev]) (ha : Blk w ga 40 (acC a (.slice A m c))) (hn : Blk w gn 3 #[nv]) (hne : ga ≠ gn) (hea : ge ≠ ga) (hen : ge ≠ gn) :
    CallsD Tryz.prog 24 #[.pointer (some ⟨ge, 0, none⟩), .pointer (some ⟨ga, 0, none⟩), .pointer (some ⟨gn, 0, none⟩)] u w (fun e u' w' => u' = u ∧ (e = .returned (.tuple #[]) ∧ Blk w' ge 26 #[.int .i64 ev] ∧ Blk w' ga 40 (acC Ac.zero (.slice none 0 0)) ∧ Blk w' gn 3 #[.int .i64 0] ∧ (∀ B, B ≤ ge → B ≤ ga → B ≤ gn → Below B w w'))) := by
  have d0 : w.cell? ⟨ge, 0, none⟩ = some (.int .i64 ev) := h.cell 0
  have e0 : (ev == 0) = false := by simpa using hev
  obtain ⟨f0, f1, f2, f3, f4, f5, f6, f7, f8, f9⟩ := acCells ha
  have p0 := ha.frozen 0
  have p1 := ha.frozen 1
  have p2 := ha.frozen 2
  have p3 := ha.frozen 3
  have p4 := ha.frozen 4
  have p5 := ha.frozen 5
  have p6 := ha.frozen 6
  have p7 := ha.frozen 7
  have p8 := ha.frozen 8
  have p9 := ha.frozen 9
  have q0 : w.cell? ⟨gn, 0, none⟩ = some nv := hn.cell 0
  have q1 := hn.frozen 0
  have hne' : gn ≠ ga := fun h => hne h.symm
  go_enter_d Tryz.func24, Tryz.ntmps24
  go_wp2_with fail
  go_end0
  exact ⟨rfl, (zeroAct_far h hea).far (p := ⟨gn, 0, none⟩) hen _, (zeroAct_blk ha).far (p := ⟨gn, 0, none⟩) hne _, (zeroAct_far hn hne').set_ 0 (.int .i64 0), fun B _ h1 h2 => (zeroAct_below h1).setCell (p := ⟨gn, 0, none⟩) h2 _⟩

end Go.Proofs.YtnnahodajiolmaaGreatDoor.sc
