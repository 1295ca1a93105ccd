/-
  PROVED HERE: the contracts of slices.Equal at []int, of script's again and of script's same. Conditions: rows that read.
-/
import Derived.Test.YtbpbkmhipbchbaaGreatDoorScWord2
namespace Go.Proofs.YtbpbkmhipbchbaaGreatDoor.sc
open Go.RowKit
set_option linter.unusedVariables false

theorem equal_any {w : World} (k1 k2 : List Int) (v1 v2 : Value) (h1 : RowR w v1 k1.length 1 (k1.map (Value.int .i64))) (h2 : RowR w v2 k2.length 1 (k2.map (Value.int .i64))) (hb1 : k1.length ≤ 1000000000) (hb2 : k2.length ≤ 1000000000) :
    Calls Tryz.prog 81 #[v1, v2] w (fun e w' => e = .returned (.bool (decide (k1 = k2))) ∧ Below w.heap.size w w') := by
  obtain ⟨A, c, rfl, _, _, g1⟩ := h1
  obtain ⟨B, d, rfl, _, _, g2⟩ := h2
  by_cases hl : k1.length = k2.length
  · by_cases hz : k1.length = 0
    · have e1 : k1 = [] := List.eq_nil_of_length_eq_zero hz
      have e2 : k2 = [] := List.eq_nil_of_length_eq_zero (by omega)
      subst e1; subst e2
      refine (Tryz.slices_Equal_int_empty A B c 0 d w (by decide)).mono ?_
      rintro e w' ⟨rfl, rfl⟩
      exact ⟨by simp, Below.refl _ _⟩
    · obtain ⟨b1, o1, rfl, _, c1⟩ := g1 (by omega)
      obtain ⟨b2, o2, rfl, _, c2⟩ := g2 (by omega)
      refine (Tryz.slices_Equal_int b1 o1 k1.length c b2 o2 k2.length d k1 k2 w (Nat.le_refl _) (Nat.le_refl _) (by omega) (by omega) (fun j hj => c1 j _ (by simp [hj])) (fun j hj => c2 j _ (by simp [hj]))).mono ?_
      rintro e w' ⟨rfl, q, rfl⟩
      refine ⟨?_, ⟨rfl, rfl, rfl, Nat.le_refl _, fun _ _ => rfl⟩⟩
      rw [List.take_length, List.take_length]
      by_cases h : k1 = k2
      · simp [h]
      · simp [h]
  · refine (Tryz.slices_Equal_int_lens A B _ c _ d w hl).mono ?_
    rintro e w' ⟨rfl, rfl⟩
    exact ⟨by rw [decide_eq_false (by rintro rfl; exact hl rfl)], Below.refl _ _⟩

set_option maxHeartbeats 1000000 in
set_option maxRecDepth 100000 in
theorem again_any {w : World} (a : Ac) (A : Option Addr) (m c : Nat) :
    Calls Tryz.prog 49 #[.agg (acC a (.slice A m c))] w (fun e w' => e = .returned (.bool (again a)) ∧ Below w.heap.size w w') := by
  obtain ⟨kind, client, ⟨op, key, hi, lim, val⟩, at_, an, keep⟩ := a
  obtain ⟨d0, d1, d2, d3, d4, d5, d6, d7, d8, d9⟩ := acCells (Blk.new w 31 (acC ⟨kind, client, ⟨op, key, hi, lim, val⟩, at_, an, keep⟩ (.slice A m c)))
  have hb := (Below.refl w.heap.size w).alloc (Nat.le_refl _) (.cells (acC ⟨kind, client, ⟨op, key, hi, lim, val⟩, at_, an, keep⟩ (.slice A m c)) 31)
  obtain ⟨W, hW⟩ : ∃ W, W = w.alloc (.cells (acC ⟨kind, client, ⟨op, key, hi, lim, val⟩, at_, an, keep⟩ (.slice A m c)) 31) := ⟨_, rfl⟩
  rw [← hW] at hb d0 d1 d2 d3 d4 d5 d6 d7 d8 d9
  have HB := Lib.hid hb; clear hb d1 d2 d3 d4 d5 d6 d7 d8 d9
  have HG := Lib.hid (show again ⟨kind, client, ⟨op, key, hi, lim, val⟩, at_, an, keep⟩ = (kind == 2 || kind == 7) from rfl)
  by_cases h2 : kind = 2
  · subst h2
    go_enter Tryz.func49, Tryz.ntmps49
    go_upto_region 1 with fail
    rw [← hW]
    clear hW
    go_wp2_with fail
    go_ret
    exact ⟨by rw [HG.out]; rfl, HB.out⟩
  · have e2 : (kind == 2) = false := by simpa using h2
    go_enter Tryz.func49, Tryz.ntmps49
    go_upto_region 1 with fail
    rw [← hW]
    clear hW
    go_wp2_with fail
    go_ret
    exact ⟨by rw [HG.out, e2]; rfl, HB.out⟩

set_option maxHeartbeats 1000000 in
set_option maxRecDepth 100000 in
theorem same_any {w : World} (a b : Ac) (va vb : Value) (ha : RowR w va a.keep.length 1 (a.keep.map (Value.int .i64))) (hb : RowR w vb b.keep.length 1 (b.keep.map (Value.int .i64))) (hla : a.keep.length ≤ 1000000000) (hlb : b.keep.length ≤ 1000000000) :
    Calls Tryz.prog 61 #[.agg (acC a va), .agg (acC b vb)] w (fun e w' => e = .returned (.bool (decide (a = b))) ∧ Below w.heap.size w w') := by
  obtain ⟨kind, client, ⟨op, key, hi, lim, val⟩, at_, an, keep⟩ := a
  obtain ⟨kind', client', ⟨op', key', hi', lim', val'⟩, at_', an', keep'⟩ := b
  obtain ⟨A, cA, rfl⟩ := ha.len
  obtain ⟨B, cB, rfl⟩ := hb.len
  simp only at ha hb hla hlb
  obtain ⟨W1, hW1⟩ : ∃ W, W = w.alloc (.cells (acC ⟨kind, client, ⟨op, key, hi, lim, val⟩, at_, an, keep⟩ (.slice A keep.length cA)) 31) := ⟨_, rfl⟩
  obtain ⟨W, hW⟩ : ∃ W, W = W1.alloc (.cells (acC ⟨kind', client', ⟨op', key', hi', lim', val'⟩, at_', an', keep'⟩ (.slice B keep'.length cB)) 31) := ⟨_, rfl⟩
  have hN1 : Blk W w.heap.size 31 (acC ⟨kind, client, ⟨op, key, hi, lim, val⟩, at_, an, keep⟩ (.slice A keep.length cA)) := by rw [hW, hW1]; exact (Blk.new _ _ _).alloc _
  have hN2 : Blk W W1.heap.size 31 (acC ⟨kind', client', ⟨op', key', hi', lim', val'⟩, at_', an', keep'⟩ (.slice B keep'.length cB)) := by rw [hW]; exact Blk.new _ _ _
  have h1 : Below w.heap.size w W1 := by rw [hW1]; exact (Below.refl _ _).alloc (Nat.le_refl _) _
  have h2 : Below w.heap.size w W := by rw [hW]; exact h1.alloc h1.size _
  have HB := Lib.hid (And.intro h2 (And.intro (ha.next h2) (hb.next h2))); clear h2 h1 ha hb
  obtain ⟨d0, d1, d2, d3, d4, d5, d6, d7, d8, d9⟩ := acCells hN1
  obtain ⟨f0, f1, f2, f3, f4, f5, f6, f7, f8, f9⟩ := acCells hN2
  clear hN1 hN2
  dsimp only at d0 d1 d2 d3 d4 d5 d6 d7 d8 d9 f0 f1 f2 f3 f4 f5 f6 f7 f8 f9
  have hs : W1.heap.size = w.heap.size + 1 := by rw [hW1]; simp
  rw [hs] at f0 f1 f2 f3 f4 f5 f6 f7 f8 f9
  go_enter Tryz.func61, Tryz.ntmps61
  go_upto_region 1 with fail
  rw [← hW1, ← hW]
  clear hW hW1 hs
  by_cases e1 : kind = kind'
  · subst e1
    by_cases e2 : client = client'
    · subst e2
      by_cases e3 : op = op'
      · subst e3
        by_cases e4 : key = key'
        · subst e4
          by_cases e5 : hi = hi'
          · subst e5
            by_cases e6 : lim = lim'
            · subst e6
              by_cases e7 : val = val'
              · subst e7
                by_cases e8 : at_ = at_'
                · subst e8
                  by_cases e9 : an = an'
                  · subst e9
                    have HG := Lib.hid (show decide ((⟨kind, client, ⟨op, key, hi, lim, val⟩, at_, an, keep⟩ : Ac) = ⟨kind, client, ⟨op, key, hi, lim, val⟩, at_, an, keep'⟩) = decide (keep = keep') by simp)
                    go_wp2_with fail
                    refine (equal_any keep keep' _ _ HB.out.2.1 HB.out.2.2 hla hlb).mono ?_; rintro e w6 ⟨rfl, hb6⟩
                    go_wp2_with fail
                    go_ret
                    exact ⟨by rw [HG.out]; first | done | rfl, HB.out.1.trans (hb6.mono HB.out.1.size)⟩
                  · have HG := Lib.hid (decide_eq_false (p := _) (fun h : (⟨kind, client, ⟨op, key, hi, lim, val⟩, at_, an, keep⟩ : Ac) = ⟨kind, client, ⟨op, key, hi, lim, val⟩, at_, an', keep'⟩ => e9 (congrArg (fun x => x.n) h)))
                    have q : (an == an') = false := by simpa using e9
                    go_wp2_with fail
                    go_ret
                    exact ⟨by rw [HG.out]; first | done | rfl, HB.out.1⟩
                · have HG := Lib.hid (decide_eq_false (p := _) (fun h : (⟨kind, client, ⟨op, key, hi, lim, val⟩, at_, an, keep⟩ : Ac) = ⟨kind, client, ⟨op, key, hi, lim, val⟩, at_', an', keep'⟩ => e8 (congrArg (fun x => x.at_) h)))
                  have q : (at_ == at_') = false := by simpa using e8
                  go_wp2_with fail
                  go_ret
                  exact ⟨by rw [HG.out]; first | done | rfl, HB.out.1⟩
              · have HG := Lib.hid (decide_eq_false (p := _) (fun h : (⟨kind, client, ⟨op, key, hi, lim, val⟩, at_, an, keep⟩ : Ac) = ⟨kind, client, ⟨op, key, hi, lim, val'⟩, at_', an', keep'⟩ => e7 (congrArg (fun x => x.call.val) h)))
                have q : (val == val') = false := by simpa using e7
                go_wp2_with fail
                go_ret
                exact ⟨by rw [HG.out]; first | done | rfl, HB.out.1⟩
            · have HG := Lib.hid (decide_eq_false (p := _) (fun h : (⟨kind, client, ⟨op, key, hi, lim, val⟩, at_, an, keep⟩ : Ac) = ⟨kind, client, ⟨op, key, hi, lim', val'⟩, at_', an', keep'⟩ => e6 (congrArg (fun x => x.call.lim) h)))
              have q : (lim == lim') = false := by simpa using e6
              go_wp2_with fail
              go_ret
              exact ⟨by rw [HG.out]; first | done | rfl, HB.out.1⟩
          · have HG := Lib.hid (decide_eq_false (p := _) (fun h : (⟨kind, client, ⟨op, key, hi, lim, val⟩, at_, an, keep⟩ : Ac) = ⟨kind, client, ⟨op, key, hi', lim', val'⟩, at_', an', keep'⟩ => e5 (congrArg (fun x => x.call.hi) h)))
            have q : (hi == hi') = false := by simpa using e5
            go_wp2_with fail
            go_ret
            exact ⟨by rw [HG.out]; first | done | rfl, HB.out.1⟩
        · have HG := Lib.hid (decide_eq_false (p := _) (fun h : (⟨kind, client, ⟨op, key, hi, lim, val⟩, at_, an, keep⟩ : Ac) = ⟨kind, client, ⟨op, key', hi', lim', val'⟩, at_', an', keep'⟩ => e4 (congrArg (fun x => x.call.key) h)))
          have q : (key == key') = false := by simpa using e4
          go_wp2_with fail
          go_ret
          exact ⟨by rw [HG.out]; first | done | rfl, HB.out.1⟩
      · have HG := Lib.hid (decide_eq_false (p := _) (fun h : (⟨kind, client, ⟨op, key, hi, lim, val⟩, at_, an, keep⟩ : Ac) = ⟨kind, client, ⟨op', key', hi', lim', val'⟩, at_', an', keep'⟩ => e3 (congrArg (fun x => x.call.op) h)))
        have q : (op == op') = false := by simpa using e3
        go_wp2_with fail
        go_ret
        exact ⟨by rw [HG.out]; first | done | rfl, HB.out.1⟩
    · have HG := Lib.hid (decide_eq_false (p := _) (fun h : (⟨kind, client, ⟨op, key, hi, lim, val⟩, at_, an, keep⟩ : Ac) = ⟨kind, client', ⟨op', key', hi', lim', val'⟩, at_', an', keep'⟩ => e2 (congrArg (fun x => x.client) h)))
      have q : (client == client') = false := by simpa using e2
      go_wp2_with fail
      go_ret
      exact ⟨by rw [HG.out]; first | done | rfl, HB.out.1⟩
  · have HG := Lib.hid (decide_eq_false (p := _) (fun h : (⟨kind, client, ⟨op, key, hi, lim, val⟩, at_, an, keep⟩ : Ac) = ⟨kind', client', ⟨op', key', hi', lim', val'⟩, at_', an', keep'⟩ => e1 (congrArg (fun x => x.kind) h)))
    have q : (kind == kind') = false := by simpa using e1
    go_wp2_with fail
    go_ret
    exact ⟨by rw [HG.out]; first | done | rfl, HB.out.1⟩

end Go.Proofs.YtbpbkmhipbchbaaGreatDoor.sc
