/-
  PROVED HERE: the contracts of the reference's Again, Same, Clear. Conditions: rows that read.
-/
import Derived.Test.YtbpbkmhipbchbaaGreatDoorScDefer

import Derived.Test.YtbpbkmhipbchbaaGreatDoorScPlain
import Derived.BigQuiet
import Derived.Deep.CutBlock
namespace Go.Proofs.YtbpbkmhipbchbaaGreatDoor.sc
open Go.RowKit
set_option linter.unusedVariables false

set_option maxHeartbeats 1000000 in
set_option maxRecDepth 100000 in
theorem rAgain_any {w : World} (a : Ac) (A : Option Addr) (m c : Nat) :
    Calls Tryz.prog 17 #[.agg (acC a (.slice A m c))] w (fun e w' => e = .returned (.bool (again a)) ∧ Below w.heap.size w w') := by
  obtain ⟨kind, client, ⟨op, key, hi, lim, val⟩, at_, an, keep⟩ := a
  obtain ⟨d0, d1, d2, d3, d4, d5, d6, d7, d8, d9⟩ := acCells (Blk.new w 31 (acC ⟨kind, client, ⟨op, key, hi, lim, val⟩, at_, an, keep⟩ (.slice A m c)))
  have hb := (Below.refl w.heap.size w).alloc (Nat.le_refl _) (.cells (acC ⟨kind, client, ⟨op, key, hi, lim, val⟩, at_, an, keep⟩ (.slice A m c)) 31)
  obtain ⟨W, hW⟩ : ∃ W, W = w.alloc (.cells (acC ⟨kind, client, ⟨op, key, hi, lim, val⟩, at_, an, keep⟩ (.slice A m c)) 31) := ⟨_, rfl⟩
  rw [← hW] at hb d0 d1 d2 d3 d4 d5 d6 d7 d8 d9
  have HB := Lib.hid hb; clear hb d1 d2 d3 d4 d5 d6 d7 d8 d9
  have HG := Lib.hid (show again ⟨kind, client, ⟨op, key, hi, lim, val⟩, at_, an, keep⟩ = (kind == 2 || kind == 7) from rfl)
  by_cases h2 : kind = 2
  · subst h2
    go_enter Tryz.func17, Tryz.ntmps17
    go_upto_region 1 with fail
    rw [← hW]
    clear hW
    go_wp2_with fail
    go_ret
    exact ⟨by rw [HG.out]; rfl, HB.out⟩
  · have e2 : (kind == 2) = false := by simpa using h2
    go_enter Tryz.func17, Tryz.ntmps17
    go_upto_region 1 with fail
    rw [← hW]
    clear hW
    go_wp2_with fail
    go_ret
    exact ⟨by rw [HG.out, e2]; rfl, HB.out⟩

theorem keep_row {w : World} {A : Option Addr} {n c : Nat} {l : List Int} (h : RowR w (.slice A n c) l.length 1 (l.map (Value.int .i64))) {k : Nat} {z : Int} (hk : l[k]? = some z) :
    ∃ b o, A = some ⟨b, o, none⟩ ∧ b < w.heap.size ∧ ∀ wx, Below w.heap.size w wx → wx.cell? ⟨b, o + k, none⟩ = some (.int .i64 z) := by
  obtain ⟨A', c', e, _, _, h3⟩ := h
  cases e
  have hl : k < l.length := (List.getElem?_eq_some_iff.1 hk).1
  obtain ⟨b, o, e, hb, hc⟩ := h3 (by omega)
  exact ⟨b, o, e, hb, fun wx hx => by rw [hx.cell (p := ⟨b, o + k, none⟩) hb]; exact hc k _ (by simp [hk])⟩

set_option maxHeartbeats 2000000 in
set_option maxRecDepth 100000 in
theorem rSame_any {w : World} (a b : Ac) (va vb : Value) (ha : RowR w va a.keep.length 1 (a.keep.map (Value.int .i64))) (hb : RowR w vb b.keep.length 1 (b.keep.map (Value.int .i64))) (hla : a.keep.length ≤ 1000000000) :
    Calls Tryz.prog 11 #[.agg (acC a va), .agg (acC b vb)] w (fun e w' => e = .returned (.bool (decide (a = b))) ∧ Below w.heap.size w w') := by
  obtain ⟨kind, client, ⟨op, key, hi, lim, val⟩, at_, an, keep⟩ := a
  obtain ⟨kind', client', ⟨op', key', hi', lim', val'⟩, at_', an', keep'⟩ := b
  obtain ⟨A, cA, rfl⟩ := ha.len
  obtain ⟨B, cB, rfl⟩ := hb.len
  simp only at ha hb hla
  obtain ⟨W1, hW1⟩ : ∃ W, W = w.alloc (.cells (acC ⟨kind, client, ⟨op, key, hi, lim, val⟩, at_, an, keep⟩ (.slice A keep.length cA)) 31) := ⟨_, rfl⟩
  obtain ⟨W, hW⟩ : ∃ W, W = W1.alloc (.cells (acC ⟨kind', client', ⟨op', key', hi', lim', val'⟩, at_', an', keep'⟩ (.slice B keep'.length cB)) 31) := ⟨_, rfl⟩
  have hN1 : Blk W w.heap.size 31 (acC ⟨kind, client, ⟨op, key, hi, lim, val⟩, at_, an, keep⟩ (.slice A keep.length cA)) := by rw [hW, hW1]; exact (Blk.new _ _ _).alloc _
  have hN2 : Blk W W1.heap.size 31 (acC ⟨kind', client', ⟨op', key', hi', lim', val'⟩, at_', an', keep'⟩ (.slice B keep'.length cB)) := by rw [hW]; exact Blk.new _ _ _
  have h1 : Below w.heap.size w W1 := by rw [hW1]; exact (Below.refl _ _).alloc (Nat.le_refl _) _
  have h2 : Below w.heap.size w W := by rw [hW]; exact h1.alloc h1.size _
  have HB := Lib.hid (And.intro h2 (And.intro (ha.next h2) (hb.next h2))); clear h2 h1 ha hb
  obtain ⟨d0, d1, d2, d3, d4, d5, d6, d7, d8, d9⟩ := acCells hN1
  obtain ⟨f0, f1, f2, f3, f4, f5, f6, f7, f8, f9⟩ := acCells hN2
  have hs : W1.heap.size = w.heap.size + 1 := by rw [hW1]; simp
  rw [hs] at f0 f1 f2 f3 f4 f5 f6 f7 f8 f9 hN2
  have HN := Lib.hid (And.intro hN1 hN2)
  clear hN1 hN2
  dsimp only at d0 d1 d2 d3 d4 d5 d6 d7 d8 d9 f0 f1 f2 f3 f4 f5 f6 f7 f8 f9
  go_enter Tryz.func11, Tryz.ntmps11
  go_upto_region 1 with fail
  rw [← hW1, ← hW]
  clear hW hW1 hs
  by_cases e1 : kind = kind'
  case neg =>
    have HG := Lib.hid (decide_eq_false (p := _) (fun h : (⟨kind, client, ⟨op, key, hi, lim, val⟩, at_, an, keep⟩ : Ac) = ⟨kind', client', ⟨op', key', hi', lim', val'⟩, at_', an', keep'⟩ => e1 (congrArg (fun x => x.kind) h)))
    have q : (kind == kind') = false := by simpa using e1
    have q2 : (kind != kind') = true := by simpa using e1
    go_wp2_with fail
    go_ret
    exact ⟨by rw [HG.out]; first | done | rfl, HB.out.1⟩
  subst e1
  by_cases e2 : client = client'
  case neg =>
    have HG := Lib.hid (decide_eq_false (p := _) (fun h : (⟨kind, client, ⟨op, key, hi, lim, val⟩, at_, an, keep⟩ : Ac) = ⟨kind, client', ⟨op', key', hi', lim', val'⟩, at_', an', keep'⟩ => e2 (congrArg (fun x => x.client) h)))
    have q : (client == client') = false := by simpa using e2
    have q2 : (client != client') = true := by simpa using e2
    go_wp2_with fail
    go_ret
    exact ⟨by rw [HG.out]; first | done | rfl, HB.out.1⟩
  subst e2
  by_cases e3 : op = op'
  case neg =>
    have HG := Lib.hid (decide_eq_false (p := _) (fun h : (⟨kind, client, ⟨op, key, hi, lim, val⟩, at_, an, keep⟩ : Ac) = ⟨kind, client, ⟨op', key', hi', lim', val'⟩, at_', an', keep'⟩ => e3 (congrArg (fun x => x.call.op) h)))
    have q : (op == op') = false := by simpa using e3
    have q2 : (op != op') = true := by simpa using e3
    go_wp2_with fail
    go_ret
    exact ⟨by rw [HG.out]; first | done | rfl, HB.out.1⟩
  subst e3
  by_cases e4 : key = key'
  case neg =>
    have HG := Lib.hid (decide_eq_false (p := _) (fun h : (⟨kind, client, ⟨op, key, hi, lim, val⟩, at_, an, keep⟩ : Ac) = ⟨kind, client, ⟨op, key', hi', lim', val'⟩, at_', an', keep'⟩ => e4 (congrArg (fun x => x.call.key) h)))
    have q : (key == key') = false := by simpa using e4
    have q2 : (key != key') = true := by simpa using e4
    go_wp2_with fail
    go_ret
    exact ⟨by rw [HG.out]; first | done | rfl, HB.out.1⟩
  subst e4
  by_cases e5 : hi = hi'
  case neg =>
    have HG := Lib.hid (decide_eq_false (p := _) (fun h : (⟨kind, client, ⟨op, key, hi, lim, val⟩, at_, an, keep⟩ : Ac) = ⟨kind, client, ⟨op, key, hi', lim', val'⟩, at_', an', keep'⟩ => e5 (congrArg (fun x => x.call.hi) h)))
    have q : (hi == hi') = false := by simpa using e5
    have q2 : (hi != hi') = true := by simpa using e5
    go_wp2_with fail
    go_ret
    exact ⟨by rw [HG.out]; first | done | rfl, HB.out.1⟩
  subst e5
  by_cases e6 : lim = lim'
  case neg =>
    have HG := Lib.hid (decide_eq_false (p := _) (fun h : (⟨kind, client, ⟨op, key, hi, lim, val⟩, at_, an, keep⟩ : Ac) = ⟨kind, client, ⟨op, key, hi, lim', val'⟩, at_', an', keep'⟩ => e6 (congrArg (fun x => x.call.lim) h)))
    have q : (lim == lim') = false := by simpa using e6
    have q2 : (lim != lim') = true := by simpa using e6
    go_wp2_with fail
    go_ret
    exact ⟨by rw [HG.out]; first | done | rfl, HB.out.1⟩
  subst e6
  by_cases e7 : val = val'
  case neg =>
    have HG := Lib.hid (decide_eq_false (p := _) (fun h : (⟨kind, client, ⟨op, key, hi, lim, val⟩, at_, an, keep⟩ : Ac) = ⟨kind, client, ⟨op, key, hi, lim, val'⟩, at_', an', keep'⟩ => e7 (congrArg (fun x => x.call.val) h)))
    have q : (val == val') = false := by simpa using e7
    have q2 : (val != val') = true := by simpa using e7
    go_wp2_with fail
    go_ret
    exact ⟨by rw [HG.out]; first | done | rfl, HB.out.1⟩
  subst e7
  by_cases e8 : at_ = at_'
  case neg =>
    have HG := Lib.hid (decide_eq_false (p := _) (fun h : (⟨kind, client, ⟨op, key, hi, lim, val⟩, at_, an, keep⟩ : Ac) = ⟨kind, client, ⟨op, key, hi, lim, val⟩, at_', an', keep'⟩ => e8 (congrArg (fun x => x.at_) h)))
    have q : (at_ == at_') = false := by simpa using e8
    have q2 : (at_ != at_') = true := by simpa using e8
    go_wp2_with fail
    go_ret
    exact ⟨by rw [HG.out]; first | done | rfl, HB.out.1⟩
  subst e8
  by_cases e9 : an = an'
  case neg =>
    have HG := Lib.hid (decide_eq_false (p := _) (fun h : (⟨kind, client, ⟨op, key, hi, lim, val⟩, at_, an, keep⟩ : Ac) = ⟨kind, client, ⟨op, key, hi, lim, val⟩, at_, an', keep'⟩ => e9 (congrArg (fun x => x.n) h)))
    have q : (an == an') = false := by simpa using e9
    have q2 : (an != an') = true := by simpa using e9
    go_wp2_with fail
    go_ret
    exact ⟨by rw [HG.out]; first | done | rfl, HB.out.1⟩
  subst e9
  by_cases e10 : keep.length = keep'.length
  case neg =>
    have HG := Lib.hid (decide_eq_false (p := _) (fun h : (⟨kind, client, ⟨op, key, hi, lim, val⟩, at_, an, keep⟩ : Ac) = ⟨kind, client, ⟨op, key, hi, lim, val⟩, at_, an, keep'⟩ => e10 (congrArg (fun x => x.keep.length) h)))
    have q : ((keep.length : Int) == (keep'.length : Int)) = false := by simp; omega
    have q2 : ((keep.length : Int) != (keep'.length : Int)) = true := by simp; omega
    have q3 : (keep.length == keep'.length) = false := by simpa using e10
    go_wp2_with fail
    go_ret
    exact ⟨by rw [HG.out]; first | done | rfl, HB.out.1⟩
  have HG := Lib.hid (show decide ((⟨kind, client, ⟨op, key, hi, lim, val⟩, at_, an, keep⟩ : Ac) = ⟨kind, client, ⟨op, key, hi, lim, val⟩, at_, an, keep'⟩) = decide (keep = keep') by simp)
  obtain ⟨m, hm⟩ : ∃ m, m = keep'.length := ⟨_, rfl⟩
  have hm2 : keep.length = m := by omega
  have hmb : m ≤ 1000000000 := by omega
  have HM := Lib.hid (And.intro hm hm2)
  rw [hm2] at d9 HN
  rw [← hm] at f9 HN
  rw [← hm, hm2] at HB
  clear hm hm2 e10
  go_wp2_with fail
  go_loopw [5] (fun s5 wr => ∃ k : Nat, k ≤ m ∧ s5 = .int .i64 k ∧ keep.take k = keep'.take k ∧ Below W.heap.size W wr) (fun s5 _ => m - (RowKit.intOf s5).toNat)
  case atStart => exact ⟨0, Nat.zero_le _, rfl, by simp, Below.refl _ _⟩
  case round =>
    obtain ⟨k, hk, rfl, hgood, hbel⟩ := hrel
    clear d0 d1 d2 d3 d4 d5 d6 d7 d8 d9 f0 f1 f2 f3 f4 f5 f6 f7 f8 f9
    obtain ⟨d0, d1, d2, d3, d4, d5, d6, d7, d8, d9⟩ := acCells (HN.out.1.below hbel HN.out.1.lt)
    obtain ⟨f0, f1, f2, f3, f4, f5, f6, f7, f8, f9⟩ := acCells (HN.out.2.below hbel HN.out.2.lt)
    have HR := Lib.hid (And.intro hgood hbel); clear hgood hbel
    by_cases hlt : k < m
    · obtain ⟨x, hx⟩ : ∃ x, keep[k]? = some x := ⟨_, List.getElem?_eq_getElem (by have := HM.out; omega)⟩
      obtain ⟨y, hy⟩ : ∃ y, keep'[k]? = some y := ⟨_, List.getElem?_eq_getElem (by have := HM.out; omega)⟩
      obtain ⟨ab, ao, rfl, _, ca⟩ := keep_row (l := keep) (by rw [HM.out.2]; exact HB.out.2.1) hx
      obtain ⟨bb, bo, rfl, _, cb⟩ := keep_row (l := keep') (by rw [← HM.out.1]; exact HB.out.2.2) hy
      have c1 := ca _ HR.out.2
      have c2 := cb _ HR.out.2
      clear ca cb
      have HXY := Lib.hid (And.intro hx hy); clear hx hy
      by_cases hxy : x = y
      · have q : (x != y) = false := by simpa using hxy
        have q2 : (x == y) = true := by simpa using hxy
        have HE := Lib.hid hxy; clear hxy
        go_upto_region 6 with fail
        go_quiet (fail)
        go_wp2_with fail
        go_roundw
        case rel =>
          refine ⟨k + 1, by omega, by go_num, ?_, below_drewN HR.out.2 _⟩
          rw [List.take_add_one, List.take_add_one, HXY.out.1, HXY.out.2, HR.out.1, HE.out]
        case measure => simp [RowKit.intOf]; omega
      · have q : (x != y) = true := by simpa using hxy
        have q2 : (x == y) = false := by simpa using hxy
        have HF := Lib.hid (decide_eq_false (p := keep = keep') (fun h => hxy (by
          have h1 := HXY.out.1
          rw [h, HXY.out.2] at h1
          injection h1 with h1
          exact h1.symm)))
        clear hxy
        go_upto_region 6 with fail
        go_quiet (fail)
        go_wp2_with fail
        go_ret
        exact ⟨by first | (rw [HG.out, HF.out]; first | done | rfl) | (rw [HF.out]; first | done | rfl), HB.out.1.trans ((below_drewN HR.out.2 _).mono HB.out.1.size)⟩
    · obtain rfl : k = m := by omega
      have HT := Lib.hid (decide_eq_true (p := keep = keep') (by
        have h := HR.out.1
        rw [List.take_of_length_le (by have := HM.out; omega), List.take_of_length_le (by have := HM.out; omega)] at h
        exact h))
      go_wp2_with fail
      go_ret
      exact ⟨by first | (rw [HG.out, HT.out]; first | done | rfl) | (rw [HT.out]; first | done | rfl), HB.out.1.trans (HR.out.2.mono HB.out.1.size)⟩

end Go.Proofs.YtbpbkmhipbchbaaGreatDoor.sc
