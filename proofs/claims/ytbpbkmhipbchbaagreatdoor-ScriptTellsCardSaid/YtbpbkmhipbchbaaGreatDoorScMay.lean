/-
  PROVED HERE: the contract of script's may: is an act what its own line says. Conditions: numbers of their kinds; a short line; the library's tables lie (Env).
-/
import Derived.Test.YtbpbkmhipbchbaaGreatDoorScOfLine
import Derived.Test.YtbpbkmhipbchbaaGreatDoorScLaw3
namespace Go.Proofs.YtbpbkmhipbchbaaGreatDoor.sc
open Go.RowKit
set_option linter.unusedVariables false

theorem join_few : ∀ l : List Bs, l.length ≤ (joinB l).length + 1
  | [] => by simp
  | [x] => by simp
  | x :: y :: r => by
    have := join_few (y :: r)
    rw [joinB_cons2]
    simp at this ⊢; omega
theorem lineOf_keep {s : Bs} {a : Ac} {n : Int} (h : lineOf s = some (a, n)) : a.keep.length ≤ s.length + 1 := by
  obtain ⟨h1, _, _, h4⟩ := lineOf_some h
  have h5 := join_few (wordsL a n)
  rw [show joinB (wordsL a n) = s from h4] at h5
  have : a.keep.length ≤ (wordsL a n).length := by
    rcases may_forms h1 with ⟨c, op, key, hi, lim, val, rfl, _⟩ | ⟨c, rfl⟩ | ⟨p, m, rfl⟩ | ⟨t, rfl⟩ | ⟨k, _, rfl⟩
    · simp
    · simp
    · simp
    · simp [wordsL]
    · simp
  omega
theorem words_few (a : Ac) (O : AcOk a) : (wordsL a 1).length ≤ 1000000 := by
  have h := O.few
  unfold wordsL callW
  repeat' split
  all_goals (simp; try omega)
theorem may_no1 {a : Ac} (h : a.kind < 1 ∨ 7 < a.kind ∨ (a.kind = 1 ∧ (a.call.op < 1 ∨ 4 < a.call.op))) : may a = false := if_pos h
theorem may_line {a : Ac} (h : ¬ (a.kind < 1 ∨ 7 < a.kind ∨ (a.kind = 1 ∧ (a.call.op < 1 ∨ 4 < a.call.op)))) : may a = match lineOf (lineL a 1) with
    | some (b, _) => decide (a = b)
    | none => false := if_neg h

set_option maxHeartbeats 4000000 in
set_option maxRecDepth 100000 in
/-- From region 3 on: the words, the line, its reading. -/
theorem may_bad {w : World} (a : Ac) (va : Value) (hva : RowR w va a.keep.length 1 (a.keep.map (Value.int .i64))) (h : a.kind < 1 ∨ 7 < a.kind ∨ (a.kind = 1 ∧ (a.call.op < 1 ∨ 4 < a.call.op))) :
    Calls Tryz.prog 48 #[.agg (acC a va)] w (fun e w' => e = .returned (.bool (may a)) ∧ Below w.heap.size w w') := by
  have HG := Lib.hid (may_no1 h)
  obtain ⟨A, c, rfl⟩ := hva.len
  clear hva
  obtain ⟨kind, client, ⟨op, key, hi, lim, val⟩, at_, an, keep⟩ := a
  simp only at h
  obtain ⟨W, hW⟩ : ∃ W, W = w.alloc (.cells (acC ⟨kind, client, ⟨op, key, hi, lim, val⟩, at_, an, keep⟩ (.slice A keep.length c)) 31) := ⟨_, rfl⟩
  have hA : Blk W w.heap.size 31 (acC ⟨kind, client, ⟨op, key, hi, lim, val⟩, at_, an, keep⟩ (.slice A keep.length c)) := by rw [hW]; exact Blk.new _ _ _
  have HB := Lib.hid (show Below w.heap.size w W by rw [hW]; exact (Below.refl _ _).alloc (Nat.le_refl _) _)
  obtain ⟨d0, d1, d2, d3, d4, d5, d6, d7, d8, d9⟩ := acCells hA
  clear hA d1 d3 d4 d5 d6 d7 d8 d9
  dsimp only at d0 d2
  by_cases h1 : kind < 1
  · clear h
    go_enter Tryz.func48, Tryz.ntmps48
    go_upto_region 1 with fail
    rw [← hW]
    clear hW
    go_wp2_with fail
    go_ret
    exact ⟨by rw [HG.out]; rfl, HB.out⟩
  · by_cases h7 : 7 < kind
    · clear h
      go_enter Tryz.func48, Tryz.ntmps48
      go_upto_region 1 with fail
      rw [← hW]
      clear hW
      go_wp2_with fail
      go_ret
      exact ⟨by rw [HG.out]; rfl, HB.out⟩
    · obtain ⟨rfl, h⟩ : kind = 1 ∧ (op < 1 ∨ 4 < op) := by omega
      clear h1 h7
      by_cases h2 : op < 1
      · clear h
        go_enter Tryz.func48, Tryz.ntmps48
        go_upto_region 1 with fail
        rw [← hW]
        clear hW
        go_wp2_with fail
        go_ret
        exact ⟨by rw [HG.out]; rfl, HB.out⟩
      · have h4 : 4 < op := by omega
        clear h
        go_enter Tryz.func48, Tryz.ntmps48
        go_upto_region 1 with fail
        rw [← hW]
        clear hW
        go_wp2_with fail
        go_ret
        exact ⟨by rw [HG.out]; rfl, HB.out⟩

set_option maxHeartbeats 4000000 in
set_option maxRecDepth 100000 in
theorem may_good {w : World} (a : Ac) (va : Value) (hva : RowR w va a.keep.length 1 (a.keep.map (Value.int .i64))) (O : AcOk a) (hlen : (lineL a 1).length ≤ 900000) (E : Env w)
    (h : ¬ (a.kind < 1 ∨ 7 < a.kind ∨ (a.kind = 1 ∧ (a.call.op < 1 ∨ 4 < a.call.op)))) :
    Calls Tryz.prog 48 #[.agg (acC a va)] w (fun e w' => e = .returned (.bool (may a)) ∧ Below w.heap.size w w') := by
  have HG := Lib.hid (may_line h)
  have HO := Lib.hid (And.intro O (And.intro hva (And.intro hlen (And.intro E (And.intro (show I64 1 by unfold I64; omega) h)))))
  obtain ⟨A, c, rfl⟩ := hva.len
  clear O hva hlen E
  obtain ⟨kind, client, ⟨op, key, hi, lim, val⟩, at_, an, keep⟩ := a
  simp only at h
  obtain ⟨W, hW⟩ : ∃ W, W = w.alloc (.cells (acC ⟨kind, client, ⟨op, key, hi, lim, val⟩, at_, an, keep⟩ (.slice A keep.length c)) 31) := ⟨_, rfl⟩
  have hA : Blk W w.heap.size 31 (acC ⟨kind, client, ⟨op, key, hi, lim, val⟩, at_, an, keep⟩ (.slice A keep.length c)) := by rw [hW]; exact Blk.new _ _ _
  have HB := Lib.hid (And.intro hA (show Below w.heap.size w W by rw [hW]; exact (Below.refl _ _).alloc (Nat.le_refl _) _))
  clear hA
  obtain ⟨d0, d1, d2, d3, d4, d5, d6, d7, d8, d9⟩ := acCells HB.out.1
  dsimp only at d0 d1 d2 d3 d4 d5 d6 d7 d8 d9
  have h1 : ¬ kind < 1 := by omega
  have h7 : ¬ 7 < kind := by omega
  have hsplit : (kind == 1) = false ∨ ((kind == 1) = true ∧ ¬ op < 1 ∧ ¬ 4 < op) := by
    by_cases hk : kind = 1
    · right; refine ⟨by simpa using hk, by omega, by omega⟩
    · left; simpa using hk
  clear h
  rcases hsplit with e1 | ⟨e1, h2, h4⟩
  all_goals
    go_enter Tryz.func48, Tryz.ntmps48
    go_upto_region 1 with fail
    rw [← hW]
    clear hW
    go_wp2_with fail
    refine (words_any ⟨kind, client, ⟨op, key, hi, lim, val⟩, at_, an, keep⟩ (.slice A keep.length c) 1 HO.out.2.2.2.2.1 (by simp only; omega) (by simp only; omega) (by have := HO.out.2.2.2.2.2; simp only at this ⊢; omega) (HO.out.2.1.next HB.out.2) HO.out.1 (HO.out.2.2.2.1.next HB.out.2)).mono ?_; rintro e w1 ⟨v1, rfl, ho1, hb1⟩
    have H1 := Lib.hid (And.intro (StrsAt.of_own ho1) hb1); clear ho1 hb1
    clear d0 d1 d2 d3 d4 d5 d6 d7 d8 d9
    go_wp2_with fail
    refine (join_any H1.out.1 (by have := words_few _ HO.out.1; omega) (by have := HO.out.2.2.1; unfold lineL at this; omega)).mono ?_; rintro e w2 ⟨rfl, hb2⟩
    have hk2 : Below W.heap.size W w2 := H1.out.2.trans (hb2.mono H1.out.2.size)
    have H2 := Lib.hid hk2; clear hk2 hb2
    go_wp2_with fail
    refine (ofLine_any (lineL ⟨kind, client, ⟨op, key, hi, lim, val⟩, at_, an, keep⟩ 1) HO.out.2.2.1 ((HO.out.2.2.2.1.next HB.out.2).next H2.out)).mono ?_; rintro e w3 ⟨hb3, he⟩
    have hk3 : Below W.heap.size W w3 := H2.out.trans (hb3.mono H2.out.size)
    have H3 := Lib.hid hk3; clear hk3 hb3
    cases hl : lineOf (lineL ⟨kind, client, ⟨op, key, hi, lim, val⟩, at_, an, keep⟩ 1) with
    | none =>
      rw [hl] at he
      obtain rfl := he
      have HQ := Lib.hid hl; clear hl
      unfold acC
      go_wp2_with fail
      go_ret
      refine ⟨by rw [HG.out, HQ.out]; rfl, ?_⟩
      exact (HB.out.2.trans (H3.out.mono HB.out.2.size)).alloc (HB.out.2.trans (H3.out.mono HB.out.2.size)).size _
    | some p =>
      obtain ⟨b, m⟩ := p
      rw [hl] at he
      obtain ⟨kb, rfl, hkb, hfb⟩ := he
      have HQ := Lib.hid hl; clear hl hfb
      obtain ⟨kA, kc, rfl⟩ := hkb.len
      have hbl : b.keep.length ≤ 1000000000 := by
        obtain ⟨hm1, hm2, hm3, hm4⟩ := lineOf_some HQ.out
        have := lineOf_keep HQ.out
        have := HO.out.2.2.1
        omega
      obtain ⟨kindb, clientb, ⟨opb, keyb, hib, limb, valb⟩, atb, anb, keepb⟩ := b
      obtain ⟨W4, hW4⟩ : ∃ W4, W4 = w3.alloc (.cells (acC ⟨kindb, clientb, ⟨opb, keyb, hib, limb, valb⟩, atb, anb, keepb⟩ (.slice kA keepb.length kc)) 31) := ⟨_, rfl⟩
      have hk4 : Below W.heap.size W W4 := by rw [hW4]; exact H3.out.alloc H3.out.size _
      have hb4 : Blk W4 w3.heap.size 31 (acC ⟨kindb, clientb, ⟨opb, keyb, hib, limb, valb⟩, atb, anb, keepb⟩ (.slice kA keepb.length kc)) := by rw [hW4]; exact Blk.new _ _ _
      have H4 := Lib.hid (And.intro (HB.out.1.below hk4 HB.out.1.lt) (And.intro hb4 (And.intro (HO.out.2.1.next (HB.out.2.trans (hk4.mono HB.out.2.size))) (And.intro (show RowR W4 _ _ _ _ by rw [hW4]; exact hkb.next ((Below.refl _ _).alloc (Nat.le_refl _) _)) (And.intro (HB.out.2.trans (hk4.mono HB.out.2.size)) hbl)))))
      clear hk4 hb4 hkb hbl
      unfold acC
      go_upto_region 4 with fail
      unfold acC at hW4
      dsimp only at hW4
      rw [← hW4]
      clear hW4
      obtain ⟨d0, d1, d2, d3, d4, d5, d6, d7, d8, d9⟩ := acCells H4.out.1
      obtain ⟨f0, f1, f2, f3, f4, f5, f6, f7, f8, f9⟩ := acCells H4.out.2.1
      dsimp only at d0 d1 d2 d3 d4 d5 d6 d7 d8 d9 f0 f1 f2 f3 f4 f5 f6 f7 f8 f9
      go_wp2_with fail
      refine (same_any ⟨kind, client, ⟨op, key, hi, lim, val⟩, at_, an, keep⟩ ⟨kindb, clientb, ⟨opb, keyb, hib, limb, valb⟩, atb, anb, keepb⟩ (.slice A keep.length c) (.slice kA keepb.length kc) H4.out.2.2.1 H4.out.2.2.2.1 (by have := HO.out.1.few; omega) H4.out.2.2.2.2.2).mono ?_; rintro e w6 ⟨he6, hb6⟩
      obtain ⟨q, hq⟩ : ∃ q, q = decide ((⟨kind, client, ⟨op, key, hi, lim, val⟩, at_, an, keep⟩ : Ac) = ⟨kindb, clientb, ⟨opb, keyb, hib, limb, valb⟩, atb, anb, keepb⟩) := ⟨_, rfl⟩
      rw [← hq] at he6
      obtain rfl := he6
      have HQ2 := Lib.hid hq; clear hq
      clear d0 d1 d2 d3 d4 d5 d6 d7 d8 d9 f0 f1 f2 f3 f4 f5 f6 f7 f8 f9
      go_wp2_with fail
      go_ret
      exact ⟨by rw [HG.out, HQ.out]; show _ = Ending.returned (Value.bool (decide _)); rw [← HQ2.out]; rfl, H4.out.2.2.2.2.1.trans (hb6.mono H4.out.2.2.2.2.1.size)⟩

theorem may_any {w : World} (a : Ac) (va : Value) (hva : RowR w va a.keep.length 1 (a.keep.map (Value.int .i64))) (O : AcOk a) (hlen : (lineL a 1).length ≤ 900000) (E : Env w) :
    Calls Tryz.prog 48 #[.agg (acC a va)] w (fun e w' => e = .returned (.bool (may a)) ∧ Below w.heap.size w w') := by
  by_cases h : a.kind < 1 ∨ 7 < a.kind ∨ (a.kind = 1 ∧ (a.call.op < 1 ∨ 4 < a.call.op))
  · exact may_bad a va hva h
  · exact may_good a va hva O hlen E h

end Go.Proofs.YtbpbkmhipbchbaaGreatDoor.sc
