/-
  PROVED HERE: the contract of script's Line: the line of so many acts, or ErrArg. Conditions: numbers of their kinds; a short line; the library's tables lie (Env).
-/
import Derived.Test.YtbpbkmhipbchbaaGreatDoorScMay
namespace Go.Proofs.YtbpbkmhipbchbaaGreatDoor.sc
open Go.RowKit
set_option linter.unusedVariables false

/-- May an act stand so many times in a line? -/
def lineOk (a : Ac) (n : Int) : Bool := may a && decide (1 ≤ n) && decide (n ≤ 100000) && (decide (n ≤ 1) || again a)
theorem words_few2 (a : Ac) (n : Int) (O : AcOk a) : (wordsL a n).length ≤ 1000000 := by
  have h := O.few
  unfold wordsL callW
  repeat' split
  all_goals (simp; try omega)
theorem res_line {X : World} {tmps : Array Value} {a b : Value} (h4 : tmps[4]? = some a) (h5 : tmps[5]? = some b) : (results Tryz.f15 tmps).run Tryz.prog X = .ok (.tuple #[a, b]) X := by
  simp [results, Tryz.results15, go_sem, h4, h5]
def LinePost (w : World) (a : Ac) (n : Int) (e : Ending) (w' : World) : Prop :=
  Below w.heap.size w w' ∧ e = .returned (if lineOk a n then .tuple #[.string (mk (lineL a n)), .int .i64 0] else .tuple #[.string ⟨#[]⟩, .int .i64 2])

set_option maxHeartbeats 4000000 in
set_option maxRecDepth 100000 in
theorem line_any {w : World} (a : Ac) (va : Value) (n : Int) (hn : I64 n) (hva : RowR w va a.keep.length 1 (a.keep.map (Value.int .i64))) (O : AcOk a) (hlen : (lineL a 1).length ≤ 900000) (hlen2 : (lineL a n).length ≤ 140737488355328) (E : Env w) :
    Calls Tryz.prog 15 #[.agg (acC a va), .int .i64 n] w (LinePost w a n) := by
  have HO := Lib.hid (And.intro O (And.intro hva (And.intro hlen (And.intro E (And.intro hn hlen2)))))
  obtain ⟨A, c, rfl⟩ := hva.len
  obtain ⟨n0, n1⟩ := hn
  clear O hva hlen hlen2 E
  obtain ⟨m, hm⟩ : ∃ m, m = may a := ⟨_, rfl⟩
  obtain ⟨g, hg⟩ : ∃ g, g = again a := ⟨_, rfl⟩
  have HM := Lib.hid hm
  have HG := Lib.hid hg
  have HK := Lib.hid (show lineOk a n = (m && decide (1 ≤ n) && decide (n ≤ 100000) && (decide (n ≤ 1) || g)) by rw [hm, hg]; rfl)
  obtain ⟨a0, ha0⟩ : ∃ a0, a0 = a := ⟨_, rfl⟩
  have H7 := Lib.hid (show m = true → 1 ≤ a.kind ∧ a.kind ≤ 7 ∧ (a.kind = 1 → 1 ≤ a.call.op ∧ a.call.op ≤ 4) from fun h => by
    rw [hm] at h
    unfold may at h
    split at h
    · cases h
    · rename_i h'; omega)
  clear hm hg
  obtain ⟨kind, client, ⟨op, key, hi, lim, val⟩, at_, an, keep⟩ := a
  obtain ⟨W, hW⟩ : ∃ W, W = w.alloc (.cells (acC ⟨kind, client, ⟨op, key, hi, lim, val⟩, at_, an, keep⟩ (.slice A keep.length c)) 31) := ⟨_, rfl⟩
  have HB := Lib.hid (And.intro (show Blk W w.heap.size 31 (acC ⟨kind, client, ⟨op, key, hi, lim, val⟩, at_, an, keep⟩ (.slice A keep.length c)) by rw [hW]; exact Blk.new _ _ _) (show Below w.heap.size w W by rw [hW]; exact (Below.refl _ _).alloc (Nat.le_refl _) _))
  obtain ⟨d0, d1, d2, d3, d4, d5, d6, d7, d8, d9⟩ := acCells HB.out.1
  dsimp only at d0 d1 d2 d3 d4 d5 d6 d7 d8 d9
  go_enter Tryz.func15, Tryz.ntmps15
  go_upto_region 1 with fail
  rw [← hW]
  clear hW ha0 a0
  go_wp2_with fail
  refine (may_any ⟨kind, client, ⟨op, key, hi, lim, val⟩, at_, an, keep⟩ (.slice A keep.length c) (HO.out.2.1.next HB.out.2) HO.out.1 HO.out.2.2.1 (HO.out.2.2.2.1.next HB.out.2)).mono ?_; rintro e w1 ⟨he, hb1⟩
  rw [← HM.out] at he
  obtain rfl := he
  have HB1 := Lib.hid (And.intro (HB.out.1.below hb1 HB.out.1.lt) (HB.out.2.trans (hb1.mono HB.out.2.size)))
  clear hb1 d0 d1 d2 d3 d4 d5 d6 d7 d8 d9
  obtain ⟨d0, d1, d2, d3, d4, d5, d6, d7, d8, d9⟩ := acCells HB1.out.1
  dsimp only at d0 d1 d2 d3 d4 d5 d6 d7 d8 d9
  have HAG := Lib.hid (again_any (w := w1) ⟨kind, client, ⟨op, key, hi, lim, val⟩, at_, an, keep⟩ A keep.length c)
  cases m with
  | false =>
    go_wp2_with fail
    refine bodyPost_ret (res_line rfl rfl) rfl ⟨HB1.out.2, ?_⟩
    rw [HK.out]
    rfl
  | true =>
    by_cases h1 : n < 1
    · go_wp2_with fail
      refine bodyPost_ret (res_line rfl rfl) rfl ⟨HB1.out.2, ?_⟩
      rw [HK.out]
      rw [decide_eq_false (show ¬ 1 ≤ n by omega)]; rfl
    · by_cases h2 : 100000 < n
      · go_wp2_with fail
        refine bodyPost_ret (res_line rfl rfl) rfl ⟨HB1.out.2, ?_⟩
        rw [HK.out]
        rw [decide_eq_false (show ¬ n ≤ 100000 by omega), Bool.and_false]; rfl
      · have HL := Lib.hid (And.intro h1 h2)
        by_cases h3 : 1 < n
        · go_wp2_with fail
          refine HAG.out.mono ?_; rintro e w2 ⟨he, hb2⟩
          rw [← HG.out] at he
          obtain rfl := he
          have HB2 := Lib.hid (And.intro (HB1.out.1.below hb2 HB1.out.1.lt) (HB1.out.2.trans (hb2.mono HB1.out.2.size)))
          clear hb2 d0 d1 d2 d3 d4 d5 d6 d7 d8 d9
          obtain ⟨d0, d1, d2, d3, d4, d5, d6, d7, d8, d9⟩ := acCells HB2.out.1
          dsimp only at d0 d1 d2 d3 d4 d5 d6 d7 d8 d9
          cases g with
          | false =>
            go_wp2_with fail
            refine bodyPost_ret (res_line rfl rfl) rfl ⟨HB2.out.2, ?_⟩
            rw [HK.out, decide_eq_false (show ¬ n ≤ 1 by omega), Bool.false_or, Bool.and_false]; rfl
          | true =>
            go_wp2_with fail
            refine (words_any ⟨kind, client, ⟨op, key, hi, lim, val⟩, at_, an, keep⟩ (.slice A keep.length c) n HO.out.2.2.2.2.1 (H7.out (by trivial)).1 (H7.out (by trivial)).2.1 (H7.out (by trivial)).2.2 (HO.out.2.1.next HB2.out.2) HO.out.1 (HO.out.2.2.2.1.next HB2.out.2)).mono ?_; rintro e w3 ⟨v1, rfl, ho1, hb3⟩
            clear d0 d1 d2 d3 d4 d5 d6 d7 d8 d9
            go_wp2_with fail
            refine (join_any (StrsAt.of_own ho1) (by have := words_few2 _ n HO.out.1; omega) (by have := HO.out.2.2.2.2.2; unfold lineL at this; exact this)).mono ?_; rintro e w4 ⟨rfl, hb4⟩
            have HB4 := Lib.hid (HB2.out.2.trans ((hb3.trans (hb4.mono hb3.size)).mono HB2.out.2.size))
            clear ho1 hb3 hb4
            go_wp2_with fail
            refine bodyPost_ret (res_line rfl rfl) rfl ⟨HB4.out, ?_⟩
            rw [HK.out, decide_eq_true (show 1 ≤ n by have := HL.out; omega), decide_eq_true (show n ≤ 100000 by have := HL.out; omega), Bool.or_true]; rfl
        · have HN1 := Lib.hid h3
          go_wp2_with fail
          refine (words_any ⟨kind, client, ⟨op, key, hi, lim, val⟩, at_, an, keep⟩ (.slice A keep.length c) n HO.out.2.2.2.2.1 (H7.out (by trivial)).1 (H7.out (by trivial)).2.1 (H7.out (by trivial)).2.2 (HO.out.2.1.next HB1.out.2) HO.out.1 (HO.out.2.2.2.1.next HB1.out.2)).mono ?_; rintro e w3 ⟨v1, rfl, ho1, hb3⟩
          clear d0 d1 d2 d3 d4 d5 d6 d7 d8 d9
          go_wp2_with fail
          refine (join_any (StrsAt.of_own ho1) (by have := words_few2 _ n HO.out.1; omega) (by have := HO.out.2.2.2.2.2; unfold lineL at this; exact this)).mono ?_; rintro e w4 ⟨rfl, hb4⟩
          have HB4 := Lib.hid (HB1.out.2.trans ((hb3.trans (hb4.mono hb3.size)).mono HB1.out.2.size))
          clear ho1 hb3 hb4
          go_wp2_with fail
          refine bodyPost_ret (res_line rfl rfl) rfl ⟨HB4.out, ?_⟩
          rw [HK.out, decide_eq_true (show 1 ≤ n by have := HL.out; omega), decide_eq_true (show n ≤ 100000 by have := HL.out; omega), decide_eq_true (show n ≤ 1 by have := HN1.out; omega)]; rfl

end Go.Proofs.YtbpbkmhipbchbaaGreatDoor.sc
