/-
  PROVED HERE: the law ScriptTexts answers true. Conditions: numbers of their kinds; the library's tables lie (Env).
-/
import Derived.Test.YtbpbkmhipbchbaaGreatDoorScTP
import Derived.Test.YtbpbkmhipbchbaaGreatDoorScR4
import Derived.Test.YtbpbkmhipbchbaaGreatDoorScPar
import Derived.Test.YtbpbkmhipbchbaaGreatDoorScOpen
import Derived.Test.YtbpbkmhipbchbaaGreatDoorScLines
namespace Go.Proofs.YtbpbkmhipbchbaaGreatDoor.sc
open Go Go.RowKit
set_option linter.unusedVariables false

/-- What the law wants to know of a script of few acts. -/
structure FewT (s : Sc) : Prop where
  ok : AcsOk s.acts
  ty : ∀ a ∈ s.acts, Typed a
  few : s.acts.length ≤ 200
  val : ∀ a ∈ s.acts, a.call.val.length ≤ 300 ∧ a.keep.length ≤ 30
  line : ∀ a ∈ s.acts, ∀ n : Int, I64 n → (lineL a n).length ≤ 30000
  num : I64 s.slabs ∧ I64 s.clients
theorem few_of {s : Sc} (h : fewB s = true) (T : ∀ a ∈ s.acts, AcTy a) (h1 : I64 s.slabs) (h2 : I64 s.clients) : FewT s := by
  obtain ⟨h3, h4⟩ := few_len h
  have hl : ∀ a ∈ s.acts, ∀ n : Int, I64 n → (lineL a n).length ≤ 30000 := fun a ha n hn => Nat.le_trans (line_short (T a ha) (h4 a ha).1 (h4 a ha).2 n hn) (by decide)
  exact ⟨fun a ha => ⟨ty_ok (T a ha) (h4 a ha).1 (h4 a ha).2, Nat.le_trans (hl a ha 1 ⟨by decide, by decide⟩) (by decide)⟩, fun a ha => ty_typed (T a ha), h3, h4, hl, h1, h2⟩
theorem may_all {s : Sc} (h : mayS s = true) (T : ∀ a ∈ s.acts, Typed a) : ∀ a ∈ s.acts, May a ∧ Typed a := by
  intro a ha
  have hm := h
  rw [← mayR_eq T] at hm
  unfold mayR at hm
  simp only [Bool.and_eq_true, List.all_eq_true] at hm
  exact ⟨(mayAct_iff a).1 (hm.2 a ha), T a ha⟩
theorem may_nums {s : Sc} (h : mayS s = true) : (0 ≤ s.slabs ∧ s.slabs ≤ 64) ∧ 0 ≤ s.clients ∧ s.clients ≤ 64 := by
  unfold mayS at h
  simp only [Bool.and_eq_true, decide_eq_true_eq] at h
  obtain ⟨⟨⟨⟨⟨h1, h2⟩, h3⟩, h4⟩, _⟩, _⟩ := h
  exact ⟨⟨by omega, h2⟩, by omega, h4⟩

set_option maxHeartbeats 4000000 in
set_option maxRecDepth 100000 in
theorem texts_any {w : World} (s : Sc) (v : Value) (h : ActsR w v s.acts) (hs : I64 s.slabs) (hc : I64 s.clients) (T : ∀ a ∈ s.acts, AcTy a) (E : Env w) :
    Calls Tryz.prog 6 #[.agg (scC s v)] w fun e w' => e = .returned (.bool true) ∧ Below w.heap.size w w' := by
  obtain ⟨A, c, rfl⟩ := h.len
  obtain ⟨slabs, clients, acts⟩ := s
  dsimp only at h hs hc T
  obtain ⟨W, hW⟩ : ∃ W, W = w.alloc (.cells #[.int .i64 slabs, .int .i64 clients, .slice A acts.length c] 58) := ⟨_, rfl⟩
  have hbW : Below w.heap.size w W := by rw [hW]; exact (Below.refl _ _).alloc (Nat.le_refl _) _
  have HB := Lib.hid (And.intro (show ScInv w ⟨slabs, clients, acts⟩ A c W by rw [hW]; exact ⟨Blk.new _ _ _, h.next ((Below.refl _ _).alloc (Nat.le_refl _) _), (Below.refl _ _).alloc (Nat.le_refl _) _⟩) (E.next hbW))
  have HF := Lib.hid (fun q => few_of (s := ⟨slabs, clients, acts⟩) q T hs hc); clear h hs hc T E hbW
  have d0 : W.cell? ⟨w.heap.size, 0, none⟩ = some (.int .i64 slabs) := HB.out.1.1.cell 0
  have d1 : W.cell? ⟨w.heap.size, 1, none⟩ = some (.int .i64 clients) := HB.out.1.1.cell 1
  have d2 : W.cell? ⟨w.heap.size, 2, none⟩ = some (.slice A acts.length c) := HB.out.1.1.cell 2
  unfold scC
  dsimp only
  go_enter Tryz.func6, Tryz.ntmps6
  go_upto_region 1 with fail
  rw [← hW]
  clear hW
  go_wp2_with fail
  refine (few_any ⟨slabs, clients, acts⟩ (.slice A acts.length c) HB.out.1.2.1).mono ?_
  rintro e w1 ⟨he, hb1⟩
  obtain ⟨q, hq⟩ : ∃ q, q = fewB ⟨slabs, clients, acts⟩ := ⟨_, rfl⟩
  rw [← hq] at he
  obtain rfl := he
  have H1 := Lib.hid (And.intro (HB.out.1.call hb1) (HB.out.2.next hb1)); clear hb1 d0 d1 d2
  cases q with
  | false =>
    clear hq
    go_wp2_with fail
    refine (known_any H1.out.2).mono ?_; rintro e w2 ⟨rfl, hb2⟩
    have H2 := Lib.hid (H1.out.1.call hb2); clear hb2
    go_wp2_with fail
    go_ret
    exact ⟨rfl, H2.out.2.2⟩
  | true =>
    have HFT := Lib.hid (HF.out hq.symm); clear hq
    have d0 : w1.cell? ⟨w.heap.size, 0, none⟩ = some (.int .i64 slabs) := H1.out.1.1.cell 0
    have d1 : w1.cell? ⟨w.heap.size, 1, none⟩ = some (.int .i64 clients) := H1.out.1.1.cell 1
    have d2 : w1.cell? ⟨w.heap.size, 2, none⟩ = some (.slice A acts.length c) := H1.out.1.1.cell 2
    go_wp2_with fail
    refine (text_any ⟨slabs, clients, acts⟩ (.slice A acts.length c) H1.out.1.2.1 HFT.out.ok (by have := HFT.out.few; simp only at this ⊢; omega) (fun a ha n h1 h2 => Nat.le_trans (HFT.out.line a ha n ⟨by omega, by omega⟩) (by decide)) HFT.out.num H1.out.2).mono ?_
    rintro e w2 ⟨hb2, he⟩
    obtain ⟨m, hm⟩ : ∃ m, m = mayS ⟨slabs, clients, acts⟩ := ⟨_, rfl⟩
    rw [← hm] at he
    have HM := Lib.hid hm; clear hm
    have H2 := Lib.hid (And.intro (H1.out.1.call hb2) (H1.out.2.next hb2)); clear hb2 d0 d1 d2
    have d0 : w2.cell? ⟨w.heap.size, 0, none⟩ = some (.int .i64 slabs) := H2.out.1.1.cell 0
    have d1 : w2.cell? ⟨w.heap.size, 1, none⟩ = some (.int .i64 clients) := H2.out.1.1.cell 1
    have d2 : w2.cell? ⟨w.heap.size, 2, none⟩ = some (.slice A acts.length c) := H2.out.1.1.cell 2
    have HMR := Lib.hid (show mayR ⟨slabs, clients, acts⟩ = m from by rw [mayR_eq HFT.out.ty]; exact HM.out.symm)
    have HKL := Lib.hid (show (∀ a ∈ acts, a.keep.length ≤ 1000000000) ∧ acts.length ≤ 1000000000 from ⟨fun a ha => by have := (HFT.out.val a ha).2; omega, by have := HFT.out.few; simp only at this; omega⟩)
    cases m with
    | false =>
      obtain rfl : e = .returned (.tuple #[.string ⟨#[]⟩, .int .i64 2]) := he
      go_wp2_with fail
      refine (rMayS_any ⟨slabs, clients, acts⟩ (.slice A acts.length c) H2.out.1.2.1 HKL.out.1 HKL.out.2).mono ?_
      rintro e w3 ⟨he, hb3⟩
      rw [HMR.out] at he
      obtain rfl := he
      have H3 := Lib.hid (And.intro (H2.out.1.call hb3) (H2.out.2.next hb3)); clear hb3 d0 d1 d2
      have d0 : w3.cell? ⟨w.heap.size, 0, none⟩ = some (.int .i64 slabs) := H3.out.1.1.cell 0
      have d1 : w3.cell? ⟨w.heap.size, 1, none⟩ = some (.int .i64 clients) := H3.out.1.1.cell 1
      have d2 : w3.cell? ⟨w.heap.size, 2, none⟩ = some (.slice A acts.length c) := H3.out.1.1.cell 2
      go_wp2_with fail
      refine (mayS_any ⟨slabs, clients, acts⟩ (.slice A acts.length c) H3.out.1.2.1 HFT.out.ok (by have := HFT.out.few; simp only at this ⊢; omega) H3.out.2).mono ?_
      rintro e w4 ⟨he, hb4⟩
      rw [← HM.out] at he
      obtain rfl := he
      have H4 := Lib.hid (And.intro (H3.out.1.call hb4) (H3.out.2.next hb4)); clear hb4 d0 d1 d2
      go_wp2_with fail
      refine (known_any H4.out.2).mono ?_; rintro e w5 ⟨rfl, hb5⟩
      have H5 := Lib.hid (H4.out.1.call hb5); clear hb5
      go_wp2_with fail
      go_ret
      exact ⟨rfl, H5.out.2.2⟩
    | true =>
      obtain ⟨tx, htx⟩ : ∃ x, x = textL ⟨slabs, clients, acts⟩ := ⟨_, rfl⟩
      rw [← htx] at he
      have HTX := Lib.hid htx; clear htx
      obtain rfl : e = .returned (.tuple #[.string (mk tx), .int .i64 0]) := he
      go_wp2_with fail
      refine (rMayS_any ⟨slabs, clients, acts⟩ (.slice A acts.length c) H2.out.1.2.1 HKL.out.1 HKL.out.2).mono ?_
      rintro e w3 ⟨he, hb3⟩
      rw [HMR.out] at he
      obtain rfl := he
      have H3 := Lib.hid (And.intro (H2.out.1.call hb3) (H2.out.2.next hb3)); clear hb3 d0 d1 d2
      have d0 : w3.cell? ⟨w.heap.size, 0, none⟩ = some (.int .i64 slabs) := H3.out.1.1.cell 0
      have d1 : w3.cell? ⟨w.heap.size, 1, none⟩ = some (.int .i64 clients) := H3.out.1.1.cell 1
      have d2 : w3.cell? ⟨w.heap.size, 2, none⟩ = some (.slice A acts.length c) := H3.out.1.1.cell 2
      go_wp2_with fail
      refine (mayS_any ⟨slabs, clients, acts⟩ (.slice A acts.length c) H3.out.1.2.1 HFT.out.ok (by have := HFT.out.few; simp only at this ⊢; omega) H3.out.2).mono ?_
      rintro e w4 ⟨he, hb4⟩
      rw [← HM.out] at he
      obtain rfl := he
      have H4 := Lib.hid (And.intro (H3.out.1.call hb4) (H3.out.2.next hb4)); clear hb4 d0 d1 d2
      have HMA := Lib.hid (may_all HM.out.symm HFT.out.ty)
      go_wp2_with fail
      refine (parse_any tx (by rw [HTX.out]; exact Nat.le_trans (text_len HM.out.symm HFT.out.line HFT.out.few) (by decide)) (by rw [HTX.out]; exact fun x hx => Nat.le_trans (text_lines HM.out.symm HMA.out HFT.out.line (by have := HFT.out.few; omega) (by decide) x hx) (by decide)) H4.out.2).mono ?_
      rintro e w5 ⟨hb5, v5, ha5, he⟩
      rw [HTX.out, parse_text HM.out.symm HMA.out] at he ha5
      dsimp only at he ha5
      obtain ⟨A5, c5, rfl⟩ := ha5.len
      unfold scC at he
      dsimp only at he
      obtain rfl := he
      obtain ⟨X, hX⟩ : ∃ X, X = w5.alloc (.cells #[.int .i64 slabs, .int .i64 clients, .slice A5 acts.length c5] 58) := ⟨_, rfl⟩
      have hbX : Below w4.heap.size w4 X := by rw [hX]; exact hb5.alloc hb5.size _
      have HX := Lib.hid (And.intro (H4.out.1.call hbX) (And.intro (H4.out.2.next hbX) (And.intro (show Blk X w5.heap.size 58 #[.int .i64 slabs, .int .i64 clients, .slice A5 acts.length c5] by rw [hX]; exact Blk.new _ _ _) (show ActsR X (.slice A5 acts.length c5) acts from ha5.next (by rw [hX]; exact (Below.refl _ _).alloc (Nat.le_refl _) _)))))
      obtain ⟨g, hg⟩ : ∃ g, g = w5.heap.size := ⟨_, rfl⟩
      rw [← hg] at HX
      clear hb5 ha5 hbX
      go_upto_region 10 with fail
      rw [← hX, ← hg]
      clear hX hg
      have d0 : X.cell? ⟨w.heap.size, 0, none⟩ = some (.int .i64 slabs) := HX.out.1.1.cell 0
      have d1 : X.cell? ⟨w.heap.size, 1, none⟩ = some (.int .i64 clients) := HX.out.1.1.cell 1
      have d2 : X.cell? ⟨w.heap.size, 2, none⟩ = some (.slice A acts.length c) := HX.out.1.1.cell 2
      go_wp2_with fail
      refine (rText_any ⟨slabs, clients, acts⟩ (.slice A acts.length c) HX.out.1.2.1 HMA.out HFT.out.val HFT.out.few HFT.out.line (may_nums HM.out.symm).1 (may_nums HM.out.symm).2).mono ?_
      rintro e w6 ⟨he, hb6⟩
      rw [← HTX.out] at he
      obtain rfl := he
      have H6 := Lib.hid (And.intro (HX.out.1.call hb6) (And.intro (HX.out.2.1.next hb6) (And.intro (HX.out.2.2.1.below hb6 HX.out.2.2.1.lt) (HX.out.2.2.2.next hb6)))); clear hb6 d0 d1 d2
      have d0 : w6.cell? ⟨w.heap.size, 0, none⟩ = some (.int .i64 slabs) := H6.out.1.1.cell 0
      have d1 : w6.cell? ⟨w.heap.size, 1, none⟩ = some (.int .i64 clients) := H6.out.1.1.cell 1
      have d2 : w6.cell? ⟨w.heap.size, 2, none⟩ = some (.slice A acts.length c) := H6.out.1.1.cell 2
      have f0 : w6.cell? ⟨g, 0, none⟩ = some (.int .i64 slabs) := H6.out.2.2.1.cell 0
      have f1 : w6.cell? ⟨g, 1, none⟩ = some (.int .i64 clients) := H6.out.2.2.1.cell 1
      have f2 : w6.cell? ⟨g, 2, none⟩ = some (.slice A5 acts.length c5) := H6.out.2.2.1.cell 2
      go_wp2_with fail
      refine (rSameScripts_any ⟨slabs, clients, acts⟩ ⟨slabs, clients, acts⟩ (.slice A5 acts.length c5) (.slice A acts.length c) H6.out.2.2.2 H6.out.1.2.1 HKL.out.1 HKL.out.2).mono ?_
      rintro e w7 ⟨he, hb7⟩
      rw [decide_eq_true rfl] at he
      obtain rfl := he
      have H7 := Lib.hid (And.intro (H6.out.1.call hb7) (H6.out.2.1.next hb7)); clear hb7 d0 d1 d2 f0 f1 f2
      go_wp2_with fail
      refine (known_any H7.out.2).mono ?_; rintro e w8 ⟨rfl, hb8⟩
      have H8 := Lib.hid (H7.out.1.call hb8); clear hb8
      go_wp2_with fail
      go_ret
      exact ⟨rfl, H8.out.2.2⟩
end Go.Proofs.YtbpbkmhipbchbaaGreatDoor.sc
