/-
  PROVED HERE: the law ScriptParses answers true. Conditions: the library's tables lie (Env).
-/
import Derived.Test.YtbpbkmhipbchbaaGreatDoorScTP
import Derived.Test.YtbpbkmhipbchbaaGreatDoorScR5
import Derived.Test.YtbpbkmhipbchbaaGreatDoorScPar
import Derived.Test.YtbpbkmhipbchbaaGreatDoorScKnown
namespace Go.Proofs.YtbpbkmhipbchbaaGreatDoor.sc
open Go Go.RowKit
set_option linter.unusedVariables false

/-- A script that a text of at most 4000 bytes holds. -/
structure ReadT (t : Bs) (s : Sc) : Prop where
  may : mayS s = true
  text : textL s = t
  all : ∀ a ∈ s.acts, May a ∧ Typed a
  len : ∀ a ∈ s.acts, a.call.val.length ≤ 4000 ∧ a.keep.length ≤ 4000
  few : s.acts.length ≤ 100000
  ok : AcsOk s.acts
  line : ∀ a ∈ s.acts, ∀ n : Int, 1 ≤ n → n ≤ 1000000 → (lineL a n).length ≤ 10000000
  num : I64 s.slabs ∧ I64 s.clients
theorem read_of {t : Bs} {s : Sc} (ht : t.length ≤ 4000) (h : parseP t = (s, 0, 0)) : ReadT t s := by
  obtain ⟨h1, h2, h3⟩ := parse_back h
  have hl : ∀ a ∈ s.acts, a.call.val.length ≤ 4000 ∧ a.keep.length ≤ 4000 := fun a ha => by
    have := act_le h2 h3 ha
    exact ⟨by omega, by omega⟩
  have hs : ∀ a ∈ s.acts, ∀ n : Int, I64 n → (lineL a n).length ≤ 100000 := fun a ha n hn => may_short (h3 a ha).1 (h3 a ha).2 (hl a ha).1 (hl a ha).2 n hn
  have hm := h1
  unfold mayS at hm
  simp only [Bool.and_eq_true, decide_eq_true_eq] at hm
  obtain ⟨⟨⟨⟨⟨g1, g2⟩, g3⟩, g4⟩, g5⟩, _⟩ := hm
  exact ⟨h1, h2, h3, hl, by omega, fun a ha => ⟨may_ok (h3 a ha).1 (h3 a ha).2 (hl a ha).1 (hl a ha).2, Nat.le_trans (hs a ha 1 ⟨by decide, by decide⟩) (by decide)⟩,
    fun a ha n q1 q2 => Nat.le_trans (hs a ha n ⟨by omega, by omega⟩) (by decide), ⟨by omega, by omega⟩, by omega, by omega⟩
/-- What parse comes to: an error with the empty script, or a script. -/
theorem parse_forms (t : Bs) : (∃ n e, parseP t = (Sc.zero, n, e) ∧ e ≠ 0) ∨ ∃ s, parseP t = (s, 0, 0) := by
  have step : ∀ (k : Nat) (st : Sc × Ac) (x : Bs) (e : Int), stepP k st x = .error e → e ≠ 0 := by
    intro k st x e h
    rw [stepP] at h
    split at h
    · split at h
      · injection h with h; omega
      · split at h
        · cases h
        · injection h with h; omega
    · split at h
      · injection h with h; omega
      · split at h
        · injection h with h; omega
        · split at h
          · injection h with h; omega
          · cases h
  have fold : ∀ (ls : List Bs) (k : Nat) (st : Sc × Ac) (p : Nat × Int), foldP k st ls = .error p → p.2 ≠ 0 := by
    intro ls
    induction ls with
    | nil => intro k st p h; rw [foldP] at h; cases h
    | cons x r ih =>
      intro k st p h
      rw [foldP] at h
      cases hs : stepP k st x with
      | error e => rw [hs] at h; injection h with h; rw [← h]; exact step _ _ _ _ hs
      | ok s2 => rw [hs] at h; exact ih _ _ _ h
  unfold parseP
  split
  · exact .inl ⟨1, 11, rfl, by decide⟩
  · cases hf : foldP 0 (Sc.zero, Ac.zero) (linesL t) with
    | error p => exact .inl ⟨_, _, rfl, fold _ _ _ _ hf⟩
    | ok st => exact .inr ⟨_, rfl⟩

set_option maxHeartbeats 4000000 in
set_option maxRecDepth 100000 in
theorem parses_any {w : World} (t : Bs) (E : Env w) : Calls Tryz.prog 7 #[.string (mk t)] w fun e w' => e = .returned (.bool true) ∧ Below w.heap.size w w' := by
  have hlen : (mk t).size = t.length := mk_size t
  have HE := Lib.hid E; clear E
  by_cases h4 : 4000 < t.length
  · have i4 : (4000 : Int) < (t.length : Int) := by omega
    go_enter Tryz.func7, Tryz.ntmps7
    go_wp2_with fail
    refine (known_any HE.out).mono ?_; rintro e w2 ⟨rfl, hb2⟩
    have H2 := Lib.hid hb2; clear hb2
    go_wp2_with fail
    go_ret
    exact ⟨rfl, H2.out⟩
  · have i4 : decide ((4000 : Int) < (t.length : Int)) = false := by simp; omega
    have i5 : (t.length : Int) ≤ 4000 := by omega
    have H4 := Lib.hid (show t.length ≤ 4000 by omega); clear h4
    go_enter Tryz.func7, Tryz.ntmps7
    go_wp2_with fail
    clear i4 i5
    refine (parse_any t (by have := H4.out; omega) (fun x hx => by have := linesL_mem hx; have := H4.out; omega) HE.out).mono ?_
    rintro e w1 ⟨hb1, v1, ha1, he1⟩
    have HB1 := Lib.hid hb1; clear hb1
    have HPF := Lib.hid (parse_forms t)
    obtain ⟨s, hs⟩ : ∃ s, s = (parseP t).1 := ⟨_, rfl⟩
    obtain ⟨no, hno⟩ : ∃ n, n = (parseP t).2.1 := ⟨_, rfl⟩
    obtain ⟨er, her⟩ : ∃ n, n = (parseP t).2.2 := ⟨_, rfl⟩
    have HP := Lib.hid (show parseP t = (s, no, er) by rw [hs, hno, her])
    rw [← hs, ← hno, ← her] at he1
    rw [← hs] at ha1
    clear hs hno her
    obtain ⟨A1, c1, rfl⟩ := ha1.len
    obtain ⟨slabs, clients, acts⟩ := s
    unfold scC at he1
    dsimp only at he1 ha1
    obtain rfl := he1
    have HK := Lib.hid (show (∀ a ∈ acts, a.keep.length ≤ 1000000000) ∧ acts.length ≤ 1000000000 from by
      rcases HPF.out with ⟨n, e, h, _⟩ | ⟨s, h⟩
      · rw [HP.out] at h
        injection h with h _
        injection h with _ _ h
        subst h
        exact ⟨fun a ha => (by cases ha), by decide⟩
      · rw [HP.out] at h
        injection h with h1 h2
        injection h2 with h2 h3
        have hr := read_of H4.out (by rw [HP.out, h2, h3])
        exact ⟨fun a ha => by have := (hr.len a ha).2; omega, by have := hr.few; simp only at this; omega⟩)
    obtain ⟨X, hX⟩ : ∃ X, X = w1.alloc (.cells #[.int .i64 slabs, .int .i64 clients, .slice A1 acts.length c1] 58) := ⟨_, rfl⟩
    have hbX1 : Below w1.heap.size w1 X := by rw [hX]; exact (Below.refl _ _).alloc (Nat.le_refl _) _
    have HX := Lib.hid (And.intro (HB1.out.trans (hbX1.mono HB1.out.size)) (And.intro (show Blk X w1.heap.size 58 #[.int .i64 slabs, .int .i64 clients, .slice A1 acts.length c1] by rw [hX]; exact Blk.new _ _ _) (show ActsR X (.slice A1 acts.length c1) acts from ha1.next hbX1)))
    obtain ⟨g, hg⟩ : ∃ g, g = w1.heap.size := ⟨_, rfl⟩
    rw [← hg] at HX
    clear hbX1 ha1
    go_upto_region 4 with fail
    rw [← hX, ← hg]
    clear hX hg
    go_wp2_with fail
    refine (rParse_any t (by have := H4.out; omega)).mono ?_
    rintro e w2 ⟨hb2, v2, ha2, he2⟩
    rw [HP.out] at he2 ha2
    dsimp only at he2 ha2
    obtain ⟨A2, c2, rfl⟩ := ha2.len
    unfold scC at he2
    dsimp only at he2
    obtain rfl := he2
    obtain ⟨Y, hY⟩ : ∃ Y, Y = w2.alloc (.cells #[.int .i64 slabs, .int .i64 clients, .slice A2 acts.length c2] 58) := ⟨_, rfl⟩
    have hbY : Below w2.heap.size w2 Y := by rw [hY]; exact (Below.refl _ _).alloc (Nat.le_refl _) _
    have hbXY : Below X.heap.size X Y := hb2.trans (hbY.mono hb2.size)
    have HY := Lib.hid (And.intro (HX.out.1.trans (hbXY.mono HX.out.1.size)) (And.intro (HX.out.2.1.below hbXY HX.out.2.1.lt) (And.intro (HX.out.2.2.next hbXY) (And.intro (show Blk Y w2.heap.size 58 #[.int .i64 slabs, .int .i64 clients, .slice A2 acts.length c2] by rw [hY]; exact Blk.new _ _ _) (show ActsR Y (.slice A2 acts.length c2) acts from ha2.next hbY)))))
    obtain ⟨g2, hg2⟩ : ∃ g, g = w2.heap.size := ⟨_, rfl⟩
    rw [← hg2] at HY
    clear hb2 hbY hbXY ha2
    go_upto_region 5 with fail
    rw [← hY, ← hg2]
    clear hY hg2
    have d0 : Y.cell? ⟨g, 0, none⟩ = some (.int .i64 slabs) := HY.out.2.1.cell 0
    have d1 : Y.cell? ⟨g, 1, none⟩ = some (.int .i64 clients) := HY.out.2.1.cell 1
    have d2 : Y.cell? ⟨g, 2, none⟩ = some (.slice A1 acts.length c1) := HY.out.2.1.cell 2
    have f0 : Y.cell? ⟨g2, 0, none⟩ = some (.int .i64 slabs) := HY.out.2.2.2.1.cell 0
    have f1 : Y.cell? ⟨g2, 1, none⟩ = some (.int .i64 clients) := HY.out.2.2.2.1.cell 1
    have f2 : Y.cell? ⟨g2, 2, none⟩ = some (.slice A2 acts.length c2) := HY.out.2.2.2.1.cell 2
    go_wp2_with fail
    refine (rSameScripts_any ⟨slabs, clients, acts⟩ ⟨slabs, clients, acts⟩ (.slice A1 acts.length c1) (.slice A2 acts.length c2) HY.out.2.2.1 HY.out.2.2.2.2 HK.out.1 HK.out.2).mono ?_
    rintro e w3 ⟨he, hb3⟩
    rw [decide_eq_true rfl] at he
    obtain rfl := he
    have H3 := Lib.hid (And.intro (HY.out.1.trans (hb3.mono HY.out.1.size)) (And.intro (HY.out.2.1.below hb3 HY.out.2.1.lt) (And.intro (HY.out.2.2.1.next hb3) (HE.out.next (HY.out.1.trans (hb3.mono HY.out.1.size)))))); clear hb3 d0 d1 d2 f0 f1 f2
    by_cases her : er = 0
    · subst her
      have hno : no = 0 := by
        rcases HPF.out with ⟨n, e, h, he⟩ | ⟨s, h⟩
        · rw [HP.out] at h
          injection h with _ h
          injection h with _ h
          exact absurd h.symm he
        · rw [HP.out] at h
          injection h with _ h
          injection h with h _
      subst hno
      have HR := Lib.hid (read_of H4.out HP.out)
      have d2 : w3.cell? ⟨g, 2, none⟩ = some (.slice A1 acts.length c1) := H3.out.2.1.cell 2
      by_cases h3 : acts.length ≤ 300
      · have i3 : decide ((300 : Int) < (acts.length : Int)) = false := by simp; omega
        have i3' : (acts.length : Int) ≤ 300 := by omega
        have H300 := Lib.hid h3; clear h3
        have d0 : w3.cell? ⟨g, 0, none⟩ = some (.int .i64 slabs) := H3.out.2.1.cell 0
        have d1 : w3.cell? ⟨g, 1, none⟩ = some (.int .i64 clients) := H3.out.2.1.cell 1
        go_wp2_with fail
        refine (text_any ⟨slabs, clients, acts⟩ (.slice A1 acts.length c1) H3.out.2.2.1 HR.out.ok (by have := H300.out; simp only; omega) HR.out.line HR.out.num H3.out.2.2.2).mono ?_
        rintro e w4 ⟨hb4, he⟩
        rw [HR.out.may, HR.out.text, if_pos rfl] at he
        obtain rfl := he
        have H5 := Lib.hid (And.intro (H3.out.1.trans (hb4.mono H3.out.1.size)) (H3.out.2.2.2.next hb4)); clear hb4 d0 d1 d2 i3 i3'
        go_wp2_with fail
        refine (known_any H5.out.2).mono ?_; rintro e w6 ⟨rfl, hb6⟩
        have H6 := Lib.hid (H5.out.1.trans (hb6.mono H5.out.1.size)); clear hb6
        go_wp2_with fail
        go_ret
        exact ⟨rfl, H6.out⟩
      · have i3 : (300 : Int) < (acts.length : Int) := by omega
        clear h3
        go_wp2_with fail
        refine (known_any H3.out.2.2.2).mono ?_; rintro e w6 ⟨rfl, hb6⟩
        have H6 := Lib.hid (H3.out.1.trans (hb6.mono H3.out.1.size)); clear hb6
        go_wp2_with fail
        go_ret
        exact ⟨rfl, H6.out⟩
    · have ie : (er == 0) = false := by simpa using her
      have ie2 : (er != 0) = true := by simpa using her
      clear her
      go_wp2_with fail
      refine (known_any H3.out.2.2.2).mono ?_; rintro e w6 ⟨rfl, hb6⟩
      have H6 := Lib.hid (H3.out.1.trans (hb6.mono H3.out.1.size)); clear hb6
      go_wp2_with fail
      go_ret
      exact ⟨rfl, H6.out⟩
end Go.Proofs.YtbpbkmhipbchbaaGreatDoor.sc
