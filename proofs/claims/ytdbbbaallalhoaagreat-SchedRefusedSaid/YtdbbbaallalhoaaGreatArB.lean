/-
  PROVED HERE: where a value, or a node, of the arena goes that is laid by hand (newValue, newNode). Conditions: the receiver is an arena whose counters are within bounds.
-/
import Derived.Test.YtdbbbaallalhoaaGreatArA
import Derived.Sort.CutIn
namespace Go.Proofs.YtdbbbaallalhoaaGreat.ar
open Go.RowKit Go.Proofs.YtdbbbaallalhoaaGreat.pm
set_option linter.unusedVariables false

structure ArSame (A A' : Ar) : Prop where
  g : A'.g = A.g
  n : A'.n = A.n
  S : A'.S = A.S
  lv : A'.lv = A.lv
/-- A place is given: none, or one in the bytes that has so many of them. -/
def NewPost (w : World) (b : Nat) (A : Ar) (sz : Nat) (e : Ending) (w' : World) : Prop :=
  ∃ (A' : Ar) (at_ : Nat), e = .returned (.int .i64 at_) ∧ ArAt w' b A' ∧ ArOk A' ∧ ArSame A A' ∧ Keeps [b, A.g] w w' ∧ (at_ = 0 ∨ (64 ≤ at_ ∧ at_ + sz ≤ A.n))

set_option maxRecDepth 100000 in
set_option maxHeartbeats 2000000 in
theorem newValue_any {w : World} {b : Nat} {A : Ar} (h : ArAt w b A) (ok : ArOk A) :
    Calls Tryz.prog 34 #[.pointer (some ⟨b, 0, none⟩)] w (NewPost w b A 64) := by
  have hn := h.size
  have hs := h.small
  have ok' := ok
  obtain ⟨o1, o2, o3, o4, o5⟩ := ok'
  have HSl := Lib.hid (slab_any h o1 1 ⟨by omega, by omega⟩)
  have c3 := h.cells.2.2.2.1
  have c4 := h.cells.2.2.2.2.1
  have f3 := h.free 3
  have f4 := h.free 4
  obtain ⟨v, hv⟩ : ∃ v, v = A.value := ⟨_, rfl⟩
  obtain ⟨vs, hvs⟩ : ∃ vs, vs = A.values := ⟨_, rfl⟩
  rw [← hv] at c3 o2
  rw [← hvs] at c4 o3
  have HA := Lib.hid (And.intro h (And.intro ok (And.intro hn (And.intro hs (And.intro hv hvs))))); clear h ok hv hvs hn hs o1 o2 o3 o4 o5
  go_enter Tryz.func34, Tryz.ntmps34
  go_upto_region 1 with fail
  go_cut [14] from 3 (fun s14 wx => s14 = .bool (decide (v = 0) || decide (vs = 15)) ∧ w = wx)
  case first =>
    by_cases h0 : v = 0
    · subst h0
      go_wp2_with fail
      go_meet
      exact ⟨by simp, rfl⟩
    · have b0 : ((v : Int) == 0) = false := by simp; omega
      by_cases h1 : vs = 15
      · subst h1
        go_wp2_with fail
        go_meet
        exact ⟨by simp, rfl⟩
      · have b1 : ((vs : Int) == 15) = false := by simp; omega
        go_wp2_with fail
        go_meet
        exact ⟨by simp [h0, h1], rfl⟩
  case rest =>
  obtain ⟨rfl, rfl⟩ := hcut
  obtain ⟨c, hcd⟩ : ∃ c, c = (decide (v = 0) || decide (vs = 15)) := ⟨_, rfl⟩
  rw [← hcd]
  have HC := Lib.hid hcd; clear hcd
  go_upto_if 14 with fail
  go_cut [] from 15 to 22 (fun wx => ∃ u1 v1 c0 : Nat, ArAt wx b { A with used := u1, value := v1, values := c0 } ∧ Keeps [b, A.g] w wx ∧ u1 ≤ A.S ∧ v1 ≤ A.S ∧ (v1 = 0 ∨ c0 < 15) ∧ c0 ≤ 15)
  case first =>
    cases c with
    | true =>
      go_wp2_with fail
      refine HSl.out.mono ?_
      rintro e w1 ⟨hk1, hpost⟩
      obtain ⟨u1, v1, hA1, rfl, hu1, hv1⟩ : ∃ u1 v1 : Nat, ArAt w1 b { A with used := u1 } ∧ e = .returned (.int .i64 v1) ∧ u1 ≤ A.S ∧ v1 ≤ A.S := by
        rcases hpost with ⟨rfl, hA1⟩ | ⟨hlt, rfl, hA1⟩
        · exact ⟨A.used, 0, hA1, rfl, HA.out.2.1.used, by omega⟩
        · exact ⟨A.used + 1, A.used + 1, hA1, rfl, by omega, by omega⟩
      clear hpost
      have d3 := hA1.cells.2.2.2.1
      have d4 := hA1.cells.2.2.2.2.1
      have g3 := hA1.free 3
      have g4 := hA1.free 4
      have H1 := Lib.hid (And.intro hA1 hk1); clear hA1 hk1
      go_wp2_with fail
      go_meet
      obtain ⟨hA1, hk1⟩ := H1.out
      refine ⟨u1, v1, 0, ?_, ?_, hu1, hv1, by omega, by omega⟩
      · exact (hA1.setc (A' := { A with used := u1, value := v1 }) (i := 3) (v := .int .i64 v1) rfl rfl rfl rfl).setc (i := 4) (v := .int .i64 0) rfl rfl rfl rfl
      · exact (hk1.trans (Keeps.setCell _ b 3 _) (fun i hi => .inl (by simp at hi; simp [hi]))).trans (Keeps.setCell _ b 4 _) (fun i hi => .inl (by simp at hi; simp [hi]))
    | false =>
      have hc : ¬ (v = 0 ∨ vs = 15) := by simpa using HC.out.symm
      go_wp2_with fail
      go_meet
      obtain ⟨h, ok, hn, hs, hv, hvs⟩ := HA.out
      have h1 := ok.values
      have h2 := ok.value
      exact ⟨A.used, A.value, A.values, h, Keeps.refl _ _, ok.used, h2, by omega, h1⟩
  case rest =>
  obtain ⟨u1, v1, c0, hA1, hk1, hu1, hv1, hlt, hle⟩ := hcut
  have d3 := hA1.cells.2.2.2.1
  have d4 := hA1.cells.2.2.2.2.1
  dsimp only at d3 d4
  have H1 := Lib.hid (And.intro hA1 (And.intro hk1 (And.intro hu1 (And.intro hv1 hle))))
  by_cases hz : v1 = 0
  · subst hz
    clear hA1 hk1 hu1 hv1 hlt hle
    go_wp2_with fail
    go_ret
    obtain ⟨hA1, hk1, hu1, hv1, hle⟩ := H1.out
    obtain ⟨h, ok, hn, hs, hv, hvs⟩ := HA.out
    exact ⟨_, 0, rfl, hA1, ⟨hu1, by simp, hle, ok.node, ok.nodes⟩, ⟨rfl, rfl, rfl, rfl⟩, hk1, .inl rfl⟩
  · have hc0 : c0 < 15 := by omega
    have b0 : ((v1 : Int) == 0) = false := by simp; omega
    obtain ⟨h, ok, hn, hs, hv, hvs⟩ := HA.out
    obtain ⟨c1, hc1⟩ : ∃ c1, c1 = c0 + 1 := ⟨_, rfl⟩
    obtain ⟨r1, hr1⟩ : ∃ r1, r1 = 1024 * v1 := ⟨_, rfl⟩
    obtain ⟨r2, hr2⟩ : ∃ r2, r2 = 64 * c1 := ⟨_, rfl⟩
    obtain ⟨at_, hat⟩ : ∃ at_, at_ = r1 + r2 := ⟨_, rfl⟩
    have e1 : IntKind.i64.wrap ((c0 : Int) + 1) = (c1 : Int) := by rw [IntWalk.i64_in _ (by omega)]; omega
    have e2 : IntKind.i64.wrap (1024 * (v1 : Int)) = (r1 : Int) := by rw [IntWalk.i64_in _ (by omega)]; omega
    have e3 : IntKind.i64.wrap (64 * (c1 : Int)) = (r2 : Int) := by rw [IntWalk.i64_in _ (by omega)]; omega
    have e4 : IntKind.i64.wrap ((r1 : Int) + (r2 : Int)) = (at_ : Int) := by rw [IntWalk.i64_in _ (by omega)]; omega
    have HT : Hid (∀ n, Calls Tryz.prog 69 #[.pointer (some ⟨b, 0, none⟩), .int .i64 v1, .int .i64 c0] (wc.drewN n) fun e w' => e = .returned (.tuple #[]) ∧ ArAt w' b { A with used := u1, value := v1, values := c0 } ∧ Keeps [A.g] (wc.drewN n) w') := Lib.hid fun n => taken_any (hA1.keeps (Keeps.drewBy wc n) (by simp) (by simp)) v1 c0 (by omega) hv1
    have HL := Lib.hid (And.intro hc1 (And.intro hr1 (And.intro hat (And.intro hc0 hr2)))); clear hA1 hk1 hu1 hv1 hlt hle hc1 hr1 hat hc0 hz h ok hn hs hv hvs hr2
    go_wp2_with fail
    go_region_with (first
      | (go_at_call 69; refine (HT.out 1).mono ?_; rintro e w2 ⟨rfl, hA2, hk2⟩)
      | fail)
    all_goals
      have d4' := hA2.cells.2.2.2.2.1
      have g4' := hA2.free 4
      dsimp only at d4'
      have H2 := Lib.hid (And.intro hA2 hk2); clear hA2 hk2 d3 d4
      go_wp2_with fail
      have hA3 : ArAt (w2.setCell ⟨b, 4, none⟩ (.int .i64 c1)) b { A with used := u1, value := v1, values := c1 } := H2.out.1.setc (i := 4) (v := .int .i64 c1) rfl rfl rfl rfl
      obtain ⟨W3, hW3⟩ : ∃ W3, W3 = w2.setCell ⟨b, 4, none⟩ (.int .i64 c1) := ⟨_, rfl⟩
      have k3 : Keeps [b] w2 W3 := by rw [hW3]; exact Keeps.setCell _ b 4 _
      rw [← hW3] at hA3 ⊢
      have q3 := hA3.cells.2.2.2.1
      have q4 := hA3.cells.2.2.2.2.1
      dsimp only at q3 q4
      have H3 := Lib.hid (And.intro hA3 k3); clear hA3 k3 hW3 d4' g4'
      go_quiet (fail)
      go_wp2_with fail
      go_ret
      obtain ⟨hA1, hk1, hu1, hv1, hle⟩ := H1.out
      obtain ⟨h, ok, hn, hs, hv, hvs⟩ := HA.out
      obtain ⟨hc1, hr1, hat, hc0, hr2⟩ := HL.out
      refine ⟨_, at_, rfl, H3.out.1.keeps (Keeps.drewBy W3 nq) (by simp) (by simp), ⟨hu1, hv1, by show c1 ≤ 15; omega, ok.node, ok.nodes⟩, ⟨rfl, rfl, rfl, rfl⟩, ?_, .inr (by omega)⟩
      have k2 : Keeps [b, A.g] wc w2 := (((Keeps.drewBy wc 1).mono (G := [b, A.g]) (by simp)).trans H2.out.2 (fun i hi => .inl (by simp at hi; simp [hi])))
      exact ((hk1.trans k2 (fun i hi => .inl hi)).trans H3.out.2 (fun i hi => .inl (by simp at hi; simp [hi]))).trans (Keeps.drewBy W3 nq) (by simp)

set_option maxRecDepth 100000 in
set_option maxHeartbeats 2000000 in
theorem newNode_any {w : World} {b : Nat} {A : Ar} (h : ArAt w b A) (ok : ArOk A) :
    Calls Tryz.prog 71 #[.pointer (some ⟨b, 0, none⟩)] w (NewPost w b A 192) := by
  have hn := h.size
  have hs := h.small
  have ok' := ok
  obtain ⟨o1, o2, o3, o4, o5⟩ := ok'
  have HSl := Lib.hid (slab_any h o1 3 ⟨by omega, by omega⟩)
  have c3 := h.cells.2.2.2.2.2.1
  have c4 := h.cells.2.2.2.2.2.2.1
  have f3 := h.free 5
  have f4 := h.free 6
  obtain ⟨v, hv⟩ : ∃ v, v = A.node := ⟨_, rfl⟩
  obtain ⟨vs, hvs⟩ : ∃ vs, vs = A.nodes := ⟨_, rfl⟩
  rw [← hv] at c3 o4
  rw [← hvs] at c4 o5
  have HA := Lib.hid (And.intro h (And.intro ok (And.intro hn (And.intro hs (And.intro hv hvs))))); clear h ok hv hvs hn hs o1 o2 o3 o4 o5
  go_enter Tryz.func71, Tryz.ntmps71
  go_upto_region 1 with fail
  go_cut [14] from 3 (fun s14 wx => s14 = .bool (decide (v = 0) || decide (vs = 5)) ∧ w = wx)
  case first =>
    by_cases h0 : v = 0
    · subst h0
      go_wp2_with fail
      go_meet
      exact ⟨by simp, rfl⟩
    · have b0 : ((v : Int) == 0) = false := by simp; omega
      by_cases h1 : vs = 5
      · subst h1
        go_wp2_with fail
        go_meet
        exact ⟨by simp, rfl⟩
      · have b1 : ((vs : Int) == 5) = false := by simp; omega
        go_wp2_with fail
        go_meet
        exact ⟨by simp [h0, h1], rfl⟩
  case rest =>
  obtain ⟨rfl, rfl⟩ := hcut
  obtain ⟨c, hcd⟩ : ∃ c, c = (decide (v = 0) || decide (vs = 5)) := ⟨_, rfl⟩
  rw [← hcd]
  have HC := Lib.hid hcd; clear hcd
  go_upto_if 14 with fail
  go_cut [] from 15 to 22 (fun wx => ∃ u1 v1 c0 : Nat, ArAt wx b { A with used := u1, node := v1, nodes := c0 } ∧ Keeps [b, A.g] w wx ∧ u1 ≤ A.S ∧ v1 ≤ A.S ∧ (v1 = 0 ∨ c0 < 5) ∧ c0 ≤ 5)
  case first =>
    cases c with
    | true =>
      go_wp2_with fail
      refine HSl.out.mono ?_
      rintro e w1 ⟨hk1, hpost⟩
      obtain ⟨u1, v1, hA1, rfl, hu1, hv1⟩ : ∃ u1 v1 : Nat, ArAt w1 b { A with used := u1 } ∧ e = .returned (.int .i64 v1) ∧ u1 ≤ A.S ∧ v1 ≤ A.S := by
        rcases hpost with ⟨rfl, hA1⟩ | ⟨hlt, rfl, hA1⟩
        · exact ⟨A.used, 0, hA1, rfl, HA.out.2.1.used, by omega⟩
        · exact ⟨A.used + 1, A.used + 1, hA1, rfl, by omega, by omega⟩
      clear hpost
      have d3 := hA1.cells.2.2.2.2.2.1
      have d4 := hA1.cells.2.2.2.2.2.2.1
      have g3 := hA1.free 5
      have g4 := hA1.free 6
      have H1 := Lib.hid (And.intro hA1 hk1); clear hA1 hk1
      go_wp2_with fail
      go_meet
      obtain ⟨hA1, hk1⟩ := H1.out
      refine ⟨u1, v1, 0, ?_, ?_, hu1, hv1, by omega, by omega⟩
      · exact (hA1.setc (A' := { A with used := u1, node := v1 }) (i := 5) (v := .int .i64 v1) rfl rfl rfl rfl).setc (i := 6) (v := .int .i64 0) rfl rfl rfl rfl
      · exact (hk1.trans (Keeps.setCell _ b 5 _) (fun i hi => .inl (by simp at hi; simp [hi]))).trans (Keeps.setCell _ b 6 _) (fun i hi => .inl (by simp at hi; simp [hi]))
    | false =>
      have hc : ¬ (v = 0 ∨ vs = 5) := by simpa using HC.out.symm
      go_wp2_with fail
      go_meet
      obtain ⟨h, ok, hn, hs, hv, hvs⟩ := HA.out
      have h1 := ok.nodes
      have h2 := ok.node
      exact ⟨A.used, A.node, A.nodes, h, Keeps.refl _ _, ok.used, h2, by omega, h1⟩
  case rest =>
  obtain ⟨u1, v1, c0, hA1, hk1, hu1, hv1, hlt, hle⟩ := hcut
  have d3 := hA1.cells.2.2.2.2.2.1
  have d4 := hA1.cells.2.2.2.2.2.2.1
  dsimp only at d3 d4
  have H1 := Lib.hid (And.intro hA1 (And.intro hk1 (And.intro hu1 (And.intro hv1 hle))))
  by_cases hz : v1 = 0
  · subst hz
    clear hA1 hk1 hu1 hv1 hlt hle
    go_wp2_with fail
    go_ret
    obtain ⟨hA1, hk1, hu1, hv1, hle⟩ := H1.out
    obtain ⟨h, ok, hn, hs, hv, hvs⟩ := HA.out
    exact ⟨_, 0, rfl, hA1, ⟨hu1, ok.value, ok.values, by simp, hle⟩, ⟨rfl, rfl, rfl, rfl⟩, hk1, .inl rfl⟩
  · have hc0 : c0 < 5 := by omega
    have b0 : ((v1 : Int) == 0) = false := by simp; omega
    obtain ⟨h, ok, hn, hs, hv, hvs⟩ := HA.out
    obtain ⟨c1, hc1⟩ : ∃ c1, c1 = c0 + 1 := ⟨_, rfl⟩
    obtain ⟨r1, hr1⟩ : ∃ r1, r1 = 1024 * v1 := ⟨_, rfl⟩
    obtain ⟨r3, hr3⟩ : ∃ r3, r3 = r1 + 64 := ⟨_, rfl⟩
    obtain ⟨r2, hr2⟩ : ∃ r2, r2 = 192 * c0 := ⟨_, rfl⟩
    obtain ⟨at_, hat⟩ : ∃ at_, at_ = r3 + r2 := ⟨_, rfl⟩
    have e1 : IntKind.i64.wrap ((c0 : Int) + 1) = (c1 : Int) := by rw [IntWalk.i64_in _ (by omega)]; omega
    have e2 : IntKind.i64.wrap (1024 * (v1 : Int)) = (r1 : Int) := by rw [IntWalk.i64_in _ (by omega)]; omega
    have e3 : IntKind.i64.wrap ((r1 : Int) + 64) = (r3 : Int) := by rw [IntWalk.i64_in _ (by omega)]; omega
    have e5 : IntKind.i64.wrap ((c1 : Int) - 1) = (c0 : Int) := by rw [IntWalk.i64_in _ (by omega)]; omega
    have e6 : IntKind.i64.wrap (192 * (c0 : Int)) = (r2 : Int) := by rw [IntWalk.i64_in _ (by omega)]; omega
    have e4 : IntKind.i64.wrap ((r3 : Int) + (r2 : Int)) = (at_ : Int) := by rw [IntWalk.i64_in _ (by omega)]; omega
    have HT : Hid (∀ n, Calls Tryz.prog 69 #[.pointer (some ⟨b, 0, none⟩), .int .i64 v1, .int .i64 c0] (wc.drewN n) fun e w' => e = .returned (.tuple #[]) ∧ ArAt w' b { A with used := u1, node := v1, nodes := c0 } ∧ Keeps [A.g] (wc.drewN n) w') := Lib.hid fun n => taken_any (hA1.keeps (Keeps.drewBy wc n) (by simp) (by simp)) v1 c0 (by omega) hv1
    have HL := Lib.hid (And.intro hc1 (And.intro hr1 (And.intro hat (And.intro hc0 (And.intro hr2 hr3))))); clear hA1 hk1 hu1 hv1 hlt hle hc1 hr1 hat hc0 hz h ok hn hs hv hvs hr2 hr3
    go_wp2_with fail
    go_region_with (first
      | (go_at_call 69; refine (HT.out 1).mono ?_; rintro e w2 ⟨rfl, hA2, hk2⟩)
      | fail)
    all_goals
      have d4' := hA2.cells.2.2.2.2.2.2.1
      have g4' := hA2.free 6
      dsimp only at d4'
      have H2 := Lib.hid (And.intro hA2 hk2); clear hA2 hk2 d3 d4
      go_wp2_with fail
      have hA3 : ArAt (w2.setCell ⟨b, 6, none⟩ (.int .i64 c1)) b { A with used := u1, node := v1, nodes := c1 } := H2.out.1.setc (i := 6) (v := .int .i64 c1) rfl rfl rfl rfl
      obtain ⟨W3, hW3⟩ : ∃ W3, W3 = w2.setCell ⟨b, 6, none⟩ (.int .i64 c1) := ⟨_, rfl⟩
      have k3 : Keeps [b] w2 W3 := by rw [hW3]; exact Keeps.setCell _ b 6 _
      rw [← hW3] at hA3 ⊢
      have q3 := hA3.cells.2.2.2.2.2.1
      have q4 := hA3.cells.2.2.2.2.2.2.1
      dsimp only at q3 q4
      have H3 := Lib.hid (And.intro hA3 k3); clear hA3 k3 hW3 d4' g4'
      go_quiet (fail)
      go_wp2_with fail
      go_ret
      obtain ⟨hA1, hk1, hu1, hv1, hle⟩ := H1.out
      obtain ⟨h, ok, hn, hs, hv, hvs⟩ := HA.out
      obtain ⟨hc1, hr1, hat, hc0, hr2, hr3⟩ := HL.out
      refine ⟨_, at_, rfl, H3.out.1.keeps (Keeps.drewBy W3 nq) (by simp) (by simp), ⟨hu1, ok.value, ok.values, hv1, by show c1 ≤ 5; omega⟩, ⟨rfl, rfl, rfl, rfl⟩, ?_, .inr (by omega)⟩
      have k2 : Keeps [b, A.g] wc w2 := (((Keeps.drewBy wc 1).mono (G := [b, A.g]) (by simp)).trans H2.out.2 (fun i hi => .inl (by simp at hi; simp [hi])))
      exact ((hk1.trans k2 (fun i hi => .inl hi)).trans H3.out.2 (fun i hi => .inl (by simp at hi; simp [hi]))).trans (Keeps.drewBy W3 nq) (by simp)
end Go.Proofs.YtdbbbaallalhoaaGreat.ar
