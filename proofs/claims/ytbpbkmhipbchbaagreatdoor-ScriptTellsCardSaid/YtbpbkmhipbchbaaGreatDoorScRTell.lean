/-
  PROVED HERE: the contract of the reference's Tell. Conditions: as it says.
-/
import Derived.Test.YtbpbkmhipbchbaaGreatDoorScTell
import Derived.Test.YtbpbkmhipbchbaaGreatDoorScRef3
import Derived.Deep.RegionWith
namespace Go.Proofs.YtbpbkmhipbchbaaGreatDoor.sc.tl
open Go.RowKit
set_option linter.unusedVariables false

/-- Numbers from 0 on. -/
structure Nice (h : Hp) : Prop where
  act : 0 ≤ h.act
  n : 0 ≤ h.n
  code : 0 ≤ h.code
  client : 0 ≤ h.ev.client
  did : 0 ≤ h.ev.did
  rcode : 0 ≤ h.ev.code
theorem join3 (a b c : Bs) : mk a ++ ⟨#[32]⟩ ++ mk b ++ ⟨#[32]⟩ ++ mk c = mk (joinB [a, b, c]) := by
  show mk a ++ mk [32] ++ mk b ++ mk [32] ++ mk c = _
  rw [mk_append, mk_append, mk_append, mk_append, joinB_cons2, joinB_cons2, joinB_one]
  simp
theorem blk_past {w w' : World} {b : Nat} {t : TypeId} {cs : Array Value} (h : Blk w b t cs) (hk : Below w.heap.size w w') : Blk w' b t cs := h.below hk h.lt
theorem below_in {W0 X w : World} (h : Below W0.heap.size W0 X) (hb : Below X.heap.size X w) : Below W0.heap.size W0 w := h.trans (hb.mono h.size)
theorem below_al {W0 X : World} (h : Below W0.heap.size W0 X) (o : Obj) : Below W0.heap.size W0 (X.alloc o) := h.alloc h.size o
theorem kinds_lit {w : World} {b : Nat} {T : TypeId} (h : Blk w b T #[.string ⟨#[110, 111, 110, 101]⟩, .string ⟨#[105, 110, 118, 111, 107, 101]⟩, .string ⟨#[112, 105, 99, 107]⟩, .string ⟨#[101, 118, 105, 99, 116]⟩, .string ⟨#[99, 114, 97, 115, 104]⟩, .string ⟨#[111, 112, 101, 110]⟩, .string ⟨#[115, 99, 97, 118, 101, 110, 103, 101]⟩, .string ⟨#[98, 111, 111, 116]⟩]) : StrsAt w (.slice (some ⟨b, 0, none⟩) 8 8) kindsL := kinds_row h
theorem states_lit {w : World} {b : Nat} {T : TypeId} (h : Blk w b T #[.string ⟨#[110, 111, 110, 101]⟩, .string ⟨#[99, 108, 111, 115, 101, 100]⟩, .string ⟨#[111, 112, 101, 110, 105, 110, 103]⟩, .string ⟨#[111, 112, 101, 110, 101, 100]⟩, .string ⟨#[115, 99, 97, 118, 101, 110, 103, 105, 110, 103]⟩, .string ⟨#[114, 101, 97, 100, 121]⟩, .string ⟨#[114, 101, 97, 100, 111, 110, 108, 121]⟩]) : StrsAt w (.slice (some ⟨b, 0, none⟩) 7 7) statesL := states_row h
theorem joinB_app (a : Bs) (l r : List Bs) : joinB (a :: (l ++ r)) = joinB (a :: l) ++ r.flatMap (fun y => 32 :: y) := by
  rw [joinB_cons, joinB_cons, List.flatMap_append, List.append_assoc]
theorem str1 (a c : Bs) : Ending.returned (.string (mk a ++ mk c)) = Ending.returned (.string (mk (a ++ c))) := by rw [mk_append]
theorem str7 (a b c d : Bs) : mk a ++ ⟨#[32]⟩ ++ mk b ++ ⟨#[32]⟩ ++ mk c ++ ⟨#[32]⟩ ++ mk d = mk (a ++ 32 :: (b ++ 32 :: (c ++ 32 :: d))) := by
  show mk a ++ mk [32] ++ mk b ++ mk [32] ++ mk c ++ mk [32] ++ mk d = _
  rw [mk_append, mk_append, mk_append, mk_append, mk_append, mk_append]
  simp
theorem str5 (a b c : Bs) : mk a ++ ⟨#[32, 100, 111, 110, 101, 32]⟩ ++ mk b ++ ⟨#[32]⟩ ++ mk c = mk (a ++ 32 :: (sDone ++ 32 :: (b ++ 32 :: c))) := by
  show mk a ++ mk [32, 100, 111, 110, 101, 32] ++ mk b ++ mk [32] ++ mk c = _
  rw [mk_append, mk_append, mk_append, mk_append]
  simp [sDone]
theorem str6 (a b c : Bs) : mk a ++ ⟨#[32]⟩ ++ mk b ++ ⟨#[61]⟩ ++ mk c = mk (a ++ 32 :: (b ++ 61 :: c)) := by
  show mk a ++ mk [32] ++ mk b ++ mk [61] ++ mk c = _
  rw [mk_append, mk_append, mk_append, mk_append]
  simp
theorem flat_le (h : Hp) (O : HpOk h) (k : Nat) : (((h.ev.pairs.take k).map pairW).flatMap (fun y => 32 :: y)).length ≤ 300000000 := by
  have h1 := joinB_le ([] :: (h.ev.pairs.take k).map pairW) 200100 (fun x hx => by
    simp only [List.mem_cons, List.mem_map] at hx
    rcases hx with rfl | ⟨p, hp, rfl⟩
    · simp
    · have hp2 := List.mem_of_mem_take hp
      have h1 := O.keys p hp2
      have h2 := num_le p.1 (by omega) h1.2
      have h3 := Nat.le_trans (digits_le p.2) (show 2 * p.2.length + 1 ≤ 200001 by have := O.vals p hp2; omega)
      simp only [pairW, List.length_append, List.length_cons]; omega)
  rw [joinB_cons, List.nil_append, List.length_cons, List.length_map, List.length_take] at h1
  have h2 : (min k h.ev.pairs.length + 1) * (200100 + 1) ≤ 1001 * (200100 + 1) := Nat.mul_le_mul_right _ (by have := O.few; omega)
  omega
theorem str2 (a b c : Bs) {r : Bs} (hr : r = a ++ (c ++ b)) : Ending.returned (.string (mk a ++ mk c ++ mk b)) = Ending.returned (.string (mk r)) := by
  rw [mk_append, mk_append, hr, List.append_assoc]
theorem rName_kinds {w : World} {b : Nat} (i : Int) (h : Blk w b 9 #[.string ⟨#[110, 111, 110, 101]⟩, .string ⟨#[105, 110, 118, 111, 107, 101]⟩, .string ⟨#[112, 105, 99, 107]⟩, .string ⟨#[101, 118, 105, 99, 116]⟩, .string ⟨#[99, 114, 97, 115, 104]⟩, .string ⟨#[111, 112, 101, 110]⟩, .string ⟨#[115, 99, 97, 118, 101, 110, 103, 101]⟩, .string ⟨#[98, 111, 111, 116]⟩]) :
    Calls Tryz.prog 45 #[.slice (some ⟨b, 0, none⟩) 8 8, .int .i64 i] w fun e w' => e = .returned (.string (mk (nameL kindsL i))) ∧ Below w.heap.size w w' := rName_any (l := kindsL) i (kinds_lit h) (by decide) (by decide)
theorem rName_states {w : World} {b : Nat} (i : Int) (h : Blk w b 9 #[.string ⟨#[110, 111, 110, 101]⟩, .string ⟨#[99, 108, 111, 115, 101, 100]⟩, .string ⟨#[111, 112, 101, 110, 105, 110, 103]⟩, .string ⟨#[111, 112, 101, 110, 101, 100]⟩, .string ⟨#[115, 99, 97, 118, 101, 110, 103, 105, 110, 103]⟩, .string ⟨#[114, 101, 97, 100, 121]⟩, .string ⟨#[114, 101, 97, 100, 111, 110, 108, 121]⟩]) :
    Calls Tryz.prog 45 #[.slice (some ⟨b, 0, none⟩) 7 7, .int .i64 i] w fun e w' => e = .returned (.string (mk (nameL statesL i))) ∧ Below w.heap.size w w' := rName_any (l := statesL) i (states_lit h) (by decide) (by decide)
theorem blk_new1 (w : World) (o : Obj) (t : TypeId) (cs : Array Value) : Blk ((w.alloc o).alloc (.cells cs t)) (w.heap.size + 1) t cs := by simpa using Blk.new (w.alloc o) t cs

set_option maxHeartbeats 3200000 in
set_option maxRecDepth 100000 in
theorem rTell_any {w : World} (h : Hp) (pv : Value) (hp : RowR w pv h.ev.pairs.length 2 (pairV h.ev.pairs)) (O : HpOk h) (N : Nice h) :
    Calls Tryz.prog 14 #[.agg (hpC h pv)] w fun e w' => e = .returned (.string (mk (joinB (tellW h)))) ∧ Below w.heap.size w w' := by
  obtain ⟨PA, PC, rfl⟩ := hp.len
  have HP := Lib.hid hp; clear hp
  have hN := Blk.new w 46 (hpC h (.slice PA h.ev.pairs.length PC))
  have hs : (w.alloc (.cells (hpC h (.slice PA h.ev.pairs.length PC)) 46)).heap.size = w.heap.size + 1 := by simp
  have hA := (Below.refl w.heap.size w).alloc (Nat.le_refl _) (.cells (hpC h (.slice PA h.ev.pairs.length PC)) 46)
  obtain ⟨W0, hW0⟩ : ∃ W0, W0 = w.alloc (.cells (hpC h (.slice PA h.ev.pairs.length PC)) 46) := ⟨_, rfl⟩
  rw [← hW0] at hA hN hs
  have HS0 := Lib.hid hs; clear hs
  have HB := Lib.hid (And.intro hN hA); clear hN hA
  have hC : ∀ wx, Below W0.heap.size W0 wx → _ := fun wx hk => hpCells (HB.out.1.below hk HB.out.1.lt)
  have HC := Lib.hid hC; clear hC
  have HS := Lib.hid (show ∀ wx, Below W0.heap.size W0 wx → (wx.cell? ⟨w.heap.size, 0, none⟩ = some (.int .i64 h.act) ∧ wx.cell? ⟨w.heap.size, 1, none⟩ = some (.int .i64 h.kind) ∧ wx.cell? ⟨w.heap.size, 2, none⟩ = some (.int .i64 h.state) ∧ Below W0.heap.size W0 wx) from fun wx hk => by
    obtain ⟨a0, a1, a2, _⟩ := HC.out _ hk
    exact ⟨a0, a1, a2, hk⟩)
  have o1 := O.act.2
  have o0 := N.act
  have nk : (nameL kindsL h.kind).length ≤ 20 := nameL_le (by decide) (by decide) _
  have ns : (nameL statesL h.state).length ≤ 20 := nameL_le (by decide) (by decide) _
  have na : (num h.act).length ≤ 200100 := O.act.nle
  go_enter Tryz.func14, Tryz.ntmps14
  go_upto_region 1 with fail
  rw [← hW0]
  clear hW0
  go_cut [3] (fun s3 wx => s3 = .string (mk (joinB [num h.act, nameL kindsL h.kind, nameL statesL h.state])) ∧ Below W0.heap.size W0 wx)
  case first =>
    have g1 : ¬ 9223372036854775807 < (num h.act).length + 1 := by omega
    have g2 : ¬ 9223372036854775807 < (num h.act).length + 1 + (nameL kindsL h.kind).length := by omega
    have g3 : ¬ 9223372036854775807 < (num h.act).length + 1 + (nameL kindsL h.kind).length + 1 := by omega
    have g4 : ¬ 9223372036854775807 < (num h.act).length + 1 + (nameL kindsL h.kind).length + 1 + (nameL statesL h.state).length := by omega
    clear nk ns na
    have hk0 : Below W0.heap.size W0 W0.drew := (Below.refl _ _).drew
    go_region_held3 (fun wx => wx.cell? ⟨w.heap.size, 0, none⟩ = some (.int .i64 h.act) ∧ wx.cell? ⟨w.heap.size, 1, none⟩ = some (.int .i64 h.kind) ∧ wx.cell? ⟨w.heap.size, 2, none⟩ = some (.int .i64 h.state) ∧ Below W0.heap.size W0 wx)
      (exact HS.out _ (by (first | with_reducible assumption | ((repeat (first | with_reducible refine below_al ?_ _ | with_reducible refine Below.drew ?_)); (first | with_reducible assumption | with_reducible exact Below.refl _ _)))))
      (first
        | (go_at_call 44; refine (rnum_any h.act o0 o1).mono ?_; rintro e w3 ⟨rfl, hb3⟩; have K3 : Below W0.heap.size W0 w3 := below_in ?hk3 hb3; (case hk3 => (first | with_reducible assumption | ((repeat (first | with_reducible refine below_al ?_ _ | with_reducible refine Below.drew ?_)); (first | with_reducible assumption | with_reducible exact Below.refl _ _)))); have hb3 := hb3)
        | (go_at_call 45; with_reducible refine (rName_kinds h.kind ?hk).mono ?_; (case hk => (repeat (first | with_reducible exact Blk.new _ _ _ | with_reducible exact blk_new1 _ _ _ _ | with_reducible refine Blk.drew ?_ | with_reducible refine Blk.alloc ?_ _ | with_reducible refine blk_past ?_ (by assumption)))); rintro e w4 ⟨rfl, hb4⟩; have K4 : Below W0.heap.size W0 w4 := below_in ?hk4 hb4; (case hk4 => (first | with_reducible assumption | ((repeat (first | with_reducible refine below_al ?_ _ | with_reducible refine Below.drew ?_)); (first | with_reducible assumption | with_reducible exact Below.refl _ _)))); have hb4 := hb4)
        | (go_at_call 45; with_reducible refine (rName_states h.state ?hk).mono ?_; (case hk => (repeat (first | with_reducible exact Blk.new _ _ _ | with_reducible exact blk_new1 _ _ _ _ | with_reducible refine Blk.drew ?_ | with_reducible refine Blk.alloc ?_ _ | with_reducible refine blk_past ?_ (by assumption)))); rintro e w5 ⟨rfl, hb5⟩; have K5 : Below W0.heap.size W0 w5 := below_in ?hk5 hb5; (case hk5 => (first | with_reducible assumption | ((repeat (first | with_reducible refine below_al ?_ _ | with_reducible refine Below.drew ?_)); (first | with_reducible assumption | with_reducible exact Below.refl _ _))))))
    all_goals
      rw [join3]
      go_wp2_with fail
      go_meet
      exact ⟨rfl, K5⟩
  case rest =>
    obtain ⟨rfl, hwc⟩ := hcut
    obtain ⟨S0, hS0⟩ : ∃ S0, S0 = joinB [num h.act, nameL kindsL h.kind, nameL statesL h.state] := ⟨_, rfl⟩
    have hS0l : S0.length ≤ 1000000 := by
      rw [hS0]
      have := joinB_le [num h.act, nameL kindsL h.kind, nameL statesL h.state] 200100 (fun x hx => by
        simp only [List.mem_cons, List.not_mem_nil, or_false] at hx
        rcases hx with rfl | rfl | rfl <;> omega)
      exact Nat.le_trans this (show 3 * (200100 + 1) ≤ 1000000 by decide)
    have T0 := Lib.hid (show joinB (tellW h) = S0 ++ (tellTail h).flatMap (fun y => 32 :: y) by
      rw [hS0]; exact joinB_app _ [nameL kindsL h.kind, nameL statesL h.state] _)
    rw [← hS0]
    clear hS0 nk ns na o0 o1
    have HW := Lib.hid (HB.out.2.trans (hwc.mono HB.out.2.size))
    obtain ⟨a0, a1, a2, a3, a4, a5, a6, a7, a8, a9, a10, a11, a12⟩ := HC.out _ hwc
    have HWC := Lib.hid hwc; clear hwc
    have hcase : (h.code ≠ 0 ∧ h.done = false) ∨ ((h.code != 0) = false ∧ h.done = true) ∨ ((h.code != 0) = false ∧ h.done = false) ∨ ((h.code != 0) = true ∧ h.done = true) := by
      by_cases c0 : h.code = 0
      · have c1 : (h.code != 0) = false := by simpa using c0
        cases hd : h.done
        · exact .inr (.inr (.inl ⟨c1, rfl⟩))
        · exact .inr (.inl ⟨c1, rfl⟩)
      · have c1 : (h.code != 0) = true := by simpa using c0
        cases hd : h.done
        · exact .inl ⟨c0, rfl⟩
        · exact .inr (.inr (.inr ⟨c1, rfl⟩))
    rcases hcase with ⟨c0, hd⟩ | hrest
    · have c1 : (h.code != 0) = true := by simpa using c0
      have T := Lib.hid (show joinB (tellW h) = S0 ++ 32 :: (sError ++ 32 :: num h.code) by
        rw [T0.out, show tellTail h = [sError, num h.code] from if_pos ⟨c0, hd⟩]; simp)
      have o2 := N.code
      have o3 := O.code.2
      have nl := O.code.nle
      have g1 : ¬ 9223372036854775807 < S0.length + 7 := by omega
      have g2 : ¬ 9223372036854775807 < S0.length + 7 + (num h.code).length := by omega
      clear c0
      go_wp2_with fail
      refine (rnum_any h.code o2 o3).mono ?_; rintro e w6 ⟨rfl, hb6⟩
      go_wp2_with fail
      go_ret
      refine ⟨?_, HW.out.trans (hb6.mono HW.out.size)⟩
      rw [T.out]
      refine str2 S0 (num h.code) (32 :: sError ++ [32]) ?_
      simp
    · have TC := Lib.hid (show ¬ (h.code ≠ 0 ∧ h.done = false) by
        rintro ⟨c0, hd⟩
        rcases hrest with ⟨a, b⟩ | ⟨a, b⟩ | ⟨a, b⟩ <;> simp_all)
      have HR := Lib.hid hrest; clear hrest
      have HC2 := Lib.hid (And.intro hS0l HWC.out)
      go_upto_region 2 with fail
      go_cut [28] (fun s28 wx => s28 = .bool false ∧ wc = wx)
      case first =>
        rcases HR.out with ⟨c1, hd⟩ | ⟨c1, hd⟩ | ⟨c1, hd⟩
        all_goals
          go_wp2_with fail
          go_meet
          exact ⟨rfl, rfl⟩
      case rest =>
        obtain ⟨rfl, hwc2⟩ := hcut
        obtain rfl := hwc2
        by_cases k2 : h.kind = 2
        · have k2b : (h.kind == 2) = true := by simpa using k2
          obtain ⟨which, hwh⟩ : ∃ x, x = (if 0 ≤ h.ev.call then num h.ev.call else [45]) := ⟨_, rfl⟩
          have T := Lib.hid (show joinB (tellW h) = S0 ++ 32 :: (num h.ev.client ++ 32 :: (which ++ 32 :: num h.ev.did)) ++ (if h.ev.done then [sDone, num h.ev.code, digits h.ev.val] ++ h.ev.pairs.map pairW else []).flatMap (fun y => 32 :: y) by
            rw [T0.out, tellTail, if_neg TC.out, if_pos k2, hwh, List.flatMap_append]
            simp)
          clear k2
          have hwl : which.length ≤ 200100 := by
            rw [hwh]; split
            · exact O.call.nle
            · decide
          have HWH := Lib.hid hwh; clear hwh
          have HWL := Lib.hid hwl; clear hwl
          go_upto_if 42 with fail
          go_cut [4] (fun s4 wx => s4 = .string (mk which) ∧ Below wc.heap.size wc wx)
          case first =>
            have p1 := O.call.2
            by_cases kc : 0 ≤ h.ev.call
            · have HN := Lib.hid (show which = num h.ev.call from HWH.out.trans (if_pos kc))
              go_wp2_with fail
              refine (rnum_any h.ev.call kc p1).mono ?_; rintro e w6 ⟨rfl, hb6⟩
              go_wp2_with fail
              go_meet
              exact ⟨by rw [HN.out], hb6⟩
            · have HN := Lib.hid (show which = [45] from HWH.out.trans (if_neg kc))
              go_wp2_with fail
              go_meet
              exact ⟨by rw [HN.out], Below.refl _ _⟩
          case rest =>
            obtain ⟨rfl, hYc⟩ := hcut
            have hK := HWC.out.trans (hYc.mono HWC.out.size)
            clear hYc a0 a1 a2 a3 a4 a5 a6 a7 a8 a9 a10 a11 a12
            have HS2 := Lib.hid (show ∀ wx, Below W0.heap.size W0 wx → (wx.cell? ⟨w.heap.size, 3, none⟩ = some (.int .i64 h.ev.client) ∧ wx.cell? ⟨w.heap.size, 5, none⟩ = some (.int .i64 h.ev.did) ∧ Below W0.heap.size W0 wx) from fun wx hk => by
              obtain ⟨_, _, _, a3, _, a5, _⟩ := HC.out _ hk
              exact ⟨a3, a5, hk⟩)
            have hk0 : Below W0.heap.size W0 wc.drew := hK.drew
            have q0 := N.client
            have q1 := O.client.2
            have r0 := N.did
            have r1 := O.did.2
            have nc := O.client.nle
            have nd := O.did.nle
            have nw := HWL.out
            have g1 : ¬ 9223372036854775807 < S0.length + 1 := by omega
            have g2 : ¬ 9223372036854775807 < S0.length + 1 + (num h.ev.client).length := by omega
            have g3 : ¬ 9223372036854775807 < S0.length + 1 + (num h.ev.client).length + 1 := by omega
            have g4 : ¬ 9223372036854775807 < S0.length + 1 + (num h.ev.client).length + 1 + which.length := by omega
            have g5 : ¬ 9223372036854775807 < S0.length + 1 + (num h.ev.client).length + 1 + which.length + 1 := by omega
            have g6 : ¬ 9223372036854775807 < S0.length + 1 + (num h.ev.client).length + 1 + which.length + 1 + (num h.ev.did).length := by omega
            obtain ⟨S1, hS1⟩ : ∃ S1, S1 = S0 ++ 32 :: (num h.ev.client ++ 32 :: (which ++ 32 :: num h.ev.did)) := ⟨_, rfl⟩
            have hS1l : S1.length ≤ 2000000 := by
              rw [hS1]; simp only [List.length_append, List.length_cons]; omega
            rw [← hS1] at T
            have HS1 := Lib.hid (And.intro hS1 hS1l); clear hS1 hS1l
            clear nc nd nw
            go_upto_region 9 with fail
            go_region_held3 (fun wx => wx.cell? ⟨w.heap.size, 3, none⟩ = some (.int .i64 h.ev.client) ∧ wx.cell? ⟨w.heap.size, 5, none⟩ = some (.int .i64 h.ev.did) ∧ Below W0.heap.size W0 wx)
              (exact HS2.out _ (by (first | with_reducible assumption | ((repeat (first | with_reducible refine below_al ?_ _ | with_reducible refine Below.drew ?_)); (first | with_reducible assumption | with_reducible exact Below.refl _ _)))))
              (first
                | (go_at_call 44; with_reducible refine (rnum_any h.ev.client q0 q1).mono ?_; rintro e w6 ⟨rfl, hb6⟩; have K6 : Below W0.heap.size W0 w6 := below_in ?hk6 hb6; (case hk6 => (first | with_reducible assumption | ((repeat (first | with_reducible refine below_al ?_ _ | with_reducible refine Below.drew ?_)); (first | with_reducible assumption | with_reducible exact Below.refl _ _)))))
                | (go_at_call 44; with_reducible refine (rnum_any h.ev.did r0 r1).mono ?_; rintro e w7 ⟨rfl, hb7⟩; have K7 : Below W0.heap.size W0 w7 := below_in ?hk7 hb7; (case hk7 => (first | with_reducible assumption | ((repeat (first | with_reducible refine below_al ?_ _ | with_reducible refine Below.drew ?_)); (first | with_reducible assumption | with_reducible exact Below.refl _ _))))))
            rename_i hHeld; clear hHeld
            rw [str7 S0 (num h.ev.client) which (num h.ev.did), ← HS1.out.1]
            clear g1 g2 g3 g4 g5 g6 q0 q1 r0 r1 hk0 hb6 hb7 K6 hK
            have HK := Lib.hid (And.intro K7 (HB.out.2.trans (K7.mono HB.out.2.size)))
            obtain ⟨a0, a1, a2, a3, a4, a5, a6, a7, a8, a9, a10, a11, a12⟩ := HC.out _ K7
            clear K7
            cases hdn : h.ev.done
            · have T2 := Lib.hid (show joinB (tellW h) = S1 by rw [T.out, hdn]; simp)
              rw [hdn] at a6
              go_wp2_with fail
              go_ret
              exact ⟨by rw [T2.out]; rfl, HK.out.2⟩
            · rw [hdn] at a6
              have T2 := Lib.hid (show joinB (tellW h) = S1 ++ 32 :: (sDone ++ 32 :: (num h.ev.code ++ 32 :: digits h.ev.val)) ++ (h.ev.pairs.map pairW).flatMap (fun y => 32 :: y) by
                rw [T.out, hdn, if_pos rfl, List.flatMap_append]; simp)
              have HS3 := Lib.hid (show ∀ wx, Below W0.heap.size W0 wx → (wx.cell? ⟨w.heap.size, 7, none⟩ = some (.int .i64 h.ev.code) ∧ wx.cell? ⟨w.heap.size, 8, none⟩ = some (.string (mk h.ev.val)) ∧ Below W0.heap.size W0 wx) from fun wx hk => by
                obtain ⟨_, _, _, _, _, _, _, a7, a8, _⟩ := HC.out _ hk
                exact ⟨a7, a8, hk⟩)
              have hk0 : Below W0.heap.size W0 w7.drew := HK.out.1.drew
              have q0 := N.rcode
              have q1 := O.rcode.2
              have nc := O.rcode.nle
              have nv := Nat.le_trans (digits_le h.ev.val) (show 2 * h.ev.val.length + 1 ≤ 200001 by have := O.val; omega)
              have vv : h.ev.val.length ≤ 1000000 := Nat.le_trans O.val (by decide)
              have hS1l := HS1.out.2
              have g1 : ¬ 9223372036854775807 < S1.length + 6 := by omega
              have g2 : ¬ 9223372036854775807 < S1.length + 6 + (num h.ev.code).length := by omega
              have g3 : ¬ 9223372036854775807 < S1.length + 6 + (num h.ev.code).length + 1 := by omega
              have g4 : ¬ 9223372036854775807 < S1.length + 6 + (num h.ev.code).length + 1 + (digits h.ev.val).length := by omega
              obtain ⟨S2, hS2⟩ : ∃ S2, S2 = S1 ++ 32 :: (sDone ++ 32 :: (num h.ev.code ++ 32 :: digits h.ev.val)) := ⟨_, rfl⟩
              have hS2l : S2.length ≤ 3000000 := by
                rw [hS2]; simp only [List.length_append, List.length_cons]
                have : sDone.length = 4 := rfl
                omega
              rw [← hS2] at T2
              have HS2L := Lib.hid (And.intro hS2 hS2l); clear hS2 hS2l
              clear nc nv hS1l
              go_upto_region 11 with fail
              clear a0 a1 a2 a3 a4 a5 a6 a7 a8 a9 a10 a11 a12
              go_region_held3 (fun wx => wx.cell? ⟨w.heap.size, 7, none⟩ = some (.int .i64 h.ev.code) ∧ wx.cell? ⟨w.heap.size, 8, none⟩ = some (.string (mk h.ev.val)) ∧ Below W0.heap.size W0 wx)
                (exact HS3.out _ (by (first | with_reducible assumption | ((repeat (first | with_reducible refine below_al ?_ _ | with_reducible refine Below.drew ?_)); (first | with_reducible assumption | with_reducible exact Below.refl _ _)))))
                (first
                  | (go_at_call 44; with_reducible refine (rnum_any h.ev.code q0 q1).mono ?_; rintro e w8 ⟨rfl, hb8⟩; have K8 : Below W0.heap.size W0 w8 := below_in ?hk8 hb8; (case hk8 => (first | with_reducible assumption | ((repeat (first | with_reducible refine below_al ?_ _ | with_reducible refine Below.drew ?_)); (first | with_reducible assumption | with_reducible exact Below.refl _ _)))))
                  | (go_at_call 46; with_reducible refine (rHex_any h.ev.val vv).mono ?_; rintro e w9 ⟨rfl, hb9⟩; have K9 : Below W0.heap.size W0 w9 := below_in ?hk9 hb9; (case hk9 => (first | with_reducible assumption | ((repeat (first | with_reducible refine below_al ?_ _ | with_reducible refine Below.drew ?_)); (first | with_reducible assumption | with_reducible exact Below.refl _ _))))))
              rename_i hHeld; clear hHeld
              rw [str5 S1 (num h.ev.code) (digits h.ev.val), ← HS2L.out.1]
              clear g1 g2 g3 g4 q0 q1 vv hk0 hb8 hb9 K8
              have H9 := Lib.hid K9; clear K9
              have hpl := O.few
              go_wp2_with fail
              go_loopw [3, 5] (fun s3 s5 wr => ∃ k : Nat, k ≤ h.ev.pairs.length ∧ s5 = .int .i64 k ∧ s3 = .string (mk (S2 ++ ((h.ev.pairs.take k).map pairW).flatMap (fun y => 32 :: y))) ∧ Below W0.heap.size W0 wr) (fun _ s5 _ => h.ev.pairs.length - (RowKit.intOf s5).toNat)
              case atStart => exact ⟨0, Nat.zero_le _, rfl, by simp, H9.out⟩
              case round =>
                obtain ⟨k, hk, rfl, rfl, hbel⟩ := hrel
                obtain ⟨_, _, _, _, _, _, _, _, _, a9, _, _, _⟩ := HC.out _ hbel
                have HBL := Lib.hid (And.intro hbel (HB.out.2.trans (hbel.mono HB.out.2.size))); clear hbel
                by_cases hlt : k < h.ev.pairs.length
                · obtain ⟨pk, hpk⟩ : ∃ pk, h.ev.pairs[k]? = some pk := ⟨_, List.getElem?_eq_getElem hlt⟩
                  have hrow := HP.out
                  obtain ⟨A', c', e', _, _, hrow⟩ := hrow
                  obtain ⟨rb, ro, rfl, hrb, hrc⟩ := hrow (by omega)
                  obtain ⟨rfl, rfl⟩ : PA = some ⟨rb, ro, none⟩ ∧ PC = c' := by injection e' with a b c; exact ⟨a, c⟩
                  clear e'
                  obtain ⟨v1, v2⟩ := pairV_get hpk
                  have c1 := hrc _ _ v1
                  have c2 := hrc _ _ v2
                  rw [show ro + (k * 2 + 1) = ro + k * 2 + 1 by omega] at c2
                  have HS4 := Lib.hid (show ∀ wx, Below W0.heap.size W0 wx → (wx.cell? ⟨w.heap.size, 9, none⟩ = some (.slice (some ⟨rb, ro, none⟩) h.ev.pairs.length PC) ∧ wx.cell? ⟨rb, ro + k * 2, none⟩ = some (.int .u64 pk.1) ∧ wx.cell? ⟨rb, ro + k * 2 + 1, none⟩ = some (.string (mk pk.2)) ∧ Below W0.heap.size W0 wx) from fun wx hk => by
                    obtain ⟨_, _, _, _, _, _, _, _, _, a9, _, _, _⟩ := HC.out _ hk
                    have hw := HB.out.2.trans (hk.mono HB.out.2.size)
                    exact ⟨a9, by rw [hw.cell (p := ⟨rb, ro + k * 2, none⟩) hrb]; exact c1, by rw [hw.cell (p := ⟨rb, ro + k * 2 + 1, none⟩) hrb]; exact c2, hk⟩)
                  have hkey := O.keys pk (List.mem_of_getElem? hpk)
                  have hval := O.vals pk (List.mem_of_getElem? hpk)
                  have l1 := num_le pk.1 (by omega) hkey.2
                  have l2 := Nat.le_trans (digits_le pk.2) (show 2 * pk.2.length + 1 ≤ 200001 by omega)
                  have hflat : (((h.ev.pairs.take k).map pairW).flatMap (fun y => 32 :: y)).length ≤ 300000000 := flat_le h O k
                  obtain ⟨Sk, hSk⟩ : ∃ Sk, Sk = S2 ++ ((h.ev.pairs.take k).map pairW).flatMap (fun y => 32 :: y) := ⟨_, rfl⟩
                  have hSkl : Sk.length ≤ 400000000 := by rw [hSk, List.length_append]; have := HS2L.out.2; omega
                  have HSK := Lib.hid (show S2 ++ ((h.ev.pairs.take (k + 1)).map pairW).flatMap (fun y => 32 :: y) = Sk ++ 32 :: (num pk.1 ++ 61 :: digits pk.2) by
                    rw [hSk, List.take_add_one, hpk]; simp [pairW])
                  rw [← hSk]
                  clear hSk hpk v1 v2 c1 c2 hrc hrow hflat
                  have g1 : ¬ 9223372036854775807 < Sk.length + 1 := by omega
                  have g2 : ¬ 9223372036854775807 < Sk.length + 1 + (num pk.1).length := by omega
                  have g3 : ¬ 9223372036854775807 < Sk.length + 1 + (num pk.1).length + 1 := by omega
                  have g4 : ¬ 9223372036854775807 < Sk.length + 1 + (num pk.1).length + 1 + (digits pk.2).length := by omega
                  have hv6 : pk.2.length ≤ 1000000 := by omega
                  have hu : U64 pk.1 := hkey
                  clear l1 l2 hSkl hval
                  have hk0 : Below W0.heap.size W0 wr.drew := HBL.out.1.drew
                  go_upto_region 15 with fail
                  clear a9
                  go_region_held3 (fun wx => wx.cell? ⟨w.heap.size, 9, none⟩ = some (.slice (some ⟨rb, ro, none⟩) h.ev.pairs.length PC) ∧ wx.cell? ⟨rb, ro + k * 2, none⟩ = some (.int .u64 pk.1) ∧ wx.cell? ⟨rb, ro + k * 2 + 1, none⟩ = some (.string (mk pk.2)) ∧ Below W0.heap.size W0 wx)
                    (exact HS4.out _ (by (first | with_reducible assumption | ((repeat (first | with_reducible refine below_al ?_ _ | with_reducible refine Below.drew ?_)); (first | with_reducible assumption | with_reducible exact Below.refl _ _)))))
                    (first
                      | (go_at_call 47; with_reducible refine (rNum08_int pk.1 hu).mono ?_; rintro e w10 ⟨rfl, hb10⟩; have K10 : Below W0.heap.size W0 w10 := below_in ?hk10 hb10; (case hk10 => (first | with_reducible assumption | ((repeat (first | with_reducible refine below_al ?_ _ | with_reducible refine Below.drew ?_)); (first | with_reducible assumption | with_reducible exact Below.refl _ _)))))
                      | (go_at_call 46; with_reducible refine (rHex_any pk.2 hv6).mono ?_; rintro e w11 ⟨rfl, hb11⟩; have K11 : Below W0.heap.size W0 w11 := below_in ?hk11 hb11; (case hk11 => (first | with_reducible assumption | ((repeat (first | with_reducible refine below_al ?_ _ | with_reducible refine Below.drew ?_)); (first | with_reducible assumption | with_reducible exact Below.refl _ _))))))
                  rename_i hHeld; clear hHeld
                  rw [str6 Sk (num pk.1) (digits pk.2), ← HSK.out]
                  clear g1 g2 g3 g4 hk0 hb10 hb11 K10
                  have K := Lib.hid K11; clear K11
                  go_wp2_with fail
                  go_roundw
                  case rel => exact ⟨k + 1, by omega, by go_num, rfl, K.out⟩
                  case measure => simp [RowKit.intOf]; omega
                · obtain rfl : k = h.ev.pairs.length := by omega
                  have T3 := Lib.hid (show joinB (tellW h) = S2 ++ ((h.ev.pairs.take h.ev.pairs.length).map pairW).flatMap (fun y => 32 :: y) by rw [T2.out, List.take_length])
                  rw [← T3.out]
                  go_wp2_with fail
                  go_ret
                  exact ⟨rfl, HBL.out.2⟩
        · by_cases k3 : h.kind = 3
          · have k3b : (h.kind == 3) = true := by simpa using k3
            have k2b : (h.kind == 2) = false := by simpa using k2
            have T := Lib.hid (show joinB (tellW h) = S0 ++ 32 :: num h.n by
              rw [T0.out, show tellTail h = [num h.n] by rw [tellTail, if_neg TC.out, if_neg k2, if_pos k3]]; simp)
            have o2 := N.n
            have o3 := O.n.2
            have nl := O.n.nle
            have g1 : ¬ 9223372036854775807 < S0.length + 1 := by omega
            have g2 : ¬ 9223372036854775807 < S0.length + 1 + (num h.n).length := by omega
            clear k2 k3
            go_wp2_with fail
            refine (rnum_any h.n o2 o3).mono ?_; rintro e w6 ⟨rfl, hb6⟩
            go_wp2_with fail
            go_ret
            refine ⟨?_, HW.out.trans (hb6.mono HW.out.size)⟩
            rw [T.out]
            refine str2 S0 (num h.n) [32] ?_
            simp
          · by_cases k7 : h.kind = 7
            · have k7b : (h.kind == 7) = true := by simpa using k7
              have k3b : (h.kind == 3) = false := by simpa using k3
              have k2b : (h.kind == 2) = false := by simpa using k2
              cases hdn : h.done
              · have T := Lib.hid (show joinB (tellW h) = S0 ++ 32 :: sOn by
                  rw [T0.out, show tellTail h = [sOn] by rw [tellTail, if_neg TC.out, if_neg k2, if_neg k3, if_pos k7, hdn]; rfl]; simp)
                have g1 : ¬ 9223372036854775807 < S0.length + 3 := by omega
                clear k2 k3 k7
                rw [hdn] at a10
                go_wp2_with fail
                go_ret
                refine ⟨?_, HW.out⟩
                rw [T.out]
                exact str1 S0 (32 :: sOn)
              · have T := Lib.hid (show joinB (tellW h) = S0 ++ 32 :: (sThrough ++ 32 :: num h.code) by
                  rw [T0.out, show tellTail h = [sThrough, num h.code] by rw [tellTail, if_neg TC.out, if_neg k2, if_neg k3, if_pos k7, hdn]; rfl]; simp)
                have o2 := N.code
                have o3 := O.code.2
                have nl := O.code.nle
                have g1 : ¬ 9223372036854775807 < S0.length + 9 := by omega
                have g2 : ¬ 9223372036854775807 < S0.length + 9 + (num h.code).length := by omega
                clear k2 k3 k7
                rw [hdn] at a10
                go_wp2_with fail
                refine (rnum_any h.code o2 o3).mono ?_; rintro e w6 ⟨rfl, hb6⟩
                go_wp2_with fail
                go_ret
                refine ⟨?_, HW.out.trans (hb6.mono HW.out.size)⟩
                rw [T.out]
                refine str2 S0 (num h.code) (32 :: sThrough ++ [32]) ?_
                simp
            · have k7b : (h.kind == 7) = false := by simpa using k7
              have k3b : (h.kind == 3) = false := by simpa using k3
              have k2b : (h.kind == 2) = false := by simpa using k2
              have T := Lib.hid (show joinB (tellW h) = S0 by
                rw [T0.out, show tellTail h = [] by rw [tellTail, if_neg TC.out, if_neg k2, if_neg k3, if_neg k7]]; simp)
              clear k2 k3 k7
              go_wp2_with fail
              go_ret
              exact ⟨by rw [T.out]; rfl, HW.out⟩

end Go.Proofs.YtbpbkmhipbchbaaGreatDoor.sc.tl
