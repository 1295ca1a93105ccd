/-
  PROVED HERE: the contracts of the reference's SameScripts and of the laws' few. Conditions: rows that read; no slots without end.
-/
import Derived.Test.YtbpbkmhipbchbaaGreatDoorScR1
import Derived.Test.YtbpbkmhipbchbaaGreatDoorScQ1
namespace Go.Proofs.YtbpbkmhipbchbaaGreatDoor.sc
open Go.RowKit
set_option linter.unusedVariables false

/-- Two scripts' boxes. -/
def TwoInv (w : World) (s t : Sc) (A B : Option Addr) (c d : Nat) (wx : World) : Prop := Blk wx w.heap.size 58 #[.int .i64 s.slabs, .int .i64 s.clients, .slice A s.acts.length c] ∧ Blk wx (w.heap.size + 1) 58 #[.int .i64 t.slabs, .int .i64 t.clients, .slice B t.acts.length d]
  ∧ ActsR wx (.slice A s.acts.length c) s.acts ∧ ActsR wx (.slice B t.acts.length d) t.acts ∧ Below w.heap.size w wx
theorem TwoInv.call {w wx w' : World} {s t : Sc} {A B : Option Addr} {c d : Nat} (h : TwoInv w s t A B c d wx) (hb : Below wx.heap.size wx w') : TwoInv w s t A B c d w' :=
  ⟨h.1.below hb h.1.lt, h.2.1.below hb h.2.1.lt, h.2.2.1.next hb, h.2.2.2.1.next hb, h.2.2.2.2.trans (hb.mono h.2.2.2.2.size)⟩

set_option maxHeartbeats 4000000 in
set_option maxRecDepth 100000 in
theorem rSameScripts_any {w : World} (s t : Sc) (v u : Value) (hs : ActsR w v s.acts) (ht : ActsR w u t.acts) (hK : ∀ a ∈ s.acts, a.keep.length ≤ 1000000000) (hN : s.acts.length ≤ 1000000000) :
    Calls Tryz.prog 25 #[.agg (scC s v), .agg (scC t u)] w (fun e w' => e = .returned (.bool (decide (s = t))) ∧ Below w.heap.size w w') := by
  obtain ⟨A, c, rfl⟩ := hs.len
  obtain ⟨B, d, rfl⟩ := ht.len
  obtain ⟨slabs, clients, acts⟩ := s
  obtain ⟨slabs', clients', acts'⟩ := t
  dsimp only at hs ht hK hN
  obtain ⟨W, hW⟩ : ∃ W, W = (w.alloc (.cells #[.int .i64 slabs, .int .i64 clients, .slice A acts.length c] 58)).alloc (.cells #[.int .i64 slabs', .int .i64 clients', .slice B acts'.length d] 58) := ⟨_, rfl⟩
  have hb0 : Below w.heap.size w W := by rw [hW]; exact ((Below.refl _ _).alloc (Nat.le_refl _) _).alloc (by simp) _
  have hb2 : Blk W (w.heap.size + 1) 58 #[.int .i64 slabs', .int .i64 clients', .slice B acts'.length d] := by
    rw [hW]
    have h := Blk.new (w.alloc (.cells #[.int .i64 slabs, .int .i64 clients, .slice A acts.length c] 58)) 58 #[.int .i64 slabs', .int .i64 clients', .slice B acts'.length d]
    simpa using h
  have HB := Lib.hid (show TwoInv w ⟨slabs, clients, acts⟩ ⟨slabs', clients', acts'⟩ A B c d W from ⟨by rw [hW]; exact (Blk.new _ _ _).alloc _, hb2, hs.next hb0, ht.next hb0, hb0⟩)
  have HK := Lib.hid (And.intro hK hN); clear hK hN hs ht hb0 hb2
  have d0 : W.cell? ⟨w.heap.size, 0, none⟩ = some (.int .i64 slabs) := HB.out.1.cell 0
  have d1 : W.cell? ⟨w.heap.size, 1, none⟩ = some (.int .i64 clients) := HB.out.1.cell 1
  have d2 : W.cell? ⟨w.heap.size, 2, none⟩ = some (.slice A acts.length c) := HB.out.1.cell 2
  have f0 : W.cell? ⟨w.heap.size + 1, 0, none⟩ = some (.int .i64 slabs') := HB.out.2.1.cell 0
  have f1 : W.cell? ⟨w.heap.size + 1, 1, none⟩ = some (.int .i64 clients') := HB.out.2.1.cell 1
  have f2 : W.cell? ⟨w.heap.size + 1, 2, none⟩ = some (.slice B acts'.length d) := HB.out.2.1.cell 2
  unfold scC
  dsimp only
  go_enter Tryz.func25, Tryz.ntmps25
  go_upto_region 1 with fail
  rw [← hW]
  clear hW
  by_cases h1 : slabs = slabs'
  · subst h1
    by_cases h2 : clients = clients'
    · subst h2
      by_cases h3 : acts.length = acts'.length
      · have e3 : (((acts.length : Nat) : Int) == ((acts'.length : Nat) : Int)) = true := by simp [h3]
        have HL := Lib.hid h3
        go_wp2_with fail
        clear d0 d1 d2 f0 f1 f2 e3 h3
        go_loopw [5] (fun s5 wr => ∃ k : Nat, s5 = .int .i64 k ∧ k ≤ acts.length ∧ (∀ j, j < k → acts[j]? = acts'[j]?) ∧ TwoInv w ⟨slabs, clients, acts⟩ ⟨slabs, clients, acts'⟩ A B c d wr) (fun s5 _ => acts.length - (RowKit.intOf s5).toNat)
        case atStart => exact ⟨0, rfl, Nat.zero_le _, fun j hj => absurd hj (by omega), HB.out⟩
        case round =>
          obtain ⟨k, rfl, hk, hall, hinv⟩ := hrel
          have HR := Lib.hid (And.intro hk (And.intro hall hinv)); clear hk hall
          have d2 : wr.cell? ⟨w.heap.size, 2, none⟩ = some (.slice A acts.length c) := hinv.1.cell 2
          by_cases hlt : k < acts.length
          · obtain ⟨a, ha⟩ : ∃ a, acts[k]? = some a := ⟨_, List.getElem?_eq_getElem hlt⟩
            obtain ⟨b, hb⟩ : ∃ b, acts'[k]? = some b := ⟨_, List.getElem?_eq_getElem (by have := HL.out; omega)⟩
            obtain ⟨p, o, kA, kc, rfl, hrow, x0, x1, x2, x3, x4, x5, x6, x7, x8, x9⟩ := hinv.2.2.1.at_ ha
            obtain ⟨p', o', kA', kc', rfl, hrow', y0, y1, y2, y3, y4, y5, y6, y7, y8, y9⟩ := hinv.2.2.2.1.at_ hb
            have f2 : wr.cell? ⟨w.heap.size + 1, 2, none⟩ = some (.slice (some ⟨p', o', none⟩) acts'.length d) := hinv.2.1.cell 2
            have hlI : (k : Int) < (acts.length : Int) := by omega
            have hlI2 : (k : Int) < (acts'.length : Int) := by have := HL.out; omega
            have hln2 : k < acts'.length := by have := HL.out; omega
            have HA := Lib.hid (And.intro ha (And.intro hb (And.intro hrow (And.intro hrow' hlt)))); clear ha hb hrow hrow' hinv
            obtain ⟨q, hq⟩ : ∃ q, q = decide (a = b) := ⟨_, rfl⟩
            have HQ := Lib.hid hq; clear hq
            have hS : ∀ wx, Below wr.heap.size wr wx → (wx.cell? ⟨w.heap.size, 2, none⟩ = some (.slice (some ⟨p, o, none⟩) acts.length c) ∧ wx.cell? ⟨w.heap.size + 1, 2, none⟩ = some (.slice (some ⟨p', o', none⟩) acts'.length d) ∧ wx.cell? ⟨p, o + k * 10, none⟩ = some (.int .i64 a.kind) ∧ wx.cell? ⟨p, o + k * 10 + 1, none⟩ = some (.int .i64 a.client) ∧ wx.cell? ⟨p, o + k * 10 + 2, none⟩ = some (.int .i64 a.call.op) ∧ wx.cell? ⟨p, o + k * 10 + 3, none⟩ = some (.int .u64 a.call.key) ∧ wx.cell? ⟨p, o + k * 10 + 4, none⟩ = some (.int .u64 a.call.hi) ∧ wx.cell? ⟨p, o + k * 10 + 5, none⟩ = some (.int .i64 a.call.lim) ∧ wx.cell? ⟨p, o + k * 10 + 6, none⟩ = some (.string (mk a.call.val)) ∧ wx.cell? ⟨p, o + k * 10 + 7, none⟩ = some (.int .u64 a.at_) ∧ wx.cell? ⟨p, o + k * 10 + 8, none⟩ = some (.int .i64 a.n) ∧ wx.cell? ⟨p, o + k * 10 + 9, none⟩ = some (.slice kA a.keep.length kc) ∧ wx.cell? ⟨p', o' + k * 10, none⟩ = some (.int .i64 b.kind) ∧ wx.cell? ⟨p', o' + k * 10 + 1, none⟩ = some (.int .i64 b.client) ∧ wx.cell? ⟨p', o' + k * 10 + 2, none⟩ = some (.int .i64 b.call.op) ∧ wx.cell? ⟨p', o' + k * 10 + 3, none⟩ = some (.int .u64 b.call.key) ∧ wx.cell? ⟨p', o' + k * 10 + 4, none⟩ = some (.int .u64 b.call.hi) ∧ wx.cell? ⟨p', o' + k * 10 + 5, none⟩ = some (.int .i64 b.call.lim) ∧ wx.cell? ⟨p', o' + k * 10 + 6, none⟩ = some (.string (mk b.call.val)) ∧ wx.cell? ⟨p', o' + k * 10 + 7, none⟩ = some (.int .u64 b.at_) ∧ wx.cell? ⟨p', o' + k * 10 + 8, none⟩ = some (.int .i64 b.n) ∧ wx.cell? ⟨p', o' + k * 10 + 9, none⟩ = some (.slice kA' b.keep.length kc') ∧ TwoInv w ⟨slabs, clients, acts⟩ ⟨slabs, clients, acts'⟩ (some ⟨p, o, none⟩) (some ⟨p', o', none⟩) c d wx) := fun wx hb => by
              have hc : ∀ {bb oo : Nat} {u : Value}, wr.cell? ⟨bb, oo, none⟩ = some u → wx.cell? ⟨bb, oo, none⟩ = some u := fun {bb oo u} h => by rw [hb.cell (p := ⟨bb, oo, none⟩) (lt_of_cell h)]; exact h
              exact ⟨hc d2, hc f2, hc x0, hc x1, hc x2, hc x3, hc x4, hc x5, hc x6, hc x7, hc x8, hc x9, hc y0, hc y1, hc y2, hc y3, hc y4, hc y5, hc y6, hc y7, hc y8, hc y9, HR.out.2.2.call hb⟩
            have HS := Lib.hid hS; clear hS
            have hk0 : Below wr.heap.size wr wr.drew := (Below.refl _ _).drew
            go_upto_region 6 with fail
            go_region_held3 (fun wx => wx.cell? ⟨w.heap.size, 2, none⟩ = some (.slice (some ⟨p, o, none⟩) acts.length c) ∧ wx.cell? ⟨w.heap.size + 1, 2, none⟩ = some (.slice (some ⟨p', o', none⟩) acts'.length d) ∧ wx.cell? ⟨p, o + k * 10, none⟩ = some (.int .i64 a.kind) ∧ wx.cell? ⟨p, o + k * 10 + 1, none⟩ = some (.int .i64 a.client) ∧ wx.cell? ⟨p, o + k * 10 + 2, none⟩ = some (.int .i64 a.call.op) ∧ wx.cell? ⟨p, o + k * 10 + 3, none⟩ = some (.int .u64 a.call.key) ∧ wx.cell? ⟨p, o + k * 10 + 4, none⟩ = some (.int .u64 a.call.hi) ∧ wx.cell? ⟨p, o + k * 10 + 5, none⟩ = some (.int .i64 a.call.lim) ∧ wx.cell? ⟨p, o + k * 10 + 6, none⟩ = some (.string (mk a.call.val)) ∧ wx.cell? ⟨p, o + k * 10 + 7, none⟩ = some (.int .u64 a.at_) ∧ wx.cell? ⟨p, o + k * 10 + 8, none⟩ = some (.int .i64 a.n) ∧ wx.cell? ⟨p, o + k * 10 + 9, none⟩ = some (.slice kA a.keep.length kc) ∧ wx.cell? ⟨p', o' + k * 10, none⟩ = some (.int .i64 b.kind) ∧ wx.cell? ⟨p', o' + k * 10 + 1, none⟩ = some (.int .i64 b.client) ∧ wx.cell? ⟨p', o' + k * 10 + 2, none⟩ = some (.int .i64 b.call.op) ∧ wx.cell? ⟨p', o' + k * 10 + 3, none⟩ = some (.int .u64 b.call.key) ∧ wx.cell? ⟨p', o' + k * 10 + 4, none⟩ = some (.int .u64 b.call.hi) ∧ wx.cell? ⟨p', o' + k * 10 + 5, none⟩ = some (.int .i64 b.call.lim) ∧ wx.cell? ⟨p', o' + k * 10 + 6, none⟩ = some (.string (mk b.call.val)) ∧ wx.cell? ⟨p', o' + k * 10 + 7, none⟩ = some (.int .u64 b.at_) ∧ wx.cell? ⟨p', o' + k * 10 + 8, none⟩ = some (.int .i64 b.n) ∧ wx.cell? ⟨p', o' + k * 10 + 9, none⟩ = some (.slice kA' b.keep.length kc') ∧ TwoInv w ⟨slabs, clients, acts⟩ ⟨slabs, clients, acts'⟩ (some ⟨p, o, none⟩) (some ⟨p', o', none⟩) c d wx)
              (first | exact HS.out _ (by assumption))
              (first
                | (go_at_call 11; refine (rSame_any a b _ _ (HA.out.2.2.1.next hk0) (HA.out.2.2.2.1.next hk0) (HK.out.1 a (List.mem_of_getElem? HA.out.1))).mono ?_; rintro e w8 ⟨he, hb8⟩; rw [← HQ.out] at he; obtain rfl := he; have K8 : Below wr.heap.size wr w8 := Below.trans hk0 hb8))
            have H8 := Lib.hid (HR.out.2.2.call K8)
            clear K8 hb8 hk0 x0 x1 x2 x3 x4 x5 x6 x7 x8 x9 y0 y1 y2 y3 y4 y5 y6 y7 y8 y9 d2 f2
            have hw5 : IntKind.i64.wrap ((k : Int) + 1) = (k : Int) + 1 := IntWalk.i64_in _ (by have := HK.out.2; omega)
            cases q with
            | true =>
              go_wp2_with fail
              go_roundw
              case rel =>
                refine ⟨k + 1, by first | rfl | go_num, by have := HA.out.2.2.2.2; omega, fun j hj => ?_, H8.out⟩
                by_cases hj2 : j < k
                · exact HR.out.2.1 j hj2
                · obtain rfl : j = k := by omega
                  rw [HA.out.1, HA.out.2.1, of_decide_eq_true HQ.out.symm]
              case measure =>
                have := HA.out.2.2.2.2
                simp [RowKit.intOf]; omega
            | false =>
              go_wp2_with fail
              go_ret
              refine ⟨?_, H8.out.2.2.2.2⟩
              have hne := of_decide_eq_false HQ.out.symm
              have hns : ¬ ((⟨slabs, clients, acts⟩ : Sc) = ⟨slabs, clients, acts'⟩) := by
                rintro h
                injection h with _ _ h
                have h1 := HA.out.1
                rw [h, HA.out.2.1] at h1
                injection h1 with h1
                exact hne h1.symm
              rw [decide_eq_false hns]
              first | done | rfl
          · obtain rfl : k = acts.length := by have := HR.out.1; omega
            clear hinv
            go_wp2_with fail
            go_ret
            refine ⟨?_, HR.out.2.2.2.2.2.2⟩
            have hxx : acts = acts' := by
              refine List.ext_getElem? fun j => ?_
              by_cases hj : j < acts.length
              · exact HR.out.2.1 j hj
              · rw [List.getElem?_eq_none (by omega), List.getElem?_eq_none (by have := HL.out; omega)]
            rw [decide_eq_true (show (⟨slabs, clients, acts⟩ : Sc) = ⟨slabs, clients, acts'⟩ by rw [hxx])]
            first | done | rfl
      · have e3 : (((acts.length : Nat) : Int) == ((acts'.length : Nat) : Int)) = false := by simp; omega
        have HG := Lib.hid (decide_eq_false (p := _) (fun h : (⟨slabs, clients, acts⟩ : Sc) = ⟨slabs, clients, acts'⟩ => h3 (by injection h with _ _ h; rw [h])))
        go_wp2_with fail
        go_ret
        exact ⟨by rw [HG.out]; first | done | rfl, HB.out.2.2.2.2⟩
    · have e2 : (clients == clients') = false := by simpa using h2
      have HG := Lib.hid (decide_eq_false (p := _) (fun h : (⟨slabs, clients, acts⟩ : Sc) = ⟨slabs, clients', acts'⟩ => h2 (by injection h)))
      go_wp2_with fail
      go_ret
      exact ⟨by rw [HG.out]; first | done | rfl, HB.out.2.2.2.2⟩
  · have e1 : (slabs == slabs') = false := by simpa using h1
    have HG := Lib.hid (decide_eq_false (p := _) (fun h : (⟨slabs, clients, acts⟩ : Sc) = ⟨slabs', clients', acts'⟩ => h1 (by injection h)))
    go_wp2_with fail
    go_ret
    exact ⟨by rw [HG.out]; first | done | rfl, HB.out.2.2.2.2⟩
end Go.Proofs.YtbpbkmhipbchbaaGreatDoor.sc
