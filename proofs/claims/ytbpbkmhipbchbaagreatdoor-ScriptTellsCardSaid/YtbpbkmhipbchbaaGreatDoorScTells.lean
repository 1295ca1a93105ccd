/-
  PROVED HERE: the law ScriptTells answers true. Conditions: numbers of their kinds; the pairs lie in a row; the library's tables lie (Env).
-/
import Derived.Test.YtbpbkmhipbchbaaGreatDoorScNice
import Derived.Test.YtbpbkmhipbchbaaGreatDoorScKnown
namespace Go.Proofs.YtbpbkmhipbchbaaGreatDoor.sc.tl
open Go.RowKit
set_option linter.unusedVariables false

/-- Numbers of their kinds. -/
structure HpTy (h : Hp) : Prop where
  act : I64 h.act
  kind : I64 h.kind
  state : I64 h.state
  client : I64 h.ev.client
  call : I64 h.ev.call
  did : I64 h.ev.did
  rcode : I64 h.ev.code
  code : I64 h.code
  n : I64 h.n
  keys : ∀ p ∈ h.ev.pairs, 0 ≤ p.1 ∧ p.1 < 18446744073709551616
theorem nice_out {h : Hp} (hn : nice h = true) : Nice h ∧ h.ev.val.length ≤ 300 ∧ h.ev.pairs.length ≤ 50 := by
  simp only [nice, Bool.and_eq_true, decide_eq_true_eq] at hn
  obtain ⟨⟨⟨⟨⟨⟨⟨a, b⟩, c⟩, d⟩, e⟩, f⟩, g⟩, i⟩ := hn
  exact ⟨⟨a, b, c, d, e, f⟩, g, i⟩
theorem nice_ok {h : Hp} (T : HpTy h) (hn : nice h = true) (hv : ∀ p ∈ h.ev.pairs, p.2.length ≤ 300) : HpOk h := by
  obtain ⟨_, g, i⟩ := nice_out hn
  exact ⟨T.act, T.kind, T.state, T.client, T.call, T.did, T.rcode, T.code, T.n, by omega, by omega, T.keys, fun p hp => Nat.le_trans (hv p hp) (by decide)⟩

set_option maxHeartbeats 1600000 in
set_option maxRecDepth 100000 in
theorem tells_any {w : World} (h : Hp) (pv : Value) (hp : RowR w pv h.ev.pairs.length 2 (pairV h.ev.pairs)) (T : HpTy h) (E : Env w) :
    Calls Tryz.prog 4 #[.agg (hpC h pv)] w fun e w' => e = .returned (.bool true) ∧ Below w.heap.size w w' := by
  obtain ⟨PA, PC, rfl⟩ := hp.len
  have HP := Lib.hid hp; clear hp
  have hN := Blk.new w 46 (hpC h (.slice PA h.ev.pairs.length PC))
  have hA := (Below.refl w.heap.size w).alloc (Nat.le_refl _) (.cells (hpC h (.slice PA h.ev.pairs.length PC)) 46)
  obtain ⟨W0, hW0⟩ : ∃ W0, W0 = w.alloc (.cells (hpC h (.slice PA h.ev.pairs.length PC)) 46) := ⟨_, rfl⟩
  rw [← hW0] at hA hN
  have HB := Lib.hid (And.intro hN (And.intro hA (E.next hA))); clear hN hA
  have hC : ∀ wx, Below W0.heap.size W0 wx → _ := fun wx hk => hpCells (HB.out.1.below hk HB.out.1.lt)
  have HC := Lib.hid hC; clear hC
  go_enter Tryz.func4, Tryz.ntmps4
  go_upto_region 1 with fail
  rw [← hW0]
  clear hW0
  obtain ⟨a0, a1, a2, a3, a4, a5, a6, a7, a8, a9, a10, a11, a12⟩ := HC.out _ (Below.refl _ _)
  go_wp2_with fail
  refine (nice_any h PA PC _ rfl).mono ?_; rintro e w1 ⟨rfl, hb1⟩
  have H1 := Lib.hid (And.intro hb1 (And.intro (HB.out.2.1.trans (hb1.mono HB.out.2.1.size)) (HB.out.2.2.next hb1))); clear hb1
  clear a0 a1 a2 a3 a4 a5 a6 a7 a8 a9 a10 a11 a12
  cases hn : nice h with
  | false =>
    go_wp2_with fail
    refine (known_any H1.out.2.2).mono ?_; rintro e w2 ⟨rfl, hb2⟩
    have H2 := Lib.hid (H1.out.2.1.trans (hb2.mono H1.out.2.1.size)); clear hb2
    go_wp2_with fail
    go_ret
    exact ⟨rfl, H2.out⟩
  | true =>
    have NO := nice_out hn
    have HNO := Lib.hid (And.intro hn NO); clear hn
    have hpl := NO.2.2
    clear NO
    go_wp2_with fail
    go_loopw [3] (fun s3 wr => ∃ k : Nat, k ≤ h.ev.pairs.length ∧ s3 = .int .i64 k ∧ (∀ p ∈ h.ev.pairs.take k, p.2.length ≤ 300) ∧ Below W0.heap.size W0 wr) (fun s3 _ => h.ev.pairs.length - (RowKit.intOf s3).toNat)
    case atStart => exact ⟨0, Nat.zero_le _, rfl, by simp, H1.out.1⟩
    case round =>
      obtain ⟨k, hk, rfl, hsm, hbel⟩ := hrel
      have HS := Lib.hid hsm; clear hsm
      obtain ⟨a0, a1, a2, a3, a4, a5, a6, a7, a8, a9, a10, a11, a12⟩ := HC.out _ hbel
      have HBL := Lib.hid (And.intro hbel (And.intro (HB.out.2.1.trans (hbel.mono HB.out.2.1.size)) (HB.out.2.2.next hbel))); clear hbel
      by_cases hlt : k < h.ev.pairs.length
      · obtain ⟨pk, hpk⟩ : ∃ pk, h.ev.pairs[k]? = some pk := ⟨_, List.getElem?_eq_getElem hlt⟩
        have hrow := HP.out
        obtain ⟨A', c', e', _, _, hrow⟩ := hrow
        obtain ⟨rb, ro, rfl, hrb, hrc⟩ := hrow (by omega)
        obtain ⟨rfl, rfl⟩ : PA = some ⟨rb, ro, none⟩ ∧ PC = c' := by injection e' with a b c; exact ⟨a, c⟩
        clear e'
        obtain ⟨v1, v2⟩ := pairV_get hpk
        have c2 : wr.cell? ⟨rb, ro + k * 2 + 1, none⟩ = some (.string (mk pk.2)) := by
          rw [HBL.out.2.1.cell (p := ⟨rb, ro + k * 2 + 1, none⟩) hrb, show ro + k * 2 + 1 = ro + (k * 2 + 1) by omega]; exact hrc _ _ v2
        have hs2 : (mk pk.2).size = pk.2.length := mk_size _
        have HPK := Lib.hid hpk
        clear hrow hrc v1 v2 hpk
        by_cases h3 : pk.2.length ≤ 300
        · have hb3 : decide (300 < pk.2.length) = false := by simp; omega
          go_wp2_with fail
          go_roundw
          case rel =>
            refine ⟨k + 1, by omega, by go_num, fun p hp => ?_, HBL.out.1⟩
            rw [List.take_add_one, HPK.out] at hp
            simp only [Option.toList, List.mem_append, List.mem_singleton] at hp
            rcases hp with hp | rfl
            · exact HS.out p hp
            · exact h3
          case measure => simp [RowKit.intOf]; omega
        · have hb3 : 300 < pk.2.length := by omega
          clear h3
          go_wp2_with fail
          refine (known_any HBL.out.2.2).mono ?_; rintro e w2 ⟨rfl, hb2⟩
          have H2 := Lib.hid (HBL.out.2.1.trans (hb2.mono HBL.out.2.1.size)); clear hb2
          go_wp2_with fail
          go_ret
          exact ⟨rfl, H2.out⟩
      · obtain rfl : k = h.ev.pairs.length := by omega
        have O := nice_ok T HNO.out.1 (fun p hp => HS.out p (by rw [List.take_length]; exact hp))
        have HO := Lib.hid (And.intro O HNO.out.2.1); clear O
        have HS2 := Lib.hid (show ∀ wx, Below W0.heap.size W0 wx → (wx.cell? ⟨w.heap.size, 0, none⟩ = some (.int .i64 h.act) ∧ wx.cell? ⟨w.heap.size, 1, none⟩ = some (.int .i64 h.kind) ∧ wx.cell? ⟨w.heap.size, 2, none⟩ = some (.int .i64 h.state) ∧ wx.cell? ⟨w.heap.size, 3, none⟩ = some (.int .i64 h.ev.client) ∧ wx.cell? ⟨w.heap.size, 4, none⟩ = some (.int .i64 h.ev.call) ∧ wx.cell? ⟨w.heap.size, 5, none⟩ = some (.int .i64 h.ev.did) ∧ wx.cell? ⟨w.heap.size, 6, none⟩ = some (.bool h.ev.done) ∧ wx.cell? ⟨w.heap.size, 7, none⟩ = some (.int .i64 h.ev.code) ∧ wx.cell? ⟨w.heap.size, 8, none⟩ = some (.string (mk h.ev.val)) ∧ wx.cell? ⟨w.heap.size, 9, none⟩ = some (.slice PA h.ev.pairs.length PC) ∧ wx.cell? ⟨w.heap.size, 10, none⟩ = some (.bool h.done) ∧ wx.cell? ⟨w.heap.size, 11, none⟩ = some (.int .i64 h.code) ∧ wx.cell? ⟨w.heap.size, 12, none⟩ = some (.int .i64 h.n) ∧ Below W0.heap.size W0 wx) from fun wx hk => by
          obtain ⟨b0, b1, b2, b3, b4, b5, b6, b7, b8, b9, b10, b11, b12⟩ := HC.out _ hk
          exact ⟨b0, b1, b2, b3, b4, b5, b6, b7, b8, b9, b10, b11, b12, hk⟩)
        have HE := Lib.hid (show ∀ wx, Below W0.heap.size W0 wx → RowR wx (.slice PA h.ev.pairs.length PC) h.ev.pairs.length 2 (pairV h.ev.pairs) ∧ Env wx from fun wx hk =>
          ⟨HP.out.below (HB.out.2.1.trans (hk.mono HB.out.2.1.size)) (Nat.le_refl _), HB.out.2.2.next hk⟩)
        have hk0 : Below W0.heap.size W0 wr.drew := HBL.out.1.drew
        go_upto_region 8 with fail
        clear a0 a1 a2 a3 a4 a5 a6 a7 a8 a9 a10 a11 a12
        have hbe : (joinB (tellW h) == joinB (tellW h)) = true := beq_self_eq_true _
        go_region_held3 (fun wx => wx.cell? ⟨w.heap.size, 0, none⟩ = some (.int .i64 h.act) ∧ wx.cell? ⟨w.heap.size, 1, none⟩ = some (.int .i64 h.kind) ∧ wx.cell? ⟨w.heap.size, 2, none⟩ = some (.int .i64 h.state) ∧ wx.cell? ⟨w.heap.size, 3, none⟩ = some (.int .i64 h.ev.client) ∧ wx.cell? ⟨w.heap.size, 4, none⟩ = some (.int .i64 h.ev.call) ∧ wx.cell? ⟨w.heap.size, 5, none⟩ = some (.int .i64 h.ev.did) ∧ wx.cell? ⟨w.heap.size, 6, none⟩ = some (.bool h.ev.done) ∧ wx.cell? ⟨w.heap.size, 7, none⟩ = some (.int .i64 h.ev.code) ∧ wx.cell? ⟨w.heap.size, 8, none⟩ = some (.string (mk h.ev.val)) ∧ wx.cell? ⟨w.heap.size, 9, none⟩ = some (.slice PA h.ev.pairs.length PC) ∧ wx.cell? ⟨w.heap.size, 10, none⟩ = some (.bool h.done) ∧ wx.cell? ⟨w.heap.size, 11, none⟩ = some (.int .i64 h.code) ∧ wx.cell? ⟨w.heap.size, 12, none⟩ = some (.int .i64 h.n) ∧ Below W0.heap.size W0 wx)
          (exact HS2.out _ (by (first | with_reducible assumption | ((repeat (first | with_reducible refine below_al ?_ _ | with_reducible refine Below.drew ?_)); (first | with_reducible assumption | with_reducible exact Below.refl _ _)))))
          (first
            | (go_at_call 13; refine (tell_any h (.slice PA h.ev.pairs.length PC) (HE.out _ ?hx).1 HO.out.1 (HE.out _ ?hy).2).mono ?_; (case hx => (first | with_reducible assumption | ((repeat (first | with_reducible refine below_al ?_ _ | with_reducible refine Below.drew ?_)); (first | with_reducible assumption | with_reducible exact Below.refl _ _)))); (case hy => (first | with_reducible assumption | ((repeat (first | with_reducible refine below_al ?_ _ | with_reducible refine Below.drew ?_)); (first | with_reducible assumption | with_reducible exact Below.refl _ _)))); rintro e w3 ⟨rfl, hb3⟩; have K3 : Below W0.heap.size W0 w3 := below_in ?hk3 hb3; (case hk3 => (first | with_reducible assumption | ((repeat (first | with_reducible refine below_al ?_ _ | with_reducible refine Below.drew ?_)); (first | with_reducible assumption | with_reducible exact Below.refl _ _)))))
            | (go_at_call 14; refine (rTell_any h (.slice PA h.ev.pairs.length PC) (HE.out _ ?hx).1 HO.out.1 HO.out.2).mono ?_; (case hx => (first | with_reducible assumption | ((repeat (first | with_reducible refine below_al ?_ _ | with_reducible refine Below.drew ?_)); (first | with_reducible assumption | with_reducible exact Below.refl _ _)))); rintro e w4 ⟨rfl, hb4⟩; have K4 : Below W0.heap.size W0 w4 := below_in ?hk4 hb4; (case hk4 => (first | with_reducible assumption | ((repeat (first | with_reducible refine below_al ?_ _ | with_reducible refine Below.drew ?_)); (first | with_reducible assumption | with_reducible exact Below.refl _ _)))))
            | (go_at_call 8; refine (known_any (HE.out _ ?hx).2).mono ?_; (case hx => (first | with_reducible assumption | ((repeat (first | with_reducible refine below_al ?_ _ | with_reducible refine Below.drew ?_)); (first | with_reducible assumption | with_reducible exact Below.refl _ _)))); rintro e w5 ⟨rfl, hb5⟩; have K5 : Below W0.heap.size W0 w5 := below_in ?hk5 hb5; (case hk5 => (first | with_reducible assumption | ((repeat (first | with_reducible refine below_al ?_ _ | with_reducible refine Below.drew ?_)); (first | with_reducible assumption | with_reducible exact Below.refl _ _))))))
        rename_i hHeld; clear hHeld
        have K := Lib.hid (HB.out.2.1.trans (K5.mono HB.out.2.1.size))
        go_wp2_with fail
        go_ret
        exact ⟨rfl, K.out⟩

end Go.Proofs.YtbpbkmhipbchbaaGreatDoor.sc.tl
