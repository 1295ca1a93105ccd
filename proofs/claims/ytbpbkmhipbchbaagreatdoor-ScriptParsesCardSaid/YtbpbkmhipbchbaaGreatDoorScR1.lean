/-
  PROVED HERE: the contract of the reference's May: is a script one that may be. Conditions: rows that read; no slots without end.
-/
import Derived.Test.YtbpbkmhipbchbaaGreatDoorScPLaw
import Derived.Test.YtbpbkmhipbchbaaGreatDoorScQ23
namespace Go.Proofs.YtbpbkmhipbchbaaGreatDoor.sc
open Go.RowKit
set_option linter.unusedVariables false

def mayR (s : Sc) : Bool := decide (1 ≤ s.slabs) && decide (s.slabs ≤ 64) && decide (1 ≤ s.clients) && decide (s.clients ≤ 64) && decide ((s.acts.length : Int) ≤ 100000) && s.acts.all mayAct
theorem mayR_eq {s : Sc} (h : ∀ a ∈ s.acts, Typed a) : mayR s = mayS s := by
  unfold mayR mayS
  congr 1
  rw [Bool.eq_iff_iff]
  simp only [List.all_eq_true, Bool.not_eq_true', List.any_eq_false]
  constructor
  · intro h1 a ha; rw [may_iff (h a ha), h1 a ha]; simp
  · intro h1 a ha
    have := h1 a ha
    rw [may_iff (h a ha)] at this
    simpa using this
/-- A script's box: its three cells. -/
def ScInv (w : World) (s : Sc) (A : Option Addr) (c : Nat) (wx : World) : Prop := Blk wx w.heap.size 58 #[.int .i64 s.slabs, .int .i64 s.clients, .slice A s.acts.length c] ∧ ActsR wx (.slice A s.acts.length c) s.acts ∧ Below w.heap.size w wx
theorem ScInv.call {w wx w' : World} {s : Sc} {A : Option Addr} {c : Nat} (h : ScInv w s A c wx) (hb : Below wx.heap.size wx w') : ScInv w s A c w' := ⟨h.1.below hb h.1.lt, h.2.1.next hb, h.2.2.trans (hb.mono h.2.2.size)⟩

set_option maxHeartbeats 4000000 in
set_option maxRecDepth 100000 in
theorem rMayS_any {w : World} (s : Sc) (v : Value) (h : ActsR w v s.acts) (hK : ∀ a ∈ s.acts, a.keep.length ≤ 1000000000) (hN : s.acts.length ≤ 1000000000) :
    Calls Tryz.prog 21 #[.agg (scC s v)] w (fun e w' => e = .returned (.bool (mayR s)) ∧ Below w.heap.size w w') := by
  obtain ⟨A, c, rfl⟩ := h.len
  obtain ⟨slabs, clients, acts⟩ := s
  dsimp only at h hK hN
  obtain ⟨W, hW⟩ : ∃ W, W = w.alloc (.cells #[.int .i64 slabs, .int .i64 clients, .slice A acts.length c] 58) := ⟨_, rfl⟩
  have HB := Lib.hid (show ScInv w ⟨slabs, clients, acts⟩ A c W by rw [hW]; exact ⟨Blk.new _ _ _, h.next ((Below.refl _ _).alloc (Nat.le_refl _) _), (Below.refl _ _).alloc (Nat.le_refl _) _⟩)
  have HK := Lib.hid (And.intro hK hN); clear hK hN h
  have HG := Lib.hid (show mayR ⟨slabs, clients, acts⟩ = (decide (1 ≤ slabs) && decide (slabs ≤ 64) && decide (1 ≤ clients) && decide (clients ≤ 64) && decide ((acts.length : Int) ≤ 100000) && acts.all mayAct) from rfl)
  have d0 : W.cell? ⟨w.heap.size, 0, none⟩ = some (.int .i64 slabs) := HB.out.1.cell 0
  have d1 : W.cell? ⟨w.heap.size, 1, none⟩ = some (.int .i64 clients) := HB.out.1.cell 1
  have d2 : W.cell? ⟨w.heap.size, 2, none⟩ = some (.slice A acts.length c) := HB.out.1.cell 2
  unfold scC
  dsimp only
  by_cases hok : 1 ≤ slabs ∧ slabs ≤ 64 ∧ 1 ≤ clients ∧ clients ≤ 64 ∧ (acts.length : Int) ≤ 100000
  · obtain ⟨h1, h2, h3, h4, h5⟩ := hok
    rw [decide_eq_true h1, decide_eq_true h2, decide_eq_true h3, decide_eq_true h4, decide_eq_true h5] at HG
    have e1 : decide (slabs < 1) = false := by simp; omega
    have e2 : decide (64 < slabs) = false := by simp; omega
    have e3 : decide (clients < 1) = false := by simp; omega
    have e4 : decide (64 < clients) = false := by simp; omega
    have e5 : decide ((100000 : Int) < (acts.length : Int)) = false := by simp; omega
    go_enter Tryz.func21, Tryz.ntmps21
    go_upto_region 1 with fail
    rw [← hW]
    clear hW
    go_wp2_with fail
    clear d0 d1 d2 e1 e2 e3 e4 e5
    go_loopw [3] (fun s3 wr => ∃ k : Nat, s3 = .int .i64 k ∧ k ≤ acts.length ∧ (∀ j a, j < k → acts[j]? = some a → mayAct a = true) ∧ ScInv w ⟨slabs, clients, acts⟩ A c wr) (fun s3 _ => acts.length - (RowKit.intOf s3).toNat)
    case atStart => exact ⟨0, rfl, Nat.zero_le _, fun j a hj => absurd hj (by omega), HB.out⟩
    case round =>
      obtain ⟨k, rfl, hk, hall, hinv⟩ := hrel
      have HR := Lib.hid (And.intro hk (And.intro hall hinv)); clear hk hall
      have d2 : wr.cell? ⟨w.heap.size, 2, none⟩ = some (.slice A acts.length c) := hinv.1.cell 2
      by_cases hlt : k < acts.length
      · obtain ⟨a, ha⟩ : ∃ a, acts[k]? = some a := ⟨_, List.getElem?_eq_getElem hlt⟩
        obtain ⟨b, o, kA, kc, rfl, hrow, x0, x1, x2, x3, x4, x5, x6, x7, x8, x9⟩ := hinv.2.1.at_ ha
        have hlI : (k : Int) < (acts.length : Int) := by omega
        have HA := Lib.hid (And.intro ha (And.intro hrow hlt)); clear ha hrow hinv
        obtain ⟨q, hq⟩ : ∃ q, q = mayAct a := ⟨_, rfl⟩
        have HQ := Lib.hid hq; clear hq
        go_wp2_with fail
        refine (rMayAct_any a (.slice kA a.keep.length kc) HA.out.2.1 (HK.out.1 a (List.mem_of_getElem? HA.out.1))).mono ?_; rintro e w2 ⟨he, hb2⟩
        rw [← HQ.out] at he
        obtain rfl := he
        have H2 := Lib.hid (HR.out.2.2.call hb2)
        clear d2 x0 x1 x2 x3 x4 x5 x6 x7 x8 x9 hb2
        have hw5 : IntKind.i64.wrap ((k : Int) + 1) = (k : Int) + 1 := IntWalk.i64_in _ (by have := HK.out.2; omega)
        cases q with
        | true =>
          go_wp2_with fail
          go_roundw
          case rel =>
            refine ⟨k + 1, by first | rfl | go_num, by have := HA.out.2.2; omega, fun j x hj hx => ?_, H2.out⟩
            by_cases hj2 : j < k
            · exact HR.out.2.1 j x hj2 hx
            · obtain rfl : j = k := by omega
              rw [HA.out.1] at hx; injection hx with hx; rw [← hx]; exact HQ.out.symm
          case measure =>
            have := HA.out.2.2
            simp [RowKit.intOf]; omega
        | false =>
          go_wp2_with fail
          go_ret
          refine ⟨?_, H2.out.2.2⟩
          rw [HG.out, show acts.all mayAct = false from ?_]
          · rfl
          · rw [List.all_eq_false]; exact ⟨a, List.mem_of_getElem? HA.out.1, by rw [← HQ.out]; simp⟩
      · obtain rfl : k = acts.length := by have := HR.out.1; omega
        clear hinv
        go_wp2_with fail
        go_ret
        refine ⟨?_, HR.out.2.2.2.2⟩
        rw [HG.out, show acts.all mayAct = true from ?_]
        · rfl
        · rw [List.all_eq_true]
          intro a ha
          obtain ⟨j, hj, rfl⟩ := List.getElem_of_mem ha
          exact HR.out.2.1 j _ hj (List.getElem?_eq_getElem hj)
  · have hno : mayR ⟨slabs, clients, acts⟩ = false := by
      rw [HG.out]
      cases hx : (decide (1 ≤ slabs) && decide (slabs ≤ 64) && decide (1 ≤ clients) && decide (clients ≤ 64) && decide ((acts.length : Int) ≤ 100000) && acts.all mayAct) with
      | false => rfl
      | true =>
        simp only [Bool.and_eq_true, decide_eq_true_eq] at hx
        exact absurd ⟨hx.1.1.1.1.1, hx.1.1.1.1.2, hx.1.1.1.2, hx.1.1.2, hx.1.2⟩ hok
    have HNO := Lib.hid hno; clear hno
    go_enter Tryz.func21, Tryz.ntmps21
    go_upto_region 1 with fail
    rw [← hW]
    clear hW
    by_cases h1 : slabs < 1
    · have e1 : decide (slabs < 1) = true := by simpa using h1
      go_wp2_with fail
      go_ret
      exact ⟨by rw [HNO.out]; first | done | rfl, HB.out.2.2⟩
    · have e1 : decide (slabs < 1) = false := by simpa using h1
      by_cases h2 : 64 < slabs
      · have e2 : decide (64 < slabs) = true := by simpa using h2
        go_wp2_with fail
        go_ret
        exact ⟨by rw [HNO.out]; first | done | rfl, HB.out.2.2⟩
      · have e2 : decide (64 < slabs) = false := by simpa using h2
        by_cases h3 : clients < 1
        · have e3 : decide (clients < 1) = true := by simpa using h3
          go_wp2_with fail
          go_ret
          exact ⟨by rw [HNO.out]; first | done | rfl, HB.out.2.2⟩
        · have e3 : decide (clients < 1) = false := by simpa using h3
          by_cases h4 : 64 < clients
          · have e4 : decide (64 < clients) = true := by simpa using h4
            go_wp2_with fail
            go_ret
            exact ⟨by rw [HNO.out]; first | done | rfl, HB.out.2.2⟩
          · have e4 : decide (64 < clients) = false := by simpa using h4
            have h5 : (100000 : Int) < (acts.length : Int) := by omega
            have e5 : decide ((100000 : Int) < (acts.length : Int)) = true := by simp; omega
            go_wp2_with fail
            go_ret
            exact ⟨by rw [HNO.out]; first | done | rfl, HB.out.2.2⟩
end Go.Proofs.YtbpbkmhipbchbaaGreatDoor.sc
