/-
  PROVED HERE: the contract of script's ofCall: the call of words, or it is left by ErrBytes. Conditions: the library's tables lie (Env); short words.
-/
import Derived.Test.YtnnahodajiolmaaGreatDoorScWord2
import Derived.Test.YtnnahodajiolmaaGreatDoorScRead
namespace Go.Proofs.YtnnahodajiolmaaGreatDoor.sc
open Go.RowKit
set_option linter.unusedVariables false

def OfCallPost (w : World) (l : List Bs) (e : Ending) (w' : World) : Prop :=
  Below w.heap.size w w' ∧ match ofCall l with
    | some c => e = .returned (.agg (clC c))
    | none => e = leftBy 11
/-- The words, and all below as it was. -/
def Wds (w : World) (v : Value) (l : List Bs) (wx : World) : Prop := StrsAt wx v l ∧ Below w.heap.size w wx
theorem Wds.call {w wp w8 : World} {v : Value} {l : List Bs} (h : Wds w v l wp) (hb : Below wp.heap.size wp w8) : Wds w v l w8 := ⟨h.1.next hb, h.2.trans (hb.mono h.2.size)⟩
theorem Wds.alloc {w wp : World} {v : Value} {l : List Bs} (h : Wds w v l wp) (o : Obj) : Wds w v l (wp.alloc o) := ⟨h.1.next ((Below.refl _ _).alloc (Nat.le_refl _) _), h.2.alloc h.2.size o⟩

/-- A callee that always panics, met inside a region: what is behind its return is asked of nobody (Hid False). -/
theorem calls_panics {f : FuncId} {args : Array Value} {w : World} {R R' : Ending → World → Prop} (v0 : Value) (h : Calls Tryz.prog f args w R) (hR : ∀ e w', R e w' → ∃ ch, e = .panicked ch ∧ R' (.panicked ch) w') (_hK : Hid False → R' (.returned v0) w) : Calls Tryz.prog f args w R' :=
  h.mono fun e w' hr => by
    obtain ⟨ch, rfl, h⟩ := hR e w' hr
    exact h

theorem calls_absurd {f : FuncId} {args : Array Value} {w : World} {R' : Ending → World → Prop} (hF : Hid False) (v0 : Value) (_hK : R' (.returned v0) w) : Calls Tryz.prog f args w R' := hF.out.elim

/-- A box that was made, and all below as it was. -/
def Box (W : World) (t : TypeId) (cs : Array Value) (s : Value) (wx : World) : Prop := ∃ g, s = .pointer (some ⟨g, 0, none⟩) ∧ W.heap.size ≤ g ∧ Blk wx g t cs ∧ Below W.heap.size W wx

theorem blkStep {w w8 : World} (hb : Below ((w.alloc (.cells #[.int .i64 0, .int .u64 0, .int .u64 0, .int .i64 0, .string ⟨#[]⟩] 36)).drew).heap.size ((w.alloc (.cells #[.int .i64 0, .int .u64 0, .int .u64 0, .int .i64 0, .string ⟨#[]⟩] 36)).drew) w8) :
    w8.cell? ⟨w.heap.size, 0, none⟩ = some (.int .i64 0) ∧ w8.cell? ⟨w.heap.size, 1, none⟩ = some (.int .u64 0) ∧ w8.cell? ⟨w.heap.size, 2, none⟩ = some (.int .u64 0) ∧ w8.cell? ⟨w.heap.size, 3, none⟩ = some (.int .i64 0) ∧ w8.cell? ⟨w.heap.size, 4, none⟩ = some (.string ⟨#[]⟩)
      ∧ Blk w8 w.heap.size 36 #[.int .i64 0, .int .u64 0, .int .u64 0, .int .i64 0, .string ⟨#[]⟩] ∧ w8.frozen? ⟨w.heap.size, 0, none⟩ = false ∧ w8.frozen? ⟨w.heap.size, 1, none⟩ = false ∧ w8.frozen? ⟨w.heap.size, 2, none⟩ = false ∧ w8.frozen? ⟨w.heap.size, 3, none⟩ = false ∧ w8.frozen? ⟨w.heap.size, 4, none⟩ = false := by
  have B6 := ((Blk.new w 36 #[.int .i64 0, .int .u64 0, .int .u64 0, .int .i64 0, .string ⟨#[]⟩]).drew).below hb (by simp)
  exact ⟨B6.cell 0, B6.cell 1, B6.cell 2, B6.cell 3, B6.cell 4, B6, B6.frozen 0, B6.frozen 1, B6.frozen 2, B6.frozen 3, B6.frozen 4⟩

theorem blkStep2 {w w8 : World} (hb : Below (w.drew.alloc (.cells #[.int .i64 0, .int .u64 0, .int .u64 0, .int .i64 0, .string ⟨#[]⟩] 36)).heap.size (w.drew.alloc (.cells #[.int .i64 0, .int .u64 0, .int .u64 0, .int .i64 0, .string ⟨#[]⟩] 36)) w8) :
    w8.cell? ⟨w.heap.size, 0, none⟩ = some (.int .i64 0) ∧ w8.cell? ⟨w.heap.size, 1, none⟩ = some (.int .u64 0) ∧ w8.cell? ⟨w.heap.size, 2, none⟩ = some (.int .u64 0) ∧ w8.cell? ⟨w.heap.size, 3, none⟩ = some (.int .i64 0) ∧ w8.cell? ⟨w.heap.size, 4, none⟩ = some (.string ⟨#[]⟩)
      ∧ Blk w8 w.heap.size 36 #[.int .i64 0, .int .u64 0, .int .u64 0, .int .i64 0, .string ⟨#[]⟩] ∧ w8.frozen? ⟨w.heap.size, 0, none⟩ = false ∧ w8.frozen? ⟨w.heap.size, 1, none⟩ = false ∧ w8.frozen? ⟨w.heap.size, 2, none⟩ = false ∧ w8.frozen? ⟨w.heap.size, 3, none⟩ = false ∧ w8.frozen? ⟨w.heap.size, 4, none⟩ = false := by
  have B6 := (Blk.new w.drew 36 #[.int .i64 0, .int .u64 0, .int .u64 0, .int .i64 0, .string ⟨#[]⟩]).below hb (by simp)
  exact ⟨B6.cell 0, B6.cell 1, B6.cell 2, B6.cell 3, B6.cell 4, B6, B6.frozen 0, B6.frozen 1, B6.frozen 2, B6.frozen 3, B6.frozen 4⟩

theorem res_call {X : World} {b : Nat} {c : Cl} {tmps : Array Value} (hB : Blk X b 36 (clC c)) (ht : tmps[2]? = some (.pointer (some ⟨b, 0, none⟩))) :
    (results Tryz.f49 tmps).run Tryz.prog X = .ok (.agg (clC c)) X := by
  obtain ⟨e0, e1, e2, e3, e4⟩ := clCells hB
  simp [results, Tryz.results49, go_sem, ht, e0, e1, e2, e3, e4, clC]
/-- The result's cells stored one by one. -/
theorem set5 {w : World} {b : Nat} {t : TypeId} {a0 a1 a2 a3 a4 : Value} (h : Blk w b t #[a0, a1, a2, a3, a4]) (b0 b1 b2 b3 b4 : Value) :
    Blk (((((w.setCell ⟨b, 0, none⟩ b0).setCell ⟨b, 1, none⟩ b1).setCell ⟨b, 2, none⟩ b2).setCell ⟨b, 3, none⟩ b3).setCell ⟨b, 4, none⟩ b4) b t #[b0, b1, b2, b3, b4] :=
  ((((h.set_ 0 b0).set_ 1 b1).set_ 2 b2).set_ 3 b3).set_ 4 b4
theorem below5 {w w' : World} {B b : Nat} (h : Below B w w') (hb : B ≤ b) (b0 b1 b2 b3 b4 : Value) :
    Below B w (((((w'.setCell ⟨b, 0, none⟩ b0).setCell ⟨b, 1, none⟩ b1).setCell ⟨b, 2, none⟩ b2).setCell ⟨b, 3, none⟩ b3).setCell ⟨b, 4, none⟩ b4) :=
  ((((h.setCell (p := ⟨b, 0, none⟩) hb b0).setCell (p := ⟨b, 1, none⟩) hb b1).setCell (p := ⟨b, 2, none⟩) hb b2).setCell (p := ⟨b, 3, none⟩) hb b3).setCell (p := ⟨b, 4, none⟩) hb b4

theorem ofCall_short {l : List Bs} (h : l.length < 2) : ofCall l = none := by
  match l, h with
  | [], _ => rfl
  | [_], _ => rfl
theorem ofCall_bad {o k : Bs} {r : List Bs} (h : any64 k = none) : ofCall (o :: k :: r) = none := by
  simp only [ofCall, h]

set_option maxHeartbeats 4000000 in
set_option maxRecDepth 100000 in
theorem ofCall_any {w : World} (l : List Bs) (v : Value) (hv : StrsAt w v l) (hl : ∀ x ∈ l, x.length ≤ 1000000) (hN : l.length ≤ 1000000) (E : Env w) :
    Calls Tryz.prog 49 #[v] w (OfCallPost w l) := by
  obtain ⟨A, c, rfl⟩ := hv.len
  by_cases h2 : l.length < 2
  · have H := Lib.hid (ofCall_short h2)
    have d0 : decide ((2 : Int) ≤ (l.length : Int)) = false := by simp; omega
    clear h2
    go_enter Tryz.func49, Tryz.ntmps49
    go_wp2_with fail
    refine (check_no _ _).mono ?_; rintro e w3 ⟨rfl, rfl⟩
    refine ⟨rfl, (Below.refl _ _).alloc (Nat.le_refl _) _, ?_⟩
    rw [H.out]
  · obtain ⟨o, k, r, rfl⟩ : ∃ o k r, l = o :: k :: r := by
      match l, h2 with
      | o :: k :: r, _ => exact ⟨o, k, r, rfl⟩
      | [], h => simp at h
      | [_], h => simp at h
    have hW : Wds w (.slice A (o :: k :: r).length c) (o :: k :: r) w := ⟨hv, Below.refl _ _⟩
    have HV := Lib.hid hW; clear hW h2 hv
    have HL := Lib.hid (And.intro hl hN); clear hl hN
    obtain ⟨len, hlen⟩ : ∃ n, n = (o :: k :: r).length := ⟨_, rfl⟩
    have hlen2 : 2 ≤ len := by rw [hlen]; simp
    have hlen3 : len ≤ 1000000 := by rw [hlen]; exact HL.out.2
    rw [← hlen] at HV ⊢
    have HLN := Lib.hid hlen; clear hlen
    have HE := Lib.hid E; clear E
    have d0 : decide ((2 : Int) ≤ (len : Int)) = true := by simp; omega
    have hi0 : 0 < len := by omega
    have hi1 : 1 < len := by omega
    have hi2 : (1 : Int) < (len : Int) := by omega
    obtain ⟨lb, lo, rfl⟩ : ∃ lb lo, A = some ⟨lb, lo, none⟩ := by
      obtain ⟨⟨A', c', e, _, h3⟩, _⟩ := HV.out
      obtain ⟨b, o', e', _⟩ := h3 (by simp)
      cases e
      exact ⟨b, o', e'⟩
    have HZ := Lib.hid ((Below.refl w.heap.size w).alloc (Nat.le_refl _) (.cells #[.int .i64 0, .int .u64 0, .int .u64 0, .int .i64 0, .string ⟨#[]⟩] 36))
    obtain ⟨W0, hW0⟩ : ∃ W0, W0 = w.alloc (.cells #[.int .i64 0, .int .u64 0, .int .u64 0, .int .i64 0, .string ⟨#[]⟩] 36) := ⟨_, rfl⟩
    have hz0 : Blk W0 w.heap.size 36 #[.int .i64 0, .int .u64 0, .int .u64 0, .int .i64 0, .string ⟨#[]⟩] := by rw [hW0]; exact Blk.new _ _ _
    rw [← hW0] at HZ
    go_enter Tryz.func49, Tryz.ntmps49
    go_wp2_with fail
    refine (check_yes _ _).mono ?_; rintro e w3 ⟨rfl, rfl⟩
    go_wp2_with fail
    rw [← hW0]
    clear hW0
    refine (ops_any _).mono ?_; rintro e w4 ⟨rfl, hb4⟩
    go_upto_region 3 with fail
    obtain ⟨W, hW⟩ : ∃ W, W = w4.alloc (.cells #[.string (mk sNone), .string (mk sPut), .string (mk sGet), .string (mk sDelete), .string (mk sScan)] 165) := ⟨_, rfl⟩
    rw [← hW]
    have hop : Blk W w4.heap.size 165 #[.string (mk sNone), .string (mk sPut), .string (mk sGet), .string (mk sDelete), .string (mk sScan)] := by rw [hW]; exact Blk.new _ _ _
    have h0W : Below W0.heap.size W0 W := by rw [hW]; exact hb4.alloc hb4.size _
    have HF := Lib.hid (And.intro hop (And.intro (hz0.below h0W hz0.lt) (And.intro (((HV.out.call HZ.out).call h0W)) ((HE.out.next HZ.out).next h0W))))
    clear hW hop h0W hb4 hz0
    have hS : ∀ wx, Below W.heap.size W wx → (wx.cell? ⟨lb, lo, none⟩ = some (.string (mk o)) ∧ wx.cell? ⟨lb, lo + 1, none⟩ = some (.string (mk k)) ∧ Below W.heap.size W wx) := fun wx hk => by
      have h := (HF.out.2.2.1.1.below hk (Nat.le_refl _))
      rw [HLN.out] at h
      obtain ⟨b, o', e, _, c0⟩ := h.cell (k := 0) (x := o) rfl
      cases e
      obtain ⟨b, o', e, _, c1⟩ := h.cell (k := 1) (x := k) rfl
      cases e
      exact ⟨c0, c1, hk⟩
    have HS := Lib.hid hS; clear hS
    have hk0 : Below W.heap.size W W.drew := (Below.refl _ _).drew
    have hk1 : ∀ Z, Below W.heap.size W ((W.alloc Z).drew) := fun Z => ((Below.refl _ _).alloc (Nat.le_refl _) Z).drew
    have hk2 : ∀ Z, Below W.heap.size W (W.drew.alloc Z) := fun Z => hk0.alloc (Nat.le_refl _) Z
    cases ha : any64 k with
    | none =>
      have HA := Lib.hid ha; clear ha
      have HR := Lib.hid (ofCall_bad (o := o) (r := r) HA.out)
      obtain ⟨c0, c1, _⟩ := HS.out W (Below.refl _ _)
      have hlb := lt_of_cell c0
      have c2 : ∀ ob, (W.alloc ob).cell? ⟨lb, lo, none⟩ = some (.string (mk o)) := fun ob => by rw [World.cell?_alloc_lt _ _ _ hlb]; exact c0
      have c3 : ∀ ob, (W.alloc ob).cell? ⟨lb, lo + 1, none⟩ = some (.string (mk k)) := fun ob => by rw [World.cell?_alloc_lt _ _ _ hlb]; exact c1
      go_region_with (first
          | (go_at_call 48; refine (index_any (l := opsL) o (ops_row (HF.out.1.below (by first | (with_reducible exact hk0) | (with_reducible exact hk1 _) | (with_reducible exact hk2 _)) HF.out.1.lt)) (by decide)).mono ?_; rintro e w5 ⟨rfl, rfl⟩)
          | (go_at_call 47
             refine calls_panics (.int .u64 0) (any64_any k (HL.out.1 k (by simp)) (HF.out.2.2.2.next (by first | (with_reducible exact hk0) | (with_reducible exact hk1 _) | (with_reducible exact hk2 _)))) ?_ (fun hF => ?_)
             · rintro e w6 ⟨hb6, he⟩
               rw [HA.out] at he
               obtain rfl := he
               refine ⟨_, rfl, rfl, HF.out.2.2.1.2.trans (Below.mono (Below.trans (by first | (with_reducible exact hk0) | (with_reducible exact hk1 _) | (with_reducible exact hk2 _)) (hb6.mono (by simp))) HF.out.2.2.1.2.size), ?_⟩
               rw [HR.out]))
      all_goals exact hF.out.elim
    | some key =>
      have HA := Lib.hid ha; clear ha
      go_cut [4] (fun s4 wx => Box W 36 #[.int .i64 (idx o opsL 0), .int .u64 key, .int .u64 0, .int .i64 0, .string ⟨#[]⟩] s4 wx)
      case first =>
        go_region_held3 (fun wx => wx.cell? ⟨lb, lo, none⟩ = some (.string (mk o)) ∧ wx.cell? ⟨lb, lo + 1, none⟩ = some (.string (mk k)) ∧ Below W.heap.size W wx)
          (first | exact HS.out _ (by first | (with_reducible assumption) | (with_reducible exact hk1 _) | (with_reducible exact hk2 _) | (with_reducible exact Below.alloc (by assumption) (Below.size (by assumption)) _)) | exact HS.out _ (((((K6.setCell (Nat.le_refl _) _).setCell (Nat.le_refl _) _).setCell (Nat.le_refl _) _).setCell (Nat.le_refl _) _).setCell (Nat.le_refl _) _))
          (first
            | (go_at_call 48; refine (index_any (l := opsL) o (ops_row (HF.out.1.below (by first | (with_reducible assumption) | (with_reducible exact hk1 _) | (with_reducible exact hk2 _) | (with_reducible exact Below.alloc (by assumption) (Below.size (by assumption)) _)) HF.out.1.lt)) (by decide)).mono ?_; rintro e w5 ⟨rfl, rfl⟩)
            | (go_at_call 47
               refine (any64_any k (HL.out.1 k (by simp)) (HF.out.2.2.2.next (by first | (with_reducible assumption) | (with_reducible exact hk1 _) | (with_reducible exact hk2 _) | (with_reducible exact Below.alloc (by assumption) (Below.size (by assumption)) _)))).mono ?_
               rintro e w6 ⟨hb6, he⟩
               rw [HA.out] at he
               obtain rfl := he
               first
               | ((with_reducible have K6 : Below W.heap.size W w6 := Below.trans hk0 (hb6.mono (by simp))))
               | ((with_reducible have B6 := blkStep (w := W) (w8 := w6) hb6)
                  have K6 : Below W.heap.size W w6 := Below.trans (hk1 _) (hb6.mono (by simp))
                  obtain ⟨f0, f1, f2, f3, f4, BB, g0, g1, g2, g3, g4⟩ := B6)
               | ((with_reducible have B6 := blkStep2 (w := W) (w8 := w6) hb6)
                  have K6 : Below W.heap.size W w6 := Below.trans (hk2 _) (hb6.mono (by simp))
                  obtain ⟨f0, f1, f2, f3, f4, BB, g0, g1, g2, g3, g4⟩ := B6)))
        · go_wp2_with fail
          go_meet
          exact ⟨w6.heap.size, rfl, K6.size, Blk.new _ _ _, K6.alloc K6.size _⟩
        all_goals
          go_wp2_with fail
          go_meet
          exact ⟨W.heap.size, rfl, Nat.le_refl _, ((((BB.set_ 0 _).set_ 1 _).set_ 2 _).set_ 3 _).set_ 4 _, ((((K6.setCell (Nat.le_refl _) _).setCell (Nat.le_refl _) _).setCell (Nat.le_refl _) _).setCell (Nat.le_refl _) _).setCell (Nat.le_refl _) _⟩
      case rest =>
        obtain ⟨g, rfl, hg, hB, hbel⟩ := hcut
        have HB := Lib.hid (And.intro hg (And.intro hB hbel)); clear hg hB hbel
        obtain ⟨i, hi⟩ : ∃ i, i = idx o opsL 0 := ⟨_, rfl⟩
        rw [← hi] at HB
        obtain ⟨d0, d1, d2, d3, d4⟩ := clCells (c := ⟨i, key, 0, 0, []⟩) HB.out.2.1
        have HI := Lib.hid hi; clear hi
        have HP := Lib.hid (show ofCall (o :: k :: r) = (if i = 1 ∧ r.length = 1 then (valueP (r.getD 0 [])).map fun v => ⟨1, key, 0, 0, v⟩
            else if i = 4 ∧ r.length = 2 then (match any64 (r.getD 0 []), whole (r.getD 1 []) 0 big with | some h, some m => some ⟨4, key, h, m, []⟩ | _, _ => none)
            else if (i = 2 ∨ i = 3) ∧ r.length = 0 then some ⟨i, key, 0, 0, []⟩ else none) by
          simp only [ofCall, HA.out, ← HI.out]
          rfl)
        have HLR := Lib.hid (show len = r.length + 2 by rw [HLN.out]; simp)
        have HBW := Lib.hid (show Below w.heap.size w wc from HF.out.2.2.1.2.trans (HB.out.2.2.mono HF.out.2.2.1.2.size))
        by_cases c1 : i = 1
        · subst c1
          by_cases l3 : len = 3
          · obtain ⟨x, rfl⟩ : ∃ x, r = [x] := by
              have := HLR.out
              match r, this with
              | [x], _ => exact ⟨x, rfl⟩
              | [], h => simp at h; omega
              | _ :: _ :: _, h => simp at h; omega
            have e1 : (((len : Nat) : Int) == 3) = true := by simp; omega
            have hW2 := (HF.out.2.2.1.1.below HB.out.2.2 (Nat.le_refl _))
            rw [HLN.out] at hW2
            obtain ⟨b, o', e, _, cx⟩ := hW2.cell (k := 2) (x := x) rfl
            cases e
            clear hW2
            have hi3 : 2 < len := by omega
            have HZB := Lib.hid (show Blk wc w.heap.size 36 #[.int .i64 0, .int .u64 0, .int .u64 0, .int .i64 0, .string ⟨#[]⟩] from HF.out.2.1.below HB.out.2.2 HF.out.2.1.lt)
            have HNG := Lib.hid (show w.heap.size < g from Nat.lt_of_lt_of_le HF.out.2.1.lt HB.out.1)
            cases hvx : valueP x with
            | none =>
              have HQ := Lib.hid (show ofCall [o, k, x] = none by
                rw [HP.out, if_pos ⟨rfl, rfl⟩]; show (valueP x).map _ = none; rw [hvx]; rfl)
              have HVX := Lib.hid hvx; clear hvx
              go_wp2_with fail
              refine (value_any x (HL.out.1 x (by simp))).mono ?_; rintro e w6 ⟨hb6, he⟩
              rw [HVX.out] at he
              obtain rfl := he
              refine ⟨rfl, HBW.out.trans (hb6.mono HBW.out.size), ?_⟩
              rw [HQ.out]
            | some v =>
              have HQ := Lib.hid (show ofCall [o, k, x] = some ⟨1, key, 0, 0, v⟩ by
                rw [HP.out, if_pos ⟨rfl, rfl⟩]; show (valueP x).map _ = _; rw [hvx]; rfl)
              have HVX := Lib.hid hvx; clear hvx
              go_wp2_with fail
              refine (value_any x (HL.out.1 x (by simp))).mono ?_; rintro e w6 ⟨hb6, he⟩
              rw [HVX.out] at he
              obtain rfl := he
              have hB6 := HB.out.2.1.below hb6 HB.out.2.1.lt
              have hZ6 := HZB.out.below hb6 HZB.out.lt
              have H6 := Lib.hid (And.intro hB6 (And.intro hZ6 (HBW.out.trans (hb6.mono HBW.out.size))))
              clear hB6 hZ6 hb6 d0 d1 d2 d3 d4 cx
              obtain ⟨d0, d1, d2, d3, d4⟩ := clCells (c := ⟨1, key, 0, 0, []⟩) H6.out.1
              have y0 := H6.out.1.frozen 4
              have z0 : w6.cell? ⟨w.heap.size, 0, none⟩ = some (.int .i64 0) := H6.out.2.1.cell 0
              have z1 : w6.cell? ⟨w.heap.size, 1, none⟩ = some (.int .u64 0) := H6.out.2.1.cell 1
              have z2 : w6.cell? ⟨w.heap.size, 2, none⟩ = some (.int .u64 0) := H6.out.2.1.cell 2
              have z3 : w6.cell? ⟨w.heap.size, 3, none⟩ = some (.int .i64 0) := H6.out.2.1.cell 3
              have z4 : w6.cell? ⟨w.heap.size, 4, none⟩ = some (.string ⟨#[]⟩) := H6.out.2.1.cell 4
              have v0 := H6.out.2.1.frozen 0
              have v1 := H6.out.2.1.frozen 1
              have v2 := H6.out.2.1.frozen 2
              have v3 := H6.out.2.1.frozen 3
              have v4 := H6.out.2.1.frozen 4
              have n1 : ¬ w.heap.size = g := by have := HNG.out; omega
              have n2 : ¬ g = w.heap.size := by have := HNG.out; omega
              go_wp2_with fail
              refine bodyPost_ret (res_call (c := ⟨1, key, 0, 0, v⟩) (set5 (H6.out.2.1.far (p := ⟨g, 4, none⟩) n1 _) _ _ _ _ _) rfl) rfl ⟨below5 (H6.out.2.2.setCell (p := ⟨g, 4, none⟩) (Nat.le_of_lt HNG.out) _) (Nat.le_refl _) _ _ _ _ _, ?_⟩
              rw [HQ.out]
          · have e1 : (((len : Nat) : Int) == 3) = false := by simp; omega
            have HQ := Lib.hid (show ofCall (o :: k :: r) = none by
              rw [HP.out, if_neg (by have := HLR.out; omega), if_neg (by omega), if_neg (by omega)])
            go_wp2_with fail
            refine (check_no _ _).mono ?_; rintro e w3 ⟨rfl, rfl⟩
            refine ⟨rfl, HBW.out, ?_⟩
            rw [HQ.out]
        · by_cases c4 : i = 4
          · subst c4
            by_cases l4 : len = 4
            · obtain ⟨x, y, rfl⟩ : ∃ x y, r = [x, y] := by
                have := HLR.out
                match r, this with
                | [x, y], _ => exact ⟨x, y, rfl⟩
                | [], h => simp at h; omega
                | [_], h => simp at h; omega
                | _ :: _ :: _ :: _, h => simp at h; omega
              have e1 : (((len : Nat) : Int) == 4) = true := by simp; omega
              have hi3 : 2 < len := by omega
              have hi4 : 3 < len := by omega
              have hi5 : (2 : Int) < (len : Int) := by omega
              have hi6 : (3 : Int) < (len : Int) := by omega
              have HZB := Lib.hid (show Blk wc w.heap.size 36 #[.int .i64 0, .int .u64 0, .int .u64 0, .int .i64 0, .string ⟨#[]⟩] from HF.out.2.1.below HB.out.2.2 HF.out.2.1.lt)
              have HNG := Lib.hid (show w.heap.size < g from Nat.lt_of_lt_of_le HF.out.2.1.lt HB.out.1)
              have hS8 : ∀ wx, Below W.heap.size W wx → (wx.cell? ⟨lb, lo + 2, none⟩ = some (.string (mk x)) ∧ wx.cell? ⟨lb, lo + 3, none⟩ = some (.string (mk y)) ∧ Below W.heap.size W wx) := fun wx hk => by
                have h := (HF.out.2.2.1.1.below hk (Nat.le_refl _))
                rw [HLN.out] at h
                obtain ⟨b, o', e, _, c0⟩ := h.cell (k := 2) (x := x) rfl
                cases e
                obtain ⟨b, o', e, _, c1⟩ := h.cell (k := 3) (x := y) rfl
                cases e
                exact ⟨c0, c1, hk⟩
              have HS8 := Lib.hid hS8; clear hS8
              have hq0 : Below W.heap.size W wc.drew := HB.out.2.2.drew
              have hqb : Blk wc.drew g 36 #[.int .i64 4, .int .u64 key, .int .u64 0, .int .i64 0, .string ⟨#[]⟩] := HB.out.2.1.drew
              cases hax : any64 x with
              | none =>
                have HAX := Lib.hid hax; clear hax
                have HQ := Lib.hid (show ofCall [o, k, x, y] = none by
                  rw [HP.out, if_neg (by omega), if_pos ⟨rfl, rfl⟩]; show (match any64 x, whole y 0 big with | some h, some m => some (⟨4, key, h, m, []⟩ : Cl) | _, _ => none) = none; rw [HAX.out])
                go_upto_region 8 with fail
                clear d0 d1 d2 d3 d4
                obtain ⟨c0, c1, _⟩ := HS8.out wc HB.out.2.2
                have q2 : wc.cell? ⟨g, 2, none⟩ = some (.int .u64 0) := HB.out.2.1.cell 2
                have q3 : wc.cell? ⟨g, 3, none⟩ = some (.int .i64 0) := HB.out.2.1.cell 3
                have p2 := HB.out.2.1.frozen 2
                have p3 := HB.out.2.1.frozen 3
                go_region_with (first
                  | (go_at_call 47
                     refine calls_panics (.int .u64 0) (any64_any x (HL.out.1 x (by simp)) (HF.out.2.2.2.next hq0)) ?_ (fun hF => ?_)
                     · rintro e w6 ⟨hb6, he⟩
                       rw [HAX.out] at he
                       obtain rfl := he
                       refine ⟨_, rfl, rfl, HF.out.2.2.1.2.trans (Below.mono (Below.trans hq0 (hb6.mono hq0.size)) HF.out.2.2.1.2.size), ?_⟩
                       rw [HQ.out])
                  | (go_at_call 23
                     refine calls_absurd hF (.int .i64 0) ?_))
                all_goals exact hF.out.elim
              | some h =>
                have HAX := Lib.hid hax; clear hax
                cases hay : whole y 0 big with
                | none =>
                  have HAY := Lib.hid hay; clear hay
                  have HQ := Lib.hid (show ofCall [o, k, x, y] = none by
                    rw [HP.out, if_neg (by omega), if_pos ⟨rfl, rfl⟩]; show (match any64 x, whole y 0 big with | some h, some m => some (⟨4, key, h, m, []⟩ : Cl) | _, _ => none) = none; rw [HAX.out, HAY.out])
                  go_upto_region 8 with fail
                  clear d0 d1 d2 d3 d4
                  obtain ⟨c0, c1, _⟩ := HS8.out wc HB.out.2.2
                  go_region_with (first
                      | (go_at_call 47
                         refine (any64_any x (HL.out.1 x (by simp)) (HF.out.2.2.2.next hq0)).mono ?_
                         rintro e w6 ⟨hb6, he⟩
                         rw [HAX.out] at he
                         obtain rfl := he
                         have K6 : Below W.heap.size W w6 := Below.trans hq0 (hb6.mono hq0.size)
                         obtain ⟨f0, f1, _⟩ := HS8.out w6 K6
                         have B6 := hqb.below hb6 hqb.lt
                         have q2 : w6.cell? ⟨g, 2, none⟩ = some (.int .u64 0) := B6.cell 2
                         have q3 : w6.cell? ⟨g, 3, none⟩ = some (.int .i64 0) := B6.cell 3
                         have p2 := B6.frozen 2
                         have p3 := B6.frozen 3)
                      | (go_at_call 23
                         refine calls_panics (.int .i64 0) (whole_any y (HL.out.1 y (by simp)) 0 1099511627776 (by decide) (by decide) (by decide) (by decide) (HF.out.2.2.2.next K6)) ?_ (fun hF => ?_)
                         · rintro e w7 ⟨hb7, he⟩
                           rw [show whole y 0 1099511627776 = none from HAY.out] at he
                           obtain rfl := he
                           refine ⟨_, rfl, rfl, HF.out.2.2.1.2.trans (Below.mono (Below.trans K6 (hb7.mono K6.size)) HF.out.2.2.1.2.size), ?_⟩
                           rw [HQ.out]))
                  all_goals exact hF.out.elim
                | some m =>
                  have HAY := Lib.hid hay; clear hay
                  have HQ := Lib.hid (show ofCall [o, k, x, y] = some ⟨4, key, h, m, []⟩ by
                    rw [HP.out, if_neg (by omega), if_pos ⟨rfl, rfl⟩]; show (match any64 x, whole y 0 big with | some h, some m => some (⟨4, key, h, m, []⟩ : Cl) | _, _ => none) = _; rw [HAX.out, HAY.out])
                  go_upto_region 8 with fail
                  clear d0 d1 d2 d3 d4
                  go_region_held3 (fun wx => wx.cell? ⟨lb, lo + 2, none⟩ = some (.string (mk x)) ∧ wx.cell? ⟨lb, lo + 3, none⟩ = some (.string (mk y)) ∧ Below W.heap.size W wx)
                    (first | (with_reducible exact HS8.out _ (by assumption)) | exact HS8.out _ (K7.setCell (p := ⟨g, 2, none⟩) HB.out.1 _) | exact HS8.out _ ((K7.setCell (p := ⟨g, 2, none⟩) HB.out.1 _).setCell (p := ⟨g, 3, none⟩) HB.out.1 _))
                    (first
                      | (go_at_call 47
                         refine (any64_any x (HL.out.1 x (by simp)) (HF.out.2.2.2.next hq0)).mono ?_
                         rintro e w6 ⟨hb6, he⟩
                         rw [HAX.out] at he
                         obtain rfl := he
                         have K6 : Below W.heap.size W w6 := Below.trans hq0 (hb6.mono hq0.size)
                         have B6 := hqb.below hb6 hqb.lt)
                      | (go_at_call 23
                         refine (whole_any y (HL.out.1 y (by simp)) 0 1099511627776 (by decide) (by decide) (by decide) (by decide) (HF.out.2.2.2.next K6)).mono ?_
                         rintro e w7 ⟨hb7, he⟩
                         rw [show whole y 0 1099511627776 = some m from HAY.out] at he
                         obtain rfl := he
                         have K7 : Below W.heap.size W w7 := Below.trans K6 (hb7.mono K6.size)
                         have B7 := B6.below hb7 B6.lt
                         have q2 : w7.cell? ⟨g, 2, none⟩ = some (.int .u64 0) := B7.cell 2
                         have q3 : w7.cell? ⟨g, 3, none⟩ = some (.int .i64 0) := B7.cell 3
                         have p2 := B7.frozen 2
                         have p3 := B7.frozen 3))
                  have HK := Lib.hid (And.intro ((B7.set_ 2 (.int .u64 h)).set_ 3 (.int .i64 m)) (And.intro (((((HZB.out.drew).below hb6 HZB.out.lt).below hb7 (Nat.lt_of_lt_of_le HZB.out.lt hb6.size)).far (p := ⟨g, 2, none⟩) (show ¬ w.heap.size = g by have := HNG.out; omega) (.int .u64 h)).far (p := ⟨g, 3, none⟩) (show ¬ w.heap.size = g by have := HNG.out; omega) (.int .i64 m)) (((HF.out.2.2.1.2.trans (K7.mono HF.out.2.2.1.2.size)).setCell (p := ⟨g, 2, none⟩) (Nat.le_of_lt HNG.out) (.int .u64 h)).setCell (p := ⟨g, 3, none⟩) (Nat.le_of_lt HNG.out) (.int .i64 m))))
                  obtain ⟨w9, hw9⟩ : ∃ w9, w9 = (w7.setCell ⟨g, 2, none⟩ (.int .u64 h)).setCell ⟨g, 3, none⟩ (.int .i64 m) := ⟨_, rfl⟩
                  rw [← hw9] at HK ⊢
                  clear hw9 B7 B6 K6 K7 hb6 hb7 p2 p3 q2 q3
                  obtain ⟨d0, d1, d2, d3, d4⟩ := clCells (c := ⟨4, key, h, m, []⟩) HK.out.1
                  have z0 : w9.cell? ⟨w.heap.size, 0, none⟩ = some (.int .i64 0) := HK.out.2.1.cell 0
                  have z1 : w9.cell? ⟨w.heap.size, 1, none⟩ = some (.int .u64 0) := HK.out.2.1.cell 1
                  have z2 : w9.cell? ⟨w.heap.size, 2, none⟩ = some (.int .u64 0) := HK.out.2.1.cell 2
                  have z3 : w9.cell? ⟨w.heap.size, 3, none⟩ = some (.int .i64 0) := HK.out.2.1.cell 3
                  have z4 : w9.cell? ⟨w.heap.size, 4, none⟩ = some (.string ⟨#[]⟩) := HK.out.2.1.cell 4
                  have v0 := HK.out.2.1.frozen 0
                  have v1 := HK.out.2.1.frozen 1
                  have v2 := HK.out.2.1.frozen 2
                  have v3 := HK.out.2.1.frozen 3
                  have v4 := HK.out.2.1.frozen 4
                  have n1 : ¬ w.heap.size = g := by have := HNG.out; omega
                  have n2 : ¬ g = w.heap.size := by have := HNG.out; omega
                  go_wp2_with fail
                  refine bodyPost_ret (res_call (c := ⟨4, key, h, m, []⟩) (set5 HK.out.2.1 _ _ _ _ _) rfl) rfl ⟨below5 HK.out.2.2 (Nat.le_refl _) _ _ _ _ _, ?_⟩
                  rw [HQ.out]
            · have e1 : (((len : Nat) : Int) == 4) = false := by simp; omega
              have HQ := Lib.hid (show ofCall (o :: k :: r) = none by
                rw [HP.out, if_neg (by omega), if_neg (by have := HLR.out; omega), if_neg (by omega)])
              go_wp2_with fail
              refine (check_no _ _).mono ?_; rintro e w3 ⟨rfl, rfl⟩
              refine ⟨rfl, HBW.out, ?_⟩
              rw [HQ.out]
          · have e1 : (i == 1) = false := by simpa using c1
            have e4 : (i == 4) = false := by simpa using c4
            by_cases c23 : i = 2 ∨ i = 3
            · by_cases l2 : len = 2
              · have HQ := Lib.hid (show ofCall (o :: k :: r) = some ⟨i, key, 0, 0, []⟩ by
                  rw [HP.out, if_neg (by omega), if_neg (by omega), if_pos (by have := HLR.out; omega)])
                have HZB := Lib.hid (show Blk wc w.heap.size 36 #[.int .i64 0, .int .u64 0, .int .u64 0, .int .i64 0, .string ⟨#[]⟩] from HF.out.2.1.below HB.out.2.2 HF.out.2.1.lt)
                have z0 : wc.cell? ⟨w.heap.size, 0, none⟩ = some (.int .i64 0) := HZB.out.cell 0
                have z1 : wc.cell? ⟨w.heap.size, 1, none⟩ = some (.int .u64 0) := HZB.out.cell 1
                have z2 : wc.cell? ⟨w.heap.size, 2, none⟩ = some (.int .u64 0) := HZB.out.cell 2
                have z3 : wc.cell? ⟨w.heap.size, 3, none⟩ = some (.int .i64 0) := HZB.out.cell 3
                have z4 : wc.cell? ⟨w.heap.size, 4, none⟩ = some (.string ⟨#[]⟩) := HZB.out.cell 4
                have y0 := HZB.out.frozen 0
                have y1 := HZB.out.frozen 1
                have y2 := HZB.out.frozen 2
                have y3 := HZB.out.frozen 3
                have y4 := HZB.out.frozen 4
                have el : (((len : Nat) : Int) == 2) = true := by simp; omega
                rcases c23 with c2 | c3
                · have e2 : (i == 2) = true := by simpa using c2
                  clear c2 c1 c4
                  go_wp2_with fail
                  refine (check_yes _ _).mono ?_; rintro e w3 ⟨rfl, rfl⟩
                  go_wp2_with fail
                  refine bodyPost_ret (res_call (c := ⟨i, key, 0, 0, []⟩) (set5 HZB.out _ _ _ _ _) rfl) rfl ⟨below5 HBW.out (Nat.le_refl _) _ _ _ _ _, ?_⟩
                  rw [HQ.out]
                · have e2 : (i == 2) = false := by simp; omega
                  have e3 : (i == 3) = true := by simpa using c3
                  clear c3 c1 c4
                  go_wp2_with fail
                  refine (check_yes _ _).mono ?_; rintro e w3 ⟨rfl, rfl⟩
                  go_wp2_with fail
                  refine bodyPost_ret (res_call (c := ⟨i, key, 0, 0, []⟩) (set5 HZB.out _ _ _ _ _) rfl) rfl ⟨below5 HBW.out (Nat.le_refl _) _ _ _ _ _, ?_⟩
                  rw [HQ.out]
              · have HQ := Lib.hid (show ofCall (o :: k :: r) = none by
                  rw [HP.out, if_neg (by omega), if_neg (by omega), if_neg (by have := HLR.out; omega)])
                have el : (((len : Nat) : Int) == 2) = false := by simp; omega
                rcases c23 with c2 | c3
                · have e2 : (i == 2) = true := by simpa using c2
                  clear c2 c1 c4
                  go_wp2_with fail
                  refine (check_no _ _).mono ?_; rintro e w3 ⟨rfl, rfl⟩
                  refine ⟨rfl, HBW.out, ?_⟩
                  rw [HQ.out]
                · have e2 : (i == 2) = false := by simp; omega
                  have e3 : (i == 3) = true := by simpa using c3
                  clear c3 c1 c4
                  go_wp2_with fail
                  refine (check_no _ _).mono ?_; rintro e w3 ⟨rfl, rfl⟩
                  refine ⟨rfl, HBW.out, ?_⟩
                  rw [HQ.out]
            · have HQ := Lib.hid (show ofCall (o :: k :: r) = none by
                rw [HP.out, if_neg (by omega), if_neg (by omega), if_neg (by omega)])
              have e2 : (i == 2) = false := by simp; omega
              have e3 : (i == 3) = false := by simp; omega
              clear c1 c4 c23
              go_wp2_with fail
              refine (check_no _ _).mono ?_; rintro e w3 ⟨rfl, rfl⟩
              refine ⟨rfl, HBW.out, ?_⟩
              rw [HQ.out]

end Go.Proofs.YtnnahodajiolmaaGreatDoor.sc
