/-
  PROVED HERE: the contract of the reference's Text: the text of a script of few acts that may be. Conditions: few, short acts that may be; numbers of their kinds.
-/
import Derived.Test.YtbpbkmhipbchbaaGreatDoorScR3
import Derived.Test.YtbpbkmhipbchbaaGreatDoorScQ4
namespace Go.Proofs.YtbpbkmhipbchbaaGreatDoor.sc
open Go.RowKit
set_option linter.unusedVariables false

theorem wpAnyH_takeL {P : Program} {l : List Oper} {Q : Exit → Act → World → Prop} {md : Region.Mode} {S : World → Prop} {i : Nat} {oi : Oper} {v : Value} {fuel : Nat} {listed : Array Bool} {a : Act} {w : World} (hi : l[i]? = some oi)
    (hs : Region.noSelect l.toArray = true) (hf : Region.free md l.toArray listed i = true) (hr : (Region.ready md l.toArray listed).contains i = true)
    (hQ : ∀ c a w, Q (.panic c) (a.put oi.dst v) w → Q (.panic c) a w) (hy : YieldsIf P l.toArray S oi v a) (hS : S w)
    (h : wpAnyH P md l.toArray Q S fuel (listed.setIfInBounds i true) (a.put oi.dst v) w) : wpAnyH P md l.toArray Q S (fuel + 1) listed a w :=
  wpAnyH_take (by simpa using hi) hs hf hr hQ hy hS h
/-- An operation whose guard is off. -/
theorem wpAnyH_skipL {P : Program} {l : List Oper} {Q : Exit → Act → World → Prop} {md : Region.Mode} {S : World → Prop} {i : Nat} {oi : Oper} {fuel : Nat} {listed : Array Bool} {a : Act} {w : World} (hi : l[i]? = some oi)
    (hs : Region.noSelect l.toArray = true) (hf : Region.free md l.toArray listed i = true) (hr : (Region.ready md l.toArray listed).contains i = true)
    (hQ : ∀ c a w, Q (.panic c) (a.put oi.dst undef) w → Q (.panic c) a w) (hw : Region.wanted oi (yielded l.toArray a.tmps) = false) (hS : S w)
    (h : wpAnyH P md l.toArray Q S fuel (listed.setIfInBounds i true) (a.put oi.dst undef) w) : wpAnyH P md l.toArray Q S (fuel + 1) listed a w :=
  wpAnyH_take (by simpa using hi) hs hf hr hQ (Or.inr ⟨hw, rfl⟩) hS h

set_option maxHeartbeats 4000000 in
set_option maxRecDepth 100000 in
theorem rText_any {w : World} (s : Sc) (v : Value) (h : ActsR w v s.acts) (M : ∀ a ∈ s.acts, May a ∧ Typed a) (F : ∀ a ∈ s.acts, a.call.val.length ≤ 300 ∧ a.keep.length ≤ 30) (hN : s.acts.length ≤ 200) (hL : ∀ a ∈ s.acts, ∀ n : Int, I64 n → (lineL a n).length ≤ 30000)
    (h1 : 0 ≤ s.slabs ∧ s.slabs ≤ 64) (h2 : 0 ≤ s.clients ∧ s.clients ≤ 64) :
    Calls Tryz.prog 24 #[.agg (scC s v)] w (fun e w' => e = .returned (.string (mk (textL s))) ∧ Below w.heap.size w w') := by
  obtain ⟨A, c, rfl⟩ := h.len
  obtain ⟨slabs, clients, acts⟩ := s
  dsimp only at h hN hL M F h1 h2
  obtain ⟨W, hW⟩ : ∃ W, W = w.alloc (.cells #[.int .i64 slabs, .int .i64 clients, .slice A acts.length c] 58) := ⟨_, rfl⟩
  have HB := Lib.hid (show ScInv w ⟨slabs, clients, acts⟩ A c W by rw [hW]; exact ⟨Blk.new _ _ _, h.next ((Below.refl _ _).alloc (Nat.le_refl _) _), (Below.refl _ _).alloc (Nat.le_refl _) _⟩)
  have hl1 : (num slabs).length ≤ 21 := num_le slabs (by omega) (by omega)
  have hl2 : (num clients).length ≤ 21 := num_le clients (by omega) (by omega)
  have HK := Lib.hid (And.intro M (And.intro F (And.intro hN (And.intro hL (And.intro h1 h2))))); clear M F hN hL h h1 h2
  have d0 : W.cell? ⟨w.heap.size, 0, none⟩ = some (.int .i64 slabs) := HB.out.1.cell 0
  have d1 : W.cell? ⟨w.heap.size, 1, none⟩ = some (.int .i64 clients) := HB.out.1.cell 1
  have hc1 : ¬ 9223372036854775807 < 6 + (num slabs).length := by omega
  have hc2 : ¬ 9223372036854775807 < 6 + (num slabs).length + 1 := by omega
  have hc3 : ¬ 9223372036854775807 < 6 + (num slabs).length + 1 + (num clients).length := by omega
  have hc4 : ¬ 9223372036854775807 < 6 + (num slabs).length + 1 + (num clients).length + 1 := by omega
  have HLL := Lib.hid (And.intro hl1 hl2); clear hl1 hl2
  unfold scC
  dsimp only
  go_enter Tryz.func24, Tryz.ntmps24
  go_upto_region 1 with fail
  rw [← hW]
  clear hW
  have hS : ∀ wx, Below W.heap.size W wx → (wx.cell? ⟨w.heap.size, 0, none⟩ = some (.int .i64 slabs) ∧ wx.cell? ⟨w.heap.size, 1, none⟩ = some (.int .i64 clients) ∧ Below W.heap.size W wx) := fun wx hb =>
    ⟨(HB.out.1.below hb HB.out.1.lt).cell 0, (HB.out.1.below hb HB.out.1.lt).cell 1, hb⟩
  have HS := Lib.hid hS; clear hS
  have hk0 : Below W.heap.size W W.drew := (Below.refl _ _).drew
  go_region_held3 (fun wx => wx.cell? ⟨w.heap.size, 0, none⟩ = some (.int .i64 slabs) ∧ wx.cell? ⟨w.heap.size, 1, none⟩ = some (.int .i64 clients) ∧ Below W.heap.size W wx)
    (first | exact HS.out _ (by assumption))
    (first
      | (go_at_call_of 44 (Value.int IntKind.i64 slabs); go_must (refine (rnum_any slabs HK.out.2.2.2.2.1.1 (Int.le_trans HK.out.2.2.2.2.1.2 (by decide))).mono ?_; rintro e w8 ⟨rfl, hb8⟩); have K8 : Below W.heap.size W w8 := Below.trans hk0 hb8)
      | (go_at_call 44; with_reducible refine (rnum_any clients HK.out.2.2.2.2.2.1 (Int.le_trans HK.out.2.2.2.2.2.2 (by decide))).mono ?_; rintro e w9 ⟨rfl, hb9⟩; have K9 : Below W.heap.size W w9 := Below.trans K8 (hb9.mono K8.size)))
  have hd : ((({ data := #[108, 101, 118, 101, 101, 32] } : ByteArray) ++ mk (num slabs) ++ { data := #[32] } ++ mk (num clients) ++ { data := #[10] }) : ByteArray) = mk (headL ⟨slabs, clients, acts⟩) := by
    rw [show ({ data := #[108, 101, 118, 101, 101, 32] } : ByteArray) = mk [108, 101, 118, 101, 101, 32] from rfl, show ({ data := #[32] } : ByteArray) = mk [32] from rfl, show ({ data := #[10] } : ByteArray) = mk [10] from rfl]
    rw [mk_append, mk_append, mk_append, mk_append]
    congr 1
    unfold headL
    rw [joinB_cons2, joinB_cons2, joinB_one]
    simp [sLevee]
  rw [hd]
  have H9 := Lib.hid (HB.out.call K9)
  clear hd K9 K8 hb8 hb9 hk0 hc1 hc2 hc3 hc4 d0 d1
  go_wp2_with fail
  go_loopw [3, 4] (fun s3 s4 wr => ∃ (i : Nat) (tx : Bs), s3 = .string (mk tx) ∧ s4 = .int .i64 i ∧ i ≤ acts.length ∧ tx.length ≤ 200 + i * 30001 ∧ tx ++ bodyL (rowsL (acts.drop i)) = textL ⟨slabs, clients, acts⟩ ∧ ScInv w ⟨slabs, clients, acts⟩ A c wr) (fun _ s4 _ => acts.length - (RowKit.intOf s4).toNat)
  case atStart => exact ⟨0, headL ⟨slabs, clients, acts⟩, rfl, rfl, Nat.zero_le _, by
    have h1 := HLL.out.1; have h2 := HLL.out.2
    unfold headL; rw [joinB_cons2, joinB_cons2, joinB_one]; simp [sLevee]; omega, rfl, H9.out⟩
  case round =>
    obtain ⟨i, tx, rfl, rfl, hi, hlen, htx, hinv⟩ := hrel
    have HR := Lib.hid (And.intro hi (And.intro hlen (And.intro htx hinv))); clear hi hlen htx
    have d2 : wr.cell? ⟨w.heap.size, 2, none⟩ = some (.slice A acts.length c) := hinv.1.cell 2
    by_cases hlt : i < acts.length
    · obtain ⟨a, ha⟩ : ∃ a, acts[i]? = some a := ⟨_, List.getElem?_eq_getElem hlt⟩
      obtain ⟨b, o, kA, kc, rfl, hrow, x0, x1, x2, x3, x4, x5, x6, x7, x8, x9⟩ := hinv.2.1.at_ ha
      have hiI : (i : Int) < (acts.length : Int) := by omega
      have hdr : acts.drop i = a :: acts.drop (i + 1) := by
        rw [List.drop_eq_getElem_cons hlt]
        congr 1
        rw [List.getElem?_eq_getElem hlt] at ha; injection ha
      have HA := Lib.hid (And.intro ha (And.intro hrow (And.intro hlt hdr))); clear ha hrow hdr hinv
      obtain ⟨wo, rfl⟩ : ∃ wo : World, wo = wr := ⟨_, rfl⟩
      have hS1 : ∀ wx, Below wo.heap.size wo wx → (wx.cell? ⟨w.heap.size, 2, none⟩ = some (.slice (some ⟨b, o, none⟩) acts.length c) ∧ wx.cell? ⟨b, o + i * 10, none⟩ = some (.int .i64 a.kind) ∧ wx.cell? ⟨b, o + i * 10 + 1, none⟩ = some (.int .i64 a.client) ∧ wx.cell? ⟨b, o + i * 10 + 2, none⟩ = some (.int .i64 a.call.op) ∧ wx.cell? ⟨b, o + i * 10 + 3, none⟩ = some (.int .u64 a.call.key) ∧ wx.cell? ⟨b, o + i * 10 + 4, none⟩ = some (.int .u64 a.call.hi) ∧ wx.cell? ⟨b, o + i * 10 + 5, none⟩ = some (.int .i64 a.call.lim) ∧ wx.cell? ⟨b, o + i * 10 + 6, none⟩ = some (.string (mk a.call.val)) ∧ wx.cell? ⟨b, o + i * 10 + 7, none⟩ = some (.int .u64 a.at_) ∧ wx.cell? ⟨b, o + i * 10 + 8, none⟩ = some (.int .i64 a.n) ∧ wx.cell? ⟨b, o + i * 10 + 9, none⟩ = some (.slice kA a.keep.length kc) ∧ Below wo.heap.size wo wx) := fun wx hb => by
        have hc : ∀ {bb oo : Nat} {u : Value}, wo.cell? ⟨bb, oo, none⟩ = some u → wx.cell? ⟨bb, oo, none⟩ = some u := fun {bb oo u} h => by rw [hb.cell (p := ⟨bb, oo, none⟩) (lt_of_cell h)]; exact h
        exact ⟨hc d2, hc x0, hc x1, hc x2, hc x3, hc x4, hc x5, hc x6, hc x7, hc x8, hc x9, hb⟩
      have HS1 := Lib.hid hS1; clear hS1 x0 x1 x2 x3 x4 x5 x6 x7 x8 x9
      go_wp2_with fail
      clear d2
      go_loopw [5] (fun s5 wi => ∃ k : Nat, s5 = .int .i64 k ∧ 1 ≤ k ∧ i + k ≤ acts.length ∧ (∀ j, j + 1 < k → (acts.drop (i + 1))[j]? = some a) ∧ (1 < k → again a = true) ∧ Below wo.heap.size wo wi) (fun s5 _ => acts.length - (RowKit.intOf s5).toNat)
      case atStart => exact ⟨1, rfl, Nat.le_refl _, by omega, fun j hj => by omega, fun h => by omega, Below.refl _ _⟩
      case round =>
        obtain ⟨k, rfl, hk1, hkm, hlike, hag, hbi⟩ := hrel
        have HL := Lib.hid (And.intro hk1 (And.intro hkm (And.intro hlike (And.intro hag hbi)))); clear hlike hag
        have hw1 : IntKind.i64.wrap ((i : Int) + (k : Int)) = (i : Int) + (k : Int) := IntWalk.i64_in _ (by have := HK.out.2.2.1; omega)
        go_upto_region 5 with fail
        go_cut [50, 5] (fun s50 s5 wx => ∃ q : Bool, s50 = .bool q ∧ s5 = .int .i64 k ∧ Below wo.heap.size wo wx ∧ (q = true → i + k < acts.length ∧ again a = true ∧ (acts.drop (i + 1))[k - 1]? = some a) ∧ (q = false → i + k = acts.length ∨ again a = false ∨ ∃ b, (acts.drop (i + 1))[k - 1]? = some b ∧ a ≠ b))
        case first =>
          obtain ⟨d2, x0, x1, x2, x3, x4, x5, x6, x7, x8, x9, _⟩ := HS1.out wr hbi
          by_cases hkl : i + k < acts.length
          · obtain ⟨y, hy⟩ : ∃ y, acts[i + k]? = some y := ⟨_, List.getElem?_eq_getElem hkl⟩
            have hyd : (acts.drop (i + 1))[k - 1]? = some y := by rw [List.getElem?_drop, show i + 1 + (k - 1) = i + k by omega]; exact hy
            have e1 : (i : Int) + (k : Int) < (acts.length : Int) := by omega
            have e0 : (0 : Int) ≤ (i : Int) + (k : Int) := by omega
            have e2 : ((i : Int) + (k : Int)).toNat = i + k := by omega
            obtain ⟨q, hq⟩ : ∃ q, q = again a := ⟨_, rfl⟩
            have HQ := Lib.hid hq; clear hq
            have hk0 : Below wo.heap.size wo wr.drew := hbi.drew
            cases q with
            | false =>
              refine wp_region_held_drew (S := fun wx => wx.cell? ⟨w.heap.size, 2, none⟩ = some (.slice (some ⟨b, o, none⟩) acts.length c) ∧ wx.cell? ⟨b, o + i * 10, none⟩ = some (.int .i64 a.kind) ∧ wx.cell? ⟨b, o + i * 10 + 1, none⟩ = some (.int .i64 a.client) ∧ wx.cell? ⟨b, o + i * 10 + 2, none⟩ = some (.int .i64 a.call.op) ∧ wx.cell? ⟨b, o + i * 10 + 3, none⟩ = some (.int .u64 a.call.key) ∧ wx.cell? ⟨b, o + i * 10 + 4, none⟩ = some (.int .u64 a.call.hi) ∧ wx.cell? ⟨b, o + i * 10 + 5, none⟩ = some (.int .i64 a.call.lim) ∧ wx.cell? ⟨b, o + i * 10 + 6, none⟩ = some (.string (mk a.call.val)) ∧ wx.cell? ⟨b, o + i * 10 + 7, none⟩ = some (.int .u64 a.at_) ∧ wx.cell? ⟨b, o + i * 10 + 8, none⟩ = some (.int .i64 a.n) ∧ wx.cell? ⟨b, o + i * 10 + 9, none⟩ = some (.slice kA a.keep.length kc) ∧ Below wo.heap.size wo wx) (by kernel_rfl) (HS1.out _ hk0) (fun hHeld => ?_)
              refine wpAnyH_takeL (i := 0) (v := ?v0) rfl (by kernel_rfl) (by kernel_rfl) (by kernel_rfl) (fun _ _ _ h => h) (Or.inl ⟨by rfl, ?hy0⟩) (by assumption) ?_
              case hy0 => (intro w hSw; (try dsimp only at hSw); go_simp; try with_reducible rfl)
              simp only [Act.put, List.setIfInBounds_toArray, List.set_cons_zero, List.set_cons_succ]
              refine wpAnyH_takeL (i := 1) (v := ?v1) rfl (by kernel_rfl) (by kernel_rfl) (by kernel_rfl) (fun _ _ _ h => h) (Or.inl ⟨by rfl, ?hy1⟩) (by assumption) ?_
              case hy1 => (intro w hSw; (try dsimp only at hSw); go_simp; try with_reducible rfl)
              simp only [Act.put, List.setIfInBounds_toArray, List.set_cons_zero, List.set_cons_succ]
              refine wpAnyH_takeL (i := 2) (v := ?v2) rfl (by kernel_rfl) (by kernel_rfl) (by kernel_rfl) (fun _ _ _ h => h) (Or.inl ⟨by rfl, ?hy2⟩) (by assumption) ?_
              case hy2 => (intro w hSw; (try dsimp only at hSw); go_simp; try with_reducible rfl)
              simp only [Act.put, List.setIfInBounds_toArray, List.set_cons_zero, List.set_cons_succ]
              refine wpAnyH_takeL (i := 3) (v := ?v3) rfl (by kernel_rfl) (by kernel_rfl) (by kernel_rfl) (fun _ _ _ h => h) (Or.inl ⟨by rfl, ?hy3⟩) (by assumption) ?_
              case hy3 => (intro w hSw; (try dsimp only at hSw); go_simp; try with_reducible rfl)
              simp only [Act.put, List.setIfInBounds_toArray, List.set_cons_zero, List.set_cons_succ]
              refine wpAnyH_takeL (i := 4) (v := ?v4) rfl (by kernel_rfl) (by kernel_rfl) (by kernel_rfl) (fun _ _ _ h => h) (Or.inl ⟨by rfl, ?hy4⟩) (by assumption) ?_
              case hy4 => (intro w hSw; (try dsimp only at hSw); go_simp; try with_reducible rfl)
              simp only [Act.put, List.setIfInBounds_toArray, List.set_cons_zero, List.set_cons_succ]
              refine wpAnyH_takeL (i := 5) (v := ?v5) rfl (by kernel_rfl) (by kernel_rfl) (by kernel_rfl) (fun _ _ _ h => h) (Or.inl ⟨by rfl, ?hy5⟩) (by assumption) ?_
              case hy5 => (intro w hSw; (try dsimp only at hSw); go_simp; try with_reducible rfl)
              simp only [Act.put, List.setIfInBounds_toArray, List.set_cons_zero, List.set_cons_succ]
              refine wpAnyH_takeL (i := 6) (v := ?v6) rfl (by kernel_rfl) (by kernel_rfl) (by kernel_rfl) (fun _ _ _ h => h) (Or.inl ⟨by rfl, ?hy6⟩) (by assumption) ?_
              case hy6 => (intro w hSw; (try dsimp only at hSw); go_simp; try with_reducible rfl)
              simp only [Act.put, List.setIfInBounds_toArray, List.set_cons_zero, List.set_cons_succ]
              refine wpAnyH_takeL (i := 7) (v := ?v7) rfl (by kernel_rfl) (by kernel_rfl) (by kernel_rfl) (fun _ _ _ h => h) (Or.inl ⟨by rfl, ?hy7⟩) (by assumption) ?_
              case hy7 => (intro w hSw; (try dsimp only at hSw); go_simp; try with_reducible rfl)
              simp only [Act.put, List.setIfInBounds_toArray, List.set_cons_zero, List.set_cons_succ]
              refine wpAnyH_takeL (i := 8) (v := ?v8) rfl (by kernel_rfl) (by kernel_rfl) (by kernel_rfl) (fun _ _ _ h => h) (Or.inl ⟨by rfl, ?hy8⟩) (by assumption) ?_
              case hy8 => (intro w hSw; (try dsimp only at hSw); go_simp; try with_reducible rfl)
              simp only [Act.put, List.setIfInBounds_toArray, List.set_cons_zero, List.set_cons_succ]
              refine wpAnyH_takeL (i := 9) (v := ?v9) rfl (by kernel_rfl) (by kernel_rfl) (by kernel_rfl) (fun _ _ _ h => h) (Or.inl ⟨by rfl, ?hy9⟩) (by assumption) ?_
              case hy9 => (intro w hSw; (try dsimp only at hSw); go_simp; try with_reducible rfl)
              simp only [Act.put, List.setIfInBounds_toArray, List.set_cons_zero, List.set_cons_succ]
              refine wpAnyH_takeL (i := 10) (v := ?v10) rfl (by kernel_rfl) (by kernel_rfl) (by kernel_rfl) (fun _ _ _ h => h) (Or.inl ⟨by rfl, ?hy10⟩) (by assumption) ?_
              case hy10 => (intro w hSw; (try dsimp only at hSw); go_simp; try with_reducible rfl)
              simp only [Act.put, List.setIfInBounds_toArray, List.set_cons_zero, List.set_cons_succ]
              refine wpAnyH_takeL (i := 11) (v := ?v11) rfl (by kernel_rfl) (by kernel_rfl) (by kernel_rfl) (fun _ _ _ h => h) (Or.inl ⟨by rfl, ?hy11⟩) (by assumption) ?_
              case hy11 => (intro w hSw; (try dsimp only at hSw); go_simp; try with_reducible rfl)
              simp only [Act.put, List.setIfInBounds_toArray, List.set_cons_zero, List.set_cons_succ]
              refine wpAnyH_takeL (i := 12) (v := ?v12) rfl (by kernel_rfl) (by kernel_rfl) (by kernel_rfl) (fun _ _ _ h => h) (Or.inl ⟨by rfl, ?hy12⟩) (by assumption) ?_
              case hy12 => (intro w hSw; (try dsimp only at hSw); go_simp; try with_reducible rfl)
              simp only [Act.put, List.setIfInBounds_toArray, List.set_cons_zero, List.set_cons_succ]
              refine wpAnyH_ready (rs := [13]) (by kernel_rfl) (by simp) ?_
              refine AllReadyH.cons rfl (fun K hK => ?_) AllReadyH.nil
              go_simp
              refine (rAgain_any a kA a.keep.length kc).mono ?_
              rintro e w8 ⟨he, hb8⟩
              rw [← HQ.out] at he
              obtain rfl := he
              have K8 : Below wo.heap.size wo w8 := Below.trans hk0 (hb8.mono hk0.size)
              refine hK.out _ _ (HS1.out _ K8) (fun hHeld2 => ?_)
              clear hK K hHeld
              try simp only [Act.put, List.setIfInBounds_toArray, List.set_cons_zero, List.set_cons_succ]
              refine wpAnyH_takeL (i := 14) (v := ?v14) rfl (by kernel_rfl) (by kernel_rfl) (by kernel_rfl) (fun _ _ _ h => h) (Or.inl ⟨by rfl, ?hy14⟩) (by assumption) ?_
              case hy14 => (intro w hSw; (try dsimp only at hSw); go_simp; try with_reducible rfl)
              simp only [Act.put, List.setIfInBounds_toArray, List.set_cons_zero, List.set_cons_succ]
              refine wpAnyH_takeL (i := 15) (v := ?v15) rfl (by kernel_rfl) (by kernel_rfl) (by kernel_rfl) (fun _ _ _ h => h) (Or.inl ⟨by rfl, ?hy15⟩) (by assumption) ?_
              case hy15 => (intro w hSw; (try dsimp only at hSw); go_simp; try with_reducible rfl)
              simp only [Act.put, List.setIfInBounds_toArray, List.set_cons_zero, List.set_cons_succ]
              refine wpAnyH_skipL (i := 16) rfl (by kernel_rfl) (by kernel_rfl) (by kernel_rfl) (fun _ _ _ h => h) (by rfl) (by assumption) ?_
              simp only [Act.put, List.setIfInBounds_toArray, List.set_cons_zero, List.set_cons_succ]
              refine wpAnyH_skipL (i := 17) rfl (by kernel_rfl) (by kernel_rfl) (by kernel_rfl) (fun _ _ _ h => h) (by rfl) (by assumption) ?_
              simp only [Act.put, List.setIfInBounds_toArray, List.set_cons_zero, List.set_cons_succ]
              refine wpAnyH_skipL (i := 18) rfl (by kernel_rfl) (by kernel_rfl) (by kernel_rfl) (fun _ _ _ h => h) (by rfl) (by assumption) ?_
              simp only [Act.put, List.setIfInBounds_toArray, List.set_cons_zero, List.set_cons_succ]
              refine wpAnyH_skipL (i := 19) rfl (by kernel_rfl) (by kernel_rfl) (by kernel_rfl) (fun _ _ _ h => h) (by rfl) (by assumption) ?_
              simp only [Act.put, List.setIfInBounds_toArray, List.set_cons_zero, List.set_cons_succ]
              refine wpAnyH_skipL (i := 20) rfl (by kernel_rfl) (by kernel_rfl) (by kernel_rfl) (fun _ _ _ h => h) (by rfl) (by assumption) ?_
              simp only [Act.put, List.setIfInBounds_toArray, List.set_cons_zero, List.set_cons_succ]
              refine wpAnyH_skipL (i := 21) rfl (by kernel_rfl) (by kernel_rfl) (by kernel_rfl) (fun _ _ _ h => h) (by rfl) (by assumption) ?_
              simp only [Act.put, List.setIfInBounds_toArray, List.set_cons_zero, List.set_cons_succ]
              refine wpAnyH_skipL (i := 22) rfl (by kernel_rfl) (by kernel_rfl) (by kernel_rfl) (fun _ _ _ h => h) (by rfl) (by assumption) ?_
              simp only [Act.put, List.setIfInBounds_toArray, List.set_cons_zero, List.set_cons_succ]
              refine wpAnyH_skipL (i := 23) rfl (by kernel_rfl) (by kernel_rfl) (by kernel_rfl) (fun _ _ _ h => h) (by rfl) (by assumption) ?_
              simp only [Act.put, List.setIfInBounds_toArray, List.set_cons_zero, List.set_cons_succ]
              refine wpAnyH_skipL (i := 24) rfl (by kernel_rfl) (by kernel_rfl) (by kernel_rfl) (fun _ _ _ h => h) (by rfl) (by assumption) ?_
              simp only [Act.put, List.setIfInBounds_toArray, List.set_cons_zero, List.set_cons_succ]
              refine wpAnyH_skipL (i := 25) rfl (by kernel_rfl) (by kernel_rfl) (by kernel_rfl) (fun _ _ _ h => h) (by rfl) (by assumption) ?_
              simp only [Act.put, List.setIfInBounds_toArray, List.set_cons_zero, List.set_cons_succ]
              refine wpAnyH_skipL (i := 26) rfl (by kernel_rfl) (by kernel_rfl) (by kernel_rfl) (fun _ _ _ h => h) (by rfl) (by assumption) ?_
              simp only [Act.put, List.setIfInBounds_toArray, List.set_cons_zero, List.set_cons_succ]
              refine wpAnyH_skipL (i := 27) rfl (by kernel_rfl) (by kernel_rfl) (by kernel_rfl) (fun _ _ _ h => h) (by rfl) (by assumption) ?_
              simp only [Act.put, List.setIfInBounds_toArray, List.set_cons_zero, List.set_cons_succ]
              refine wpAnyH_skipL (i := 28) rfl (by kernel_rfl) (by kernel_rfl) (by kernel_rfl) (fun _ _ _ h => h) (by rfl) (by assumption) ?_
              simp only [Act.put, List.setIfInBounds_toArray, List.set_cons_zero, List.set_cons_succ]
              refine wpAnyH_takeL (i := 29) (v := ?v29) rfl (by kernel_rfl) (by kernel_rfl) (by kernel_rfl) (fun _ _ _ h => h) (Or.inl ⟨by rfl, ?hy29⟩) (by assumption) ?_
              case hy29 => (intro w hSw; (try dsimp only at hSw); go_simp; try with_reducible rfl)
              simp only [Act.put, List.setIfInBounds_toArray, List.set_cons_zero, List.set_cons_succ]
              refine wpAnyH_done (by kernel_rfl) ?_ _
              go_wp2_with fail
              go_meet
              exact ⟨false, rfl, rfl, K8, fun h => (by cases h), fun _ => .inr (.inl HQ.out.symm)⟩
            | true =>
              obtain ⟨b2, o2, yA, yc, eb, hrowy, hyc⟩ := (HR.out.2.2.2.2.1).at_ hy
              cases eb
              have HYR := Lib.hid (And.intro hy (And.intro hrowy hyd)); clear hrowy hy hyd
              have hS2 : ∀ wx, Below wo.heap.size wo wx → (wx.cell? ⟨w.heap.size, 2, none⟩ = some (.slice (some ⟨b, o, none⟩) acts.length c) ∧ wx.cell? ⟨b, o + i * 10, none⟩ = some (.int .i64 a.kind) ∧ wx.cell? ⟨b, o + i * 10 + 1, none⟩ = some (.int .i64 a.client) ∧ wx.cell? ⟨b, o + i * 10 + 2, none⟩ = some (.int .i64 a.call.op) ∧ wx.cell? ⟨b, o + i * 10 + 3, none⟩ = some (.int .u64 a.call.key) ∧ wx.cell? ⟨b, o + i * 10 + 4, none⟩ = some (.int .u64 a.call.hi) ∧ wx.cell? ⟨b, o + i * 10 + 5, none⟩ = some (.int .i64 a.call.lim) ∧ wx.cell? ⟨b, o + i * 10 + 6, none⟩ = some (.string (mk a.call.val)) ∧ wx.cell? ⟨b, o + i * 10 + 7, none⟩ = some (.int .u64 a.at_) ∧ wx.cell? ⟨b, o + i * 10 + 8, none⟩ = some (.int .i64 a.n) ∧ wx.cell? ⟨b, o + i * 10 + 9, none⟩ = some (.slice kA a.keep.length kc) ∧ wx.cell? ⟨b, o + (i + k) * 10, none⟩ = some (.int .i64 y.kind) ∧ wx.cell? ⟨b, o + (i + k) * 10 + 1, none⟩ = some (.int .i64 y.client) ∧ wx.cell? ⟨b, o + (i + k) * 10 + 2, none⟩ = some (.int .i64 y.call.op) ∧ wx.cell? ⟨b, o + (i + k) * 10 + 3, none⟩ = some (.int .u64 y.call.key) ∧ wx.cell? ⟨b, o + (i + k) * 10 + 4, none⟩ = some (.int .u64 y.call.hi) ∧ wx.cell? ⟨b, o + (i + k) * 10 + 5, none⟩ = some (.int .i64 y.call.lim) ∧ wx.cell? ⟨b, o + (i + k) * 10 + 6, none⟩ = some (.string (mk y.call.val)) ∧ wx.cell? ⟨b, o + (i + k) * 10 + 7, none⟩ = some (.int .u64 y.at_) ∧ wx.cell? ⟨b, o + (i + k) * 10 + 8, none⟩ = some (.int .i64 y.n) ∧ wx.cell? ⟨b, o + (i + k) * 10 + 9, none⟩ = some (.slice yA y.keep.length yc) ∧ Below wo.heap.size wo wx) := fun wx hk => by
                obtain ⟨h0, h1, h2, h3, h4, h5, h6, h7, h8, h9, h10, hk'⟩ := HS1.out wx hk
                obtain ⟨g0, g1, g2, g3, g4, g5, g6, g7, g8, g9⟩ := hyc
                have hc : ∀ {bb oo : Nat} {u : Value}, wo.cell? ⟨bb, oo, none⟩ = some u → wx.cell? ⟨bb, oo, none⟩ = some u := fun {bb oo u} h => by rw [hk.cell (p := ⟨bb, oo, none⟩) (lt_of_cell h)]; exact h
                exact ⟨h0, h1, h2, h3, h4, h5, h6, h7, h8, h9, h10, hc g0, hc g1, hc g2, hc g3, hc g4, hc g5, hc g6, hc g7, hc g8, hc g9, hk⟩
              have HS2 := Lib.hid hS2; clear hS2 hyc
              obtain ⟨s, hs⟩ : ∃ s, s = decide (a = y) := ⟨_, rfl⟩
              have HSM := Lib.hid hs
              clear hs
              have HLK := Lib.hid (show a.keep.length ≤ 1000000000 from by have := (HK.out.2.1 a (List.mem_of_getElem? HA.out.1)).2; omega)
              go_region_held3 (fun wx => wx.cell? ⟨w.heap.size, 2, none⟩ = some (.slice (some ⟨b, o, none⟩) acts.length c) ∧ wx.cell? ⟨b, o + i * 10, none⟩ = some (.int .i64 a.kind) ∧ wx.cell? ⟨b, o + i * 10 + 1, none⟩ = some (.int .i64 a.client) ∧ wx.cell? ⟨b, o + i * 10 + 2, none⟩ = some (.int .i64 a.call.op) ∧ wx.cell? ⟨b, o + i * 10 + 3, none⟩ = some (.int .u64 a.call.key) ∧ wx.cell? ⟨b, o + i * 10 + 4, none⟩ = some (.int .u64 a.call.hi) ∧ wx.cell? ⟨b, o + i * 10 + 5, none⟩ = some (.int .i64 a.call.lim) ∧ wx.cell? ⟨b, o + i * 10 + 6, none⟩ = some (.string (mk a.call.val)) ∧ wx.cell? ⟨b, o + i * 10 + 7, none⟩ = some (.int .u64 a.at_) ∧ wx.cell? ⟨b, o + i * 10 + 8, none⟩ = some (.int .i64 a.n) ∧ wx.cell? ⟨b, o + i * 10 + 9, none⟩ = some (.slice kA a.keep.length kc) ∧ wx.cell? ⟨b, o + (i + k) * 10, none⟩ = some (.int .i64 y.kind) ∧ wx.cell? ⟨b, o + (i + k) * 10 + 1, none⟩ = some (.int .i64 y.client) ∧ wx.cell? ⟨b, o + (i + k) * 10 + 2, none⟩ = some (.int .i64 y.call.op) ∧ wx.cell? ⟨b, o + (i + k) * 10 + 3, none⟩ = some (.int .u64 y.call.key) ∧ wx.cell? ⟨b, o + (i + k) * 10 + 4, none⟩ = some (.int .u64 y.call.hi) ∧ wx.cell? ⟨b, o + (i + k) * 10 + 5, none⟩ = some (.int .i64 y.call.lim) ∧ wx.cell? ⟨b, o + (i + k) * 10 + 6, none⟩ = some (.string (mk y.call.val)) ∧ wx.cell? ⟨b, o + (i + k) * 10 + 7, none⟩ = some (.int .u64 y.at_) ∧ wx.cell? ⟨b, o + (i + k) * 10 + 8, none⟩ = some (.int .i64 y.n) ∧ wx.cell? ⟨b, o + (i + k) * 10 + 9, none⟩ = some (.slice yA y.keep.length yc) ∧ Below wo.heap.size wo wx)
                (first | exact HS2.out _ (by assumption))
                (first
                  | (go_at_call 17; refine (rAgain_any a kA a.keep.length kc).mono ?_; rintro e w8 ⟨he, hb8⟩; rw [← HQ.out] at he; obtain rfl := he; have K8 : Below wo.heap.size wo w8 := Below.trans hk0 (hb8.mono hk0.size))
                  | (go_at_call 11; refine (rSame_any a y _ _ (HA.out.2.1.next K8) (HYR.out.2.1.next K8) HLK.out).mono ?_; rintro e w9 ⟨he, hb9⟩; rw [← HSM.out] at he; obtain rfl := he; have K9 : Below wo.heap.size wo w9 := Below.trans K8 (hb9.mono K8.size)))
              go_wp2_with fail
              go_meet
              refine ⟨s, rfl, rfl, K9, fun h => ⟨hkl, HQ.out.symm, ?_⟩, fun h => .inr (.inr ⟨y, HYR.out.2.2, ?_⟩)⟩
              · rw [HYR.out.2.2]; have := HSM.out; rw [h] at this; rw [of_decide_eq_true this.symm]
              · have := HSM.out; rw [h] at this; exact of_decide_eq_false this.symm
          · have hkl2 : i + k = acts.length := by have := HL.out.2.1; omega
            have e1 : decide ((i : Int) + (k : Int) < (acts.length : Int)) = false := by simp; omega
            go_quiet (fail)
            go_wp2_with fail
            go_meet
            exact ⟨false, rfl, rfl, Below.drewK hbi _, fun h => (by cases h), fun _ => .inl hkl2⟩
        case rest =>
          obtain ⟨q, rfl, rfl, hcB, hct, hcf⟩ := hcut
          have HC := Lib.hid (And.intro hcB (And.intro hct hcf)); clear hcB hct hcf
          cases q with
          | true =>
            obtain ⟨g1, g2, g3⟩ := HC.out.2.1 rfl
            have HG := Lib.hid (And.intro g1 (And.intro g2 g3)); clear g1 g2 g3
            have hw5 : IntKind.i64.wrap ((k : Int) + 1) = (k : Int) + 1 := IntWalk.i64_in _ (by have := HK.out.2.2.1; have := HL.out.2.1; omega)
            clear hw1
            go_wp2_with fail
            go_roundw
            case rel =>
              refine ⟨k + 1, by first | rfl | go_num, by omega, by have := HG.out.1; omega, fun j hj => ?_, fun _ => HG.out.2.1, HC.out.1⟩
              by_cases hj2 : j + 1 < k
              · exact HL.out.2.2.1 j hj2
              · obtain rfl : j = k - 1 := by omega
                exact HG.out.2.2
            case measure =>
              have := HG.out.1
              simp [RowKit.intOf]; omega
          | false =>
            have hrun : runLen a (acts.drop (i + 1)) = k - 1 := by
              have hk1' := HL.out.1
              have hkm' := HL.out.2.1
              have hl' : (acts.drop (i + 1)).length = acts.length - (i + 1) := List.length_drop ..
              refine runLen_stop (fun j hj => HL.out.2.2.1 j (by omega)) (by omega) (fun h => HL.out.2.2.2.1 (by omega)) ?_
              rcases HC.out.2.2 rfl with h1 | h1 | h1
              · exact .inl (by omega)
              · exact .inr (.inl h1)
              · exact .inr (.inr h1)
            have HRUN := Lib.hid hrun; clear hrun
            obtain ⟨d2, x0, x1, x2, x3, x4, x5, x6, x7, x8, x9, _⟩ := HS1.out wc HC.out.1
            have hk1' := HL.out.1
            have hkm' := HL.out.2.1
            have hN' := HK.out.2.2.1
            obtain ⟨ll, hll⟩ : ∃ ll, ll = lineL a (k : Int) := ⟨_, rfl⟩
            have hln : ll.length ≤ 30000 := by rw [hll]; exact HK.out.2.2.2.1 a (List.mem_of_getElem? HA.out.1) (k : Int) ⟨by omega, by omega⟩
            have htl := HR.out.2.1
            have hc5 : ¬ 9223372036854775807 < tx.length + ll.length := by omega
            have hc6 : ¬ 9223372036854775807 < tx.length + ll.length + 1 := by omega
            have HLN := Lib.hid (And.intro hk1' (And.intro hkm' (And.intro hln htl))); clear hk1' hkm' hN' hln htl
            have HMT := Lib.hid (HK.out.1 a (List.mem_of_getElem? HA.out.1))
            have HF := Lib.hid (HK.out.2.1 a (List.mem_of_getElem? HA.out.1))
            go_wp2_with fail
            refine (rLine_any a (.slice kA a.keep.length kc) (k : Int) (HA.out.2.1.next HC.out.1) HMT.out.1 HMT.out.2 (by have := HF.out.1; omega) (by have := HF.out.2; omega) ⟨by omega, by have := HLN.out.2.1; have := HK.out.2.2.1; omega⟩).mono ?_
            rintro e w9 ⟨rfl, hb9⟩
            rw [← hll]
            have HLL2 := Lib.hid hll; clear hll
            have K9 : Below wo.heap.size wo w9 := HC.out.1.trans (hb9.mono HC.out.1.size)
            clear hb9 d2 x0 x1 x2 x3 x4 x5 x6 x7 x8 x9
            go_wp2_with fail
            go_roundw
            case rel =>
              refine ⟨i + k, tx ++ ll ++ [10], ?_, by go_num, HLN.out.2.1, ?_, ?_, HR.out.2.2.2.call K9⟩
              · rw [show ({ data := #[10] } : ByteArray) = mk [10] from rfl, mk_append, mk_append]
              · have h1 := HLN.out.1; have h2 := HLN.out.2.2.1; have h3 := HLN.out.2.2.2
                simp only [List.length_append, List.length_singleton]
                have : (i + k) * 30001 = i * 30001 + k * 30001 := Nat.add_mul ..
                omega
              · have h := HR.out.2.2.1
                have hk1' := HLN.out.1
                rw [HA.out.2.2.2, rowsL_cons, HRUN.out, List.drop_drop, show k - 1 + 1 = k by omega, show i + 1 + (k - 1) = i + k by omega] at h
                rw [← h]; simp [bodyL, HLL2.out]
            case measure =>
              have h1 := HLN.out.1; have h2 := HLN.out.2.1
              simp [RowKit.intOf]; omega
    · obtain rfl : i = acts.length := by have := HR.out.1; omega
      clear hinv
      go_wp2_with fail
      go_ret
      refine ⟨?_, HR.out.2.2.2.2.2⟩
      have h := HR.out.2.2.1
      rw [List.drop_length, rowsL_nil] at h
      rw [← h]; simp [bodyL]
end Go.Proofs.YtbpbkmhipbchbaaGreatDoor.sc
