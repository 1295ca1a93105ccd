/-
  PROVED HERE: the contract of script's first: the two numbers of a script's first line, or ErrBytes. Conditions: a short line; the library's tables lie (Env).
-/
import Derived.Test.YtnnahodajiolmaaGreatDoorScMays
namespace Go.Proofs.YtnnahodajiolmaaGreatDoor.sc
open Go.RowKit
set_option linter.unusedVariables false

/-- An operation that defers nothing and keeps the slots ks. -/
def safeOp (P : Program) (ks : List Tmp) (o : Oper) : Bool :=
  (match o.dst with
    | some d => !(ks.contains d)
    | none => true) &&
  match o.op with
  | .move _ => true
  | .assign _ => true
  | .load _ _ => true
  | .indexAddr _ _ _ => true
  | .call { callee := .value (.func f), .. } => ((P.funcs[f]?).bind (fun fn => fn.body)).isSome
  | _ => false
theorem run_valued {P : Program} {w : World} (s : Sem Value) (d : Deferred) (w' : World) : (do pure (Next.value (← s)) : Sem Next).run P w ≠ .ok (.defer d) w' := by
  intro h
  rw [Sem.run_bind] at h
  cases hs : s.run P w with
  | ok v w1 => rw [hs] at h; simp [go_sem] at h
  | halt e w1 => rw [hs] at h; simp at h
theorem safe_defer {P : Program} {ks : List Tmp} {o : Oper} (h : safeOp P ks o = true) (a : Act) (w : World) (d : Deferred) (w' : World) : (execOp a.eval o).run P w ≠ .ok (.defer d) w' := by
  unfold safeOp at h
  rw [Bool.and_eq_true] at h
  obtain ⟨-, h⟩ := h
  unfold execOp
  split at h
  · next x hx => rw [hx]; simp [go_sem]
  · next x hx => rw [hx]; simp [go_sem]
  · next x y hx => rw [hx]; exact run_valued _ _ _
  · next x y z hx => rw [hx]; exact run_valued _ _ _
  · next f vs ats hx =>
    rw [hx]
    cases hf : P.funcs[f]? with
    | none => rw [hf] at h; cases h
    | some fn =>
      rw [hf] at h
      have hb : fn.body ≠ none := by
        intro hb
        simp [hb] at h
      intro hr
      simp [resolve, Deferred.ofValue, invoke, callFunc, go_sem, hf, hb] at hr
      split at hr
      · cases hr
      · cases hr
  · cases h

/-- Q, but what is asked at a panic is R, which looks at no frame. -/
def quietQ (Q : Exit → Act → World → Prop) (R : List PanicEntry → World → Prop) : Exit → Act → World → Prop
  | .panic c, _, w => R c w
  | e, a, w => Q e a w
/-- What the frame a0 keeps. -/
def keptA (ks : List Tmp) (a0 a : Act) : Prop := a.defers = a0.defers ∧ ∀ k ∈ ks, a.tmps[k]? = a0.tmps[k]?
theorem keptA.put {ks : List Tmp} {a0 a : Act} (h : keptA ks a0 a) {P : Program} {o : Oper} (hs : safeOp P ks o = true) (v : Value) : keptA ks a0 (a.put o.dst v) := by
  unfold safeOp at hs
  rw [Bool.and_eq_true] at hs
  obtain ⟨hs, -⟩ := hs
  cases hd : o.dst with
  | none => exact h
  | some d =>
    rw [hd] at hs
    refine ⟨h.1, fun k hk => ?_⟩
    have hne : d ≠ k := by
      rintro rfl
      simp [hk] at hs
    show (a.tmps.setIfInBounds d v)[k]? = _
    rw [Array.getElem?_setIfInBounds_ne hne]
    exact h.2 k hk
theorem wpAny_panics {P : Program} {md : Region.Mode} {ops : Array Oper} {Q : Exit → Act → World → Prop} {R : List PanicEntry → World → Prop} {ks : List Tmp} {a0 : Act}
    (hs : ∀ (i : Nat) (o : Oper), ops[i]? = some o → safeOp P ks o = true) (hQ : ∀ a c w, keptA ks a0 a → R c w → Q (.panic c) a w) :
    ∀ (fuel : Nat) (listed : Array Bool) (a : Act) (w : World), keptA ks a0 a → wpAny P md ops (quietQ Q R) fuel listed a w → wpAny P md ops Q fuel listed a w
  | 0, _, _, _, _, h => h
  | fuel + 1, listed, a, w, ha, h => by
    refine ⟨h.1, fun i hi => ?_⟩
    have h2 := h.2 i hi
    have ih := wpAny_panics (md := md) hs hQ fuel (listed.setIfInBounds i true)
    unfold wpOp at h2 ⊢
    cases ho : ops[i]? with
    | none => rw [ho] at h2; exact ih a w ha h2
    | some o =>
      rw [ho] at h2
      have hso := hs i o ho
      dsimp only at h2 ⊢
      split at h2
      · next hw =>
        rw [if_pos hw]
        rcases h2 with h2 | ⟨hask, a1, w1, hq⟩
        · left
          unfold Oper.wp at h2 ⊢
          cases hr : (execOp a.eval o).run P w with
          | ok nx w1 =>
            rw [hr] at h2
            cases nx with
            | value v => exact ih _ _ (ha.put hso v) h2
            | skip => exact ih _ _ (ha.put hso undef) h2
            | defer d => exact absurd hr (safe_defer hso a w d w1)
            | enter f args =>
              refine Calls.mono h2 ?_
              intro e w'' he
              cases e with
              | returned v => exact ih _ _ (ha.put hso v) he
              | panicked ch => exact hQ a ch w'' ha he
              | outgrown => exact he
            | row rw_ args => exact Rows.mono h2 fun v w'' he => ih _ _ (ha.put hso v) he
            | _ => exact h2
          | halt e w1 =>
            rw [hr] at h2
            cases e with
            | panic v => exact hQ a _ w1 ha h2
            | _ => exact h2
        · exact .inr ⟨hask, a1, w1, hq⟩
      · next hw =>
        rw [if_neg hw]
        exact ih _ _ (ha.put hso undef) h2
/-- A region that draws its order, where what is asked at a panic hangs on the frame (a function that defers): the frame's deferred calls and the slots ks are as they stood. -/
theorem wp_region_panics {P : Program} {id : Nat} {ops : Array Oper} {Q : Exit → Act → World → Prop} {R : List PanicEntry → World → Prop} {a : Act} {w : World} (ks : List Tmp) (hm : P.follows .mixedOrders = true)
    (hs : ops.all (safeOp P ks) = true) (hQ : ∀ a' c w', keptA ks a a' → R c w' → Q (.panic c) a' w')
    (h : wpAny P .any ops (quietQ Q R) ops.size (Array.replicate ops.size false) a w.drew) : (Code.region id ops true).wp P Q a w :=
  wp_region_any hm (wpAny_panics (ks := ks) (a0 := a) (fun i o ho => by
    rw [Array.all_eq_true'] at hs
    exact hs o (Array.mem_of_getElem? ho)) hQ _ _ _ _ ⟨rfl, fun _ _ => rfl⟩ h)

/-- A script's first line, read. -/
def firstP (l : Bs) : Option (Int × Int) := match splitC 32 l with
  | [a, b, c] => if a = sLevee then (match whole b 1 64, whole c 1 64 with
    | some x, some y => some (x, y)
    | _, _ => none) else none
  | _ => none
def FirstPost (w : World) (l : Bs) (e : Ending) (w' : World) : Prop :=
  Below w.heap.size w w' ∧ match firstP l with
    | some (x, y) => e = .returned (.tuple #[.agg #[.int .i64 x, .int .i64 y, .slice none 0 0], .int .i64 0])
    | none => e = .returned (.tuple #[.agg #[.int .i64 0, .int .i64 0, .slice none 0 0], .int .i64 11])

theorem res_first {X : World} {b be : Nat} {x y e : Int} {tmps : Array Value} (hB : Blk X b 25 #[.int .i64 x, .int .i64 y, .slice none 0 0]) (he : Blk X be 26 #[.int .i64 e])
    (h2 : tmps[2]? = some (.pointer (some ⟨b, 0, none⟩))) (h3 : tmps[3]? = some (.pointer (some ⟨be, 0, none⟩))) :
    (results Tryz.f9 tmps).run Tryz.prog X = .ok (.tuple #[.agg #[.int .i64 x, .int .i64 y, .slice none 0 0], .int .i64 e]) X := by
  have e0 : X.cell? ⟨b, 0, none⟩ = some (.int .i64 x) := hB.cell 0
  have e1 : X.cell? ⟨b, 1, none⟩ = some (.int .i64 y) := hB.cell 1
  have e2 : X.cell? ⟨b, 2, none⟩ = some (.slice none 0 0) := hB.cell 2
  have g0 : X.cell? ⟨be, 0, none⟩ = some (.int .i64 e) := he.cell 0
  simp [results, Tryz.results9, go_sem, h2, h3, e0, e1, e2, g0]
theorem lenThree {l : List Bs} (h : l.length = 3) : ∃ x y z, l = [x, y, z] := by
  match l, h with
  | [x, y, z], _ => exact ⟨x, y, z, rfl⟩
theorem three_cells {w : World} {xb xo m c : Nat} {x y z : Bs} (h : StrsAt w (.slice (some ⟨xb, xo, none⟩) m c) [x, y, z]) :
    ∀ wx, Below w.heap.size w wx → (wx.cell? ⟨xb, xo, none⟩ = some (.string (mk x)) ∧ wx.cell? ⟨xb, xo + 1, none⟩ = some (.string (mk y)) ∧ wx.cell? ⟨xb, xo + 2, none⟩ = some (.string (mk z)) ∧ Below w.heap.size w wx) := fun wx hk => by
  have h' := h.next hk
  obtain ⟨b, o', e, _, c0⟩ := h'.cell (k := 0) (x := x) rfl
  cases e
  obtain ⟨b, o', e, _, c1⟩ := h'.cell (k := 1) (x := y) rfl
  cases e
  obtain ⟨b, o', e, _, c2⟩ := h'.cell (k := 2) (x := z) rfl
  cases e
  exact ⟨c0, c1, c2, hk⟩
theorem firstP_len {l : Bs} (h : (splitC 32 l).length ≠ 3) : firstP l = none := by
  unfold firstP
  split
  · next e => rw [e] at h; simp at h
  · rfl
theorem firstP_three {l a b c : Bs} (h : splitC 32 l = [a, b, c]) : firstP l = if a = sLevee then (match whole b 1 64, whole c 1 64 with
    | some x, some y => some (x, y)
    | _, _ => none) else none := by
  unfold firstP; rw [h]
/-- The two results' blocks, and all below as it was. -/
def FirstInv (w wx : World) (x y e : Int) : Prop := Blk wx w.heap.size 25 #[.int .i64 x, .int .i64 y, .slice none 0 0] ∧ Blk wx (w.heap.size + 1) 26 #[.int .i64 e] ∧ Below w.heap.size w wx
theorem FirstInv.call {w wx w' : World} {x y e : Int} (h : FirstInv w wx x y e) (hb : Below wx.heap.size wx w') : FirstInv w w' x y e :=
  ⟨h.1.below hb h.1.lt, h.2.1.below hb h.2.1.lt, h.2.2.trans (hb.mono h.2.2.size)⟩

/-- A panic by ErrBytes, met by the deferred function. -/
theorem first_left {w w2 : World} {s : Bs} {a a0 : Act} (hn : firstP s = none) (K : FirstInv w w2 0 0 0) (hd : a.defers = a0.defers) (h2 : a.tmps[2]? = a0.tmps[2]?) (h3 : a.tmps[3]? = a0.tmps[3]?)
    (hd0 : a0.defers = [{ target := .fn (.func 20) #[], args := #[.pointer (some ⟨w.heap.size + 1, 0, none⟩)] }] := by rfl) (h20 : a0.tmps[2]? = some (.pointer (some ⟨w.heap.size, 0, none⟩)) := by rfl) (h30 : a0.tmps[3]? = some (.pointer (some ⟨w.heap.size + 1, 0, none⟩)) := by rfl) :
    bodyPostD Tryz.prog Tryz.f9 (FirstPost w s) (.panic [{ v := .iface 26 (.int .i64 11), recovered := false }]) a w2 := by
  show Leaves Tryz.prog Tryz.f9 a.tmps (FirstPost w s) a.defers (.panicking _) w2
  rw [hd, hd0]
  refine leaves_cons (f := 20) (args := #[.pointer (some ⟨w.heap.size + 1, 0, none⟩)]) (by simp) (by simp [go_sem]) ?_
  refine (caught_panicking ⟨w.heap.size + 1, 0, none⟩ 0 11 [] w2 (K.2.1.cell 0) (K.2.1.frozen 0)).mono ?_
  rintro e u' w9 ⟨rfl, rfl, rfl⟩
  refine ⟨_, res_first (K.1.far (p := ⟨w.heap.size + 1, 0, none⟩) (show w.heap.size ≠ w.heap.size + 1 by omega) (.int .i64 11)) (K.2.1.set_ 0 (.int .i64 11)) (h2.trans h20) (h3.trans h30), K.2.2.setCell (p := ⟨w.heap.size + 1, 0, none⟩) (by simp) (.int .i64 11), ?_⟩
  rw [hn]

theorem first_set {w w7 : World} (h : FirstInv w w7 0 0 0) (x y : Int) : FirstInv w ((((w7.setCell ⟨w.heap.size, 0, none⟩ (.int .i64 x)).setCell ⟨w.heap.size, 1, none⟩ (.int .i64 y)).setCell ⟨w.heap.size, 2, none⟩ (.slice none 0 0)).setCell ⟨w.heap.size + 1, 0, none⟩ (.int .i64 0)) x y 0 := by
  have b1 : Blk (w7.setCell ⟨w.heap.size, 0, none⟩ (.int .i64 x)) w.heap.size 25 #[.int .i64 x, .int .i64 0, .slice none 0 0] := h.1.set_ 0 _
  have b2 : Blk ((w7.setCell ⟨w.heap.size, 0, none⟩ (.int .i64 x)).setCell ⟨w.heap.size, 1, none⟩ (.int .i64 y)) w.heap.size 25 #[.int .i64 x, .int .i64 y, .slice none 0 0] := b1.set_ 1 _
  have b3 : Blk (((w7.setCell ⟨w.heap.size, 0, none⟩ (.int .i64 x)).setCell ⟨w.heap.size, 1, none⟩ (.int .i64 y)).setCell ⟨w.heap.size, 2, none⟩ (.slice none 0 0)) w.heap.size 25 #[.int .i64 x, .int .i64 y, .slice none 0 0] := b2.set_ 2 _
  have e3 : Blk (((w7.setCell ⟨w.heap.size, 0, none⟩ (.int .i64 x)).setCell ⟨w.heap.size, 1, none⟩ (.int .i64 y)).setCell ⟨w.heap.size, 2, none⟩ (.slice none 0 0)) (w.heap.size + 1) 26 #[.int .i64 0] :=
    (((h.2.1.far (p := ⟨w.heap.size, 0, none⟩) (show w.heap.size + 1 ≠ w.heap.size by omega) _).far (p := ⟨w.heap.size, 1, none⟩) (show w.heap.size + 1 ≠ w.heap.size by omega) _).far (p := ⟨w.heap.size, 2, none⟩) (show w.heap.size + 1 ≠ w.heap.size by omega) _)
  exact ⟨b3.far (p := ⟨w.heap.size + 1, 0, none⟩) (show w.heap.size ≠ w.heap.size + 1 by omega) _, e3.set_ 0 _,
    ((((h.2.2.setCell (p := ⟨w.heap.size, 0, none⟩) (Nat.le_refl _) _).setCell (p := ⟨w.heap.size, 1, none⟩) (Nat.le_refl _) _).setCell (p := ⟨w.heap.size, 2, none⟩) (Nat.le_refl _) _).setCell (p := ⟨w.heap.size + 1, 0, none⟩) (by simp) _)⟩

set_option maxHeartbeats 4000000 in
set_option maxRecDepth 100000 in
theorem first_any {w : World} (s : Bs) (hs : s.length ≤ 900000) (E : Env w) : Calls Tryz.prog 9 #[.string (mk s)] w (FirstPost w s) := by
  obtain ⟨W, hW⟩ : ∃ W, W = (w.alloc (.cells #[.int .i64 0, .int .i64 0, .slice none 0 0] 25)).alloc (.cells #[.int .i64 0] 26) := ⟨_, rfl⟩
  have hI0 : FirstInv w W 0 0 0 := by
    rw [hW]
    refine ⟨(Blk.new w _ _).alloc _, ?_, ((Below.refl _ _).alloc (Nat.le_refl _) _).alloc (by simp) _⟩
    have h := Blk.new (w.alloc (.cells #[.int .i64 0, .int .i64 0, .slice none 0 0] 25)) 26 #[.int .i64 0]
    simpa using h
  have HI := Lib.hid (And.intro hI0 (E.next hI0.2.2))
  clear hI0
  go_enter_defers Tryz.func9, Tryz.ntmps9
  go_upto_region 1 with fail
  rw [← hW]
  clear hW
  go_wp2_with fail
  refine (split_any s (by omega) HI.out.2).mono ?_; rintro e w1 ⟨v, rfl, hv, hb1⟩
  have H1 := Lib.hid (And.intro hv (HI.out.1.call hb1)); clear hb1
  have HL := Lib.hid (fun x (hx : x ∈ splitC 32 s) => show x.length ≤ 1000000 by have := splitC_mem 32 s x hx; omega)
  obtain ⟨A, c, rfl⟩ := hv.len
  by_cases h3 : (splitC 32 s).length = 3
  · obtain ⟨x, y, z, hx⟩ := lenThree h3
    have HX := Lib.hid hx
    rw [h3] at H1 ⊢
    rw [hx] at H1 HL
    clear h3 hx hv
    obtain ⟨xb, xo, rfl, _, c0⟩ := H1.out.1.cell (k := 0) (x := x) rfl
    rw [show xo + 0 = xo by omega] at c0
    have HS := Lib.hid (three_cells H1.out.1)
    by_cases hlv : x = sLevee
    · subst hlv
      have ne : (sLevee == [108, 101, 118, 101, 101]) = true := by decide
      go_wp2_with fail
      refine (check_yes _ _).mono ?_; rintro e w3 ⟨rfl, rfl⟩
      go_upto_region 4 with fail
      clear c0 ne
      have hq0 : Below w1.heap.size w1 w1.drew := (Below.refl _ _).drew
      have HE1 := Lib.hid (E.next H1.out.2.2.2)
      cases hax : whole y 1 64 with
      | none =>
        have HA := Lib.hid hax; clear hax
        have HQ := Lib.hid (show firstP s = none by rw [firstP_three HX.out, if_pos rfl, HA.out])
        obtain ⟨c0, c1, c2, _⟩ := HS.out w1 (Below.refl _ _)
        refine wp_region_panics (R := fun ch w' => ch = [{ v := .iface 26 (.int .i64 11), recovered := false }] ∧ FirstInv w w' 0 0 0) [2, 3] (by kernel_rfl) (by kernel_rfl) ?_ ?_
        · rintro a' ch w' ⟨hd, ht⟩ ⟨rfl, K⟩
          exact first_left HQ.out K hd (ht 2 (by simp)) (ht 3 (by simp))
        refine wpAny_take (i := 0) (v := .slice (some ⟨xb, xo, none⟩) 3 c) rfl (by kernel_rfl) (by kernel_rfl) (by kernel_rfl) (fun _ _ _ h => h) (Or.inl ⟨by rfl, ?hy0⟩) ?_
        case hy0 => (intro w; go_simp)
        refine wpAny_take (i := 1) (v := .pointer (some ⟨xb, xo + 1, none⟩)) rfl (by kernel_rfl) (by kernel_rfl) (by kernel_rfl) (fun _ _ _ h => h) (Or.inl ⟨by rfl, ?hy1⟩) ?_
        case hy1 => (intro w; go_simp)
        refine wpAny_take (i := 4) (v := .slice (some ⟨xb, xo, none⟩) 3 c) rfl (by kernel_rfl) (by kernel_rfl) (by kernel_rfl) (fun _ _ _ h => h) (Or.inl ⟨by rfl, ?hy4⟩) ?_
        case hy4 => (intro w; go_simp)
        refine wpAny_take (i := 5) (v := .pointer (some ⟨xb, xo + 2, none⟩)) rfl (by kernel_rfl) (by kernel_rfl) (by kernel_rfl) (fun _ _ _ h => h) (Or.inl ⟨by rfl, ?hy5⟩) ?_
        case hy5 => (intro w; go_simp)
        refine wpAny_ready (rs := [2, 6]) (by kernel_rfl) (by simp) ?_
        refine AllReady.cons rfl (fun K hK => ?_) (AllReady.cons rfl (fun K hK => ?_) AllReady.nil)
        · go_simp
          refine hK _ _ ?_; clear hK K
          refine wpAny_ready (rs := [3, 6]) (by kernel_rfl) (by simp) ?_
          refine AllReady.cons rfl (fun K hK => ?_) (AllReady.cons rfl (fun K hK => ?_) AllReady.nil)
          · go_simp
            refine (whole_any y (HL.out y (by simp)) 1 64 (by decide) (by decide) (by decide) (by decide) (HE1.out.next hq0)).mono ?_
            rintro e w9 ⟨hb9, he⟩
            rw [show whole y 1 64 = none from HA.out] at he
            obtain rfl := he
            exact ⟨rfl, H1.out.2.call (Below.trans hq0 (hb9.mono (Below.size hq0)))⟩
          · go_simp
            refine hK _ _ ?_; clear hK K
            refine wpAny_ready (rs := [3]) (by kernel_rfl) (by simp) ?_
            refine AllReady.cons rfl (fun K hK => ?_) AllReady.nil
            go_simp
            refine (whole_any y (HL.out y (by simp)) 1 64 (by decide) (by decide) (by decide) (by decide) (HE1.out.next hq0)).mono ?_
            rintro e w9 ⟨hb9, he⟩
            rw [show whole y 1 64 = none from HA.out] at he
            obtain rfl := he
            exact ⟨rfl, H1.out.2.call (Below.trans hq0 (hb9.mono (Below.size hq0)))⟩
        · go_simp
          refine hK _ _ ?_; clear hK K
          refine wpAny_ready (rs := [2]) (by kernel_rfl) (by simp) ?_
          refine AllReady.cons rfl (fun K hK => ?_) AllReady.nil
          go_simp
          refine hK _ _ ?_; clear hK K
          refine wpAny_ready (rs := [3]) (by kernel_rfl) (by simp) ?_
          refine AllReady.cons rfl (fun K hK => ?_) AllReady.nil
          go_simp
          refine (whole_any y (HL.out y (by simp)) 1 64 (by decide) (by decide) (by decide) (by decide) (HE1.out.next hq0)).mono ?_
          rintro e w9 ⟨hb9, he⟩
          rw [show whole y 1 64 = none from HA.out] at he
          obtain rfl := he
          exact ⟨rfl, H1.out.2.call (Below.trans hq0 (hb9.mono (Below.size hq0)))⟩
      | some v1 =>
        have HA := Lib.hid hax; clear hax
        cases hay : whole z 1 64 with
        | none =>
          have HB := Lib.hid hay; clear hay
          have HQ := Lib.hid (show firstP s = none by rw [firstP_three HX.out, if_pos rfl, HA.out, HB.out])
          obtain ⟨c0, c1, c2, _⟩ := HS.out w1 (Below.refl _ _)
          refine wp_region_panics (R := fun ch w' => ch = [{ v := .iface 26 (.int .i64 11), recovered := false }] ∧ FirstInv w w' 0 0 0) [2, 3] (by kernel_rfl) (by kernel_rfl) ?_ ?_
          · rintro a' ch w' ⟨hd, ht⟩ ⟨rfl, K⟩
            exact first_left HQ.out K hd (ht 2 (by simp)) (ht 3 (by simp))
          refine wpAny_take (i := 0) (v := .slice (some ⟨xb, xo, none⟩) 3 c) rfl (by kernel_rfl) (by kernel_rfl) (by kernel_rfl) (fun _ _ _ h => h) (Or.inl ⟨by rfl, ?hy0⟩) ?_
          case hy0 => (intro w; go_simp)
          refine wpAny_take (i := 1) (v := .pointer (some ⟨xb, xo + 1, none⟩)) rfl (by kernel_rfl) (by kernel_rfl) (by kernel_rfl) (fun _ _ _ h => h) (Or.inl ⟨by rfl, ?hy1⟩) ?_
          case hy1 => (intro w; go_simp)
          refine wpAny_take (i := 4) (v := .slice (some ⟨xb, xo, none⟩) 3 c) rfl (by kernel_rfl) (by kernel_rfl) (by kernel_rfl) (fun _ _ _ h => h) (Or.inl ⟨by rfl, ?hy4⟩) ?_
          case hy4 => (intro w; go_simp)
          refine wpAny_take (i := 5) (v := .pointer (some ⟨xb, xo + 2, none⟩)) rfl (by kernel_rfl) (by kernel_rfl) (by kernel_rfl) (fun _ _ _ h => h) (Or.inl ⟨by rfl, ?hy5⟩) ?_
          case hy5 => (intro w; go_simp)
          refine wpAny_ready (rs := [2, 6]) (by kernel_rfl) (by simp) ?_
          refine AllReady.cons rfl (fun K hK => ?_) (AllReady.cons rfl (fun K hK => ?_) AllReady.nil)
          · go_simp
            refine hK _ _ ?_; clear hK K
            refine wpAny_ready (rs := [3, 6]) (by kernel_rfl) (by simp) ?_
            refine AllReady.cons rfl (fun K hK => ?_) (AllReady.cons rfl (fun K hK => ?_) AllReady.nil)
            · go_simp
              refine (whole_any y (HL.out y (by simp)) 1 64 (by decide) (by decide) (by decide) (by decide) (HE1.out.next hq0)).mono ?_
              rintro e w6 ⟨hb6, he⟩
              rw [show whole y 1 64 = some v1 from HA.out] at he
              obtain rfl := he
              have K6 : Below w1.heap.size w1 w6 := Below.trans hq0 (hb6.mono (Below.size hq0))
              obtain ⟨f0, f1, f2, _⟩ := HS.out w6 K6
              refine hK _ _ ?_; clear hK K
              refine wpAny_ready (rs := [6]) (by kernel_rfl) (by simp) ?_
              refine AllReady.cons rfl (fun K hK => ?_) AllReady.nil
              go_simp
              refine hK _ _ ?_; clear hK K
              refine wpAny_ready (rs := [7]) (by kernel_rfl) (by simp) ?_
              refine AllReady.cons rfl (fun K hK => ?_) AllReady.nil
              go_simp
              refine (whole_any z (HL.out z (by simp)) 1 64 (by decide) (by decide) (by decide) (by decide) (HE1.out.next K6)).mono ?_
              rintro e w9 ⟨hb9, he⟩
              rw [show whole z 1 64 = none from HB.out] at he
              obtain rfl := he
              exact ⟨rfl, H1.out.2.call (Below.trans K6 (hb9.mono (Below.size K6)))⟩
            · go_simp
              refine hK _ _ ?_; clear hK K
              refine wpAny_ready (rs := [3]) (by kernel_rfl) (by simp) ?_
              refine AllReady.cons rfl (fun K hK => ?_) AllReady.nil
              go_simp
              refine (whole_any y (HL.out y (by simp)) 1 64 (by decide) (by decide) (by decide) (by decide) (HE1.out.next hq0)).mono ?_
              rintro e w6 ⟨hb6, he⟩
              rw [show whole y 1 64 = some v1 from HA.out] at he
              obtain rfl := he
              have K6 : Below w1.heap.size w1 w6 := Below.trans hq0 (hb6.mono (Below.size hq0))
              obtain ⟨f0, f1, f2, _⟩ := HS.out w6 K6
              refine hK _ _ ?_; clear hK K
              refine wpAny_ready (rs := [7]) (by kernel_rfl) (by simp) ?_
              refine AllReady.cons rfl (fun K hK => ?_) AllReady.nil
              go_simp
              refine (whole_any z (HL.out z (by simp)) 1 64 (by decide) (by decide) (by decide) (by decide) (HE1.out.next K6)).mono ?_
              rintro e w9 ⟨hb9, he⟩
              rw [show whole z 1 64 = none from HB.out] at he
              obtain rfl := he
              exact ⟨rfl, H1.out.2.call (Below.trans K6 (hb9.mono (Below.size K6)))⟩
          · go_simp
            refine hK _ _ ?_; clear hK K
            refine wpAny_ready (rs := [2]) (by kernel_rfl) (by simp) ?_
            refine AllReady.cons rfl (fun K hK => ?_) AllReady.nil
            go_simp
            refine hK _ _ ?_; clear hK K
            refine wpAny_ready (rs := [3]) (by kernel_rfl) (by simp) ?_
            refine AllReady.cons rfl (fun K hK => ?_) AllReady.nil
            go_simp
            refine (whole_any y (HL.out y (by simp)) 1 64 (by decide) (by decide) (by decide) (by decide) (HE1.out.next hq0)).mono ?_
            rintro e w6 ⟨hb6, he⟩
            rw [show whole y 1 64 = some v1 from HA.out] at he
            obtain rfl := he
            have K6 : Below w1.heap.size w1 w6 := Below.trans hq0 (hb6.mono (Below.size hq0))
            obtain ⟨f0, f1, f2, _⟩ := HS.out w6 K6
            refine hK _ _ ?_; clear hK K
            refine wpAny_ready (rs := [7]) (by kernel_rfl) (by simp) ?_
            refine AllReady.cons rfl (fun K hK => ?_) AllReady.nil
            go_simp
            refine (whole_any z (HL.out z (by simp)) 1 64 (by decide) (by decide) (by decide) (by decide) (HE1.out.next K6)).mono ?_
            rintro e w9 ⟨hb9, he⟩
            rw [show whole z 1 64 = none from HB.out] at he
            obtain rfl := he
            exact ⟨rfl, H1.out.2.call (Below.trans K6 (hb9.mono (Below.size K6)))⟩
        | some v2 =>
          have HB := Lib.hid hay; clear hay
          have HQ := Lib.hid (show firstP s = some (v1, v2) by rw [firstP_three HX.out, if_pos rfl, HA.out, HB.out])
          first | (go_region_held3 (fun wx => wx.cell? ⟨xb, xo, none⟩ = some (.string (mk sLevee)) ∧ wx.cell? ⟨xb, xo + 1, none⟩ = some (.string (mk y)) ∧ wx.cell? ⟨xb, xo + 2, none⟩ = some (.string (mk z)) ∧ Below w1.heap.size w1 wx)
                     (first | (with_reducible exact HS.out _ (by assumption)))
                     (first
                       | (go_at_call 23
                          with_reducible refine (whole_any y (HL.out y (by simp)) 1 64 (by decide) (by decide) (by decide) (by decide) (HE1.out.next hq0)).mono ?_
                          rintro e w6 ⟨hb6, he⟩
                          rw [show whole y 1 64 = some v1 from HA.out] at he
                          obtain rfl := he
                          have K6 : Below w1.heap.size w1 w6 := hq0.trans (hb6.mono hq0.size))
                       | (go_at_call 23
                          with_reducible refine (whole_any z (HL.out z (by simp)) 1 64 (by decide) (by decide) (by decide) (by decide) (HE1.out.next K6)).mono ?_
                          rintro e w7 ⟨hb7, he⟩
                          rw [show whole z 1 64 = some v2 from HB.out] at he
                          obtain rfl := he
                          have K7 : Below w1.heap.size w1 w7 := K6.trans (hb7.mono K6.size))))
                | fail
          have h7 := H1.out.2.call K7
          clear K6 K7 hb6 hb7
          have H7 := Lib.hid h7
          have q0 : w7.cell? ⟨w.heap.size, 0, none⟩ = some (.int .i64 0) := h7.1.cell 0
          have q1 : w7.cell? ⟨w.heap.size, 1, none⟩ = some (.int .i64 0) := h7.1.cell 1
          have q2 : w7.cell? ⟨w.heap.size, 2, none⟩ = some (.slice none 0 0) := h7.1.cell 2
          have z0 := h7.1.frozen 0
          have z1 := h7.1.frozen 1
          have z2 := h7.1.frozen 2
          have n0 : w7.cell? ⟨w.heap.size + 1, 0, none⟩ = some (.int .i64 0) := h7.2.1.cell 0
          have nz := h7.2.1.frozen 0
          clear h7
          go_wp2_with fail
          obtain ⟨w9, hw9⟩ : ∃ w9, w9 = (((w7.setCell ⟨w.heap.size, 0, none⟩ (.int .i64 v1)).setCell ⟨w.heap.size, 1, none⟩ (.int .i64 v2)).setCell ⟨w.heap.size, 2, none⟩ (.slice none 0 0)).setCell ⟨w.heap.size + 1, 0, none⟩ (.int .i64 0) := ⟨_, rfl⟩
          have H9 : FirstInv w w9 v1 v2 0 := by rw [hw9]; exact first_set H7.out v1 v2
          rw [← hw9]
          clear hw9
          refine leaves_cons (f := 20) (args := #[.pointer (some ⟨w.heap.size + 1, 0, none⟩)]) (by simp) (by simp [go_sem]) ?_
          refine (caught_idle ⟨w.heap.size + 1, 0, none⟩ w9).mono ?_
          rintro e u' w6 ⟨rfl, rfl, rfl⟩
          refine ⟨_, res_first H9.1 H9.2.1 rfl rfl, H9.2.2, ?_⟩
          rw [HQ.out]
    · have HQ := Lib.hid (show firstP s = none by rw [firstP_three HX.out, if_neg hlv])
      have ne : (x == [108, 101, 118, 101, 101]) = false := by simpa [sLevee] using hlv
      clear hlv
      go_wp2_with fail
      refine (check_no _ _).mono ?_; rintro e w3 ⟨rfl, rfl⟩
      refine leaves_cons (f := 20) (args := #[.pointer (some ⟨w.heap.size + 1, 0, none⟩)]) (by simp) (by simp [go_sem]) ?_
      refine (caught_panicking ⟨w.heap.size + 1, 0, none⟩ 0 11 [] w1 (H1.out.2.2.1.cell 0) (H1.out.2.2.1.frozen 0)).mono ?_
      rintro e u' w9 ⟨rfl, rfl, rfl⟩
      refine ⟨_, res_first (H1.out.2.1.far (p := ⟨w.heap.size + 1, 0, none⟩) (show w.heap.size ≠ w.heap.size + 1 by omega) (.int .i64 11)) (H1.out.2.2.1.set_ 0 (.int .i64 11)) rfl rfl, H1.out.2.2.2.setCell (p := ⟨w.heap.size + 1, 0, none⟩) (by simp) (.int .i64 11), ?_⟩
      rw [HQ.out]
  · have HQ := Lib.hid (firstP_len h3)
    have ne : (((splitC 32 s).length : Int) == 3) = false := by simp; omega
    clear h3
    go_wp2_with fail
    refine (check_no _ _).mono ?_; rintro e w3 ⟨rfl, rfl⟩
    refine leaves_cons (f := 20) (args := #[.pointer (some ⟨w.heap.size + 1, 0, none⟩)]) (by simp) (by simp [go_sem]) ?_
    refine (caught_panicking ⟨w.heap.size + 1, 0, none⟩ 0 11 [] w1 (H1.out.2.2.1.cell 0) (H1.out.2.2.1.frozen 0)).mono ?_
    rintro e u' w9 ⟨rfl, rfl, rfl⟩
    refine ⟨_, res_first (H1.out.2.1.far (p := ⟨w.heap.size + 1, 0, none⟩) (show w.heap.size ≠ w.heap.size + 1 by omega) (.int .i64 11)) (H1.out.2.2.1.set_ 0 (.int .i64 11)) rfl rfl, H1.out.2.2.2.setCell (p := ⟨w.heap.size + 1, 0, none⟩) (by simp) (.int .i64 11), ?_⟩
    rw [HQ.out]
end Go.Proofs.YtnnahodajiolmaaGreatDoor.sc
