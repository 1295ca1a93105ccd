/-
  PROVED HERE: a law for a range over a function whose iterator hands on new blocks, each of which the round may turn, and keeps its own state in a block of its own that it makes. Conditions: named in the law.
-/
import Derived.RangeFuncNested
import Derived.RangeFuncBound
import Derived.RangeFuncCalls
import Derived.RangeFuncLeaves
import Derived.RangeFuncWrites
import Derived.Shelf.Abstract
import Derived.Shelf.RegionOpen
import Derived.WalkKit
import Derived.OwnWalkIn
import Derived.TacticsInMore
import Derived.LoopNIn
import Derived.LoopIn
namespace Go.Proofs.YtdbbbaallalhoaaGreat.rn
open Go Go.RowKit
set_option linter.unusedVariables false

/-- What a round that goes on keeps: cells from B on, but those of one block. -/
def KpX (B : Nat) (xb : Nat) (W W' : World) : Prop := W.heap.size ≤ W'.heap.size ∧ ∀ k o, B ≤ k → k ≠ xb → W.heap[k]? = some o → o.isCells = true → W'.heap[k]? = some o
theorem KpX.refl (B xb : Nat) (W : World) : KpX B xb W W := ⟨Nat.le_refl _, fun _ _ _ _ h _ => h⟩
theorem KpX.trans {B xb : Nat} {X Y Z : World} (h : KpX B xb X Y) (k : KpX B xb Y Z) : KpX B xb X Z := ⟨Nat.le_trans h.1 k.1, fun i o hB hi ho hc => k.2 i o hB hi (h.2 i o hB hi ho hc) hc⟩
theorem KpX.mono {B B' xb : Nat} {X Y : World} (h : KpX B xb X Y) (hB : B ≤ B') : KpX B' xb X Y := ⟨h.1, fun i o hi => h.2 i o (Nat.le_trans hB hi)⟩
theorem KpX.putObj {B xb l : Nat} {W : World} {o o' : Obj} (hl : W.heap[l]? = some o) (ho : o.isCells = false) : KpX B xb W (W.putObj l o') := by
  refine ⟨by simp [World.putObj], fun k q hB hk hq hc => ?_⟩
  have hne : k ≠ l := fun e => by subst e; rw [hl] at hq; cases hq; rw [ho] at hc; cases hc
  rw [World.putObj_heap_other hne]; exact hq

/-- Whatever is no cells, no map and no iterator, and lies at or beyond B, lies as it lay. -/
def KeepsRec (B : Nat) (W W' : World) : Prop := W.heap.size ≤ W'.heap.size ∧ ∀ (k : Nat) (o : Obj), B ≤ k → W.heap[k]? = some o → o.isCells = false → o.isWalk = false → W'.heap[k]? = some o
theorem KeepsRec.refl (B : Nat) (W : World) : KeepsRec B W W := ⟨Nat.le_refl _, fun _ _ _ h _ _ => h⟩
theorem KeepsRec.trans {B : Nat} {X Y Z : World} (h : KeepsRec B X Y) (k : KeepsRec B Y Z) : KeepsRec B X Z := ⟨Nat.le_trans h.1 k.1, fun i o hB hi hc hw => k.2 i o hB (h.2 i o hB hi hc hw) hc hw⟩
theorem KeepsRec.same {B : Nat} {W W' : World} (h : KeepsRec B W W') (k : Nat) (o : Obj) (hB : B ≤ k) (hk : W.heap[k]? = some o) (hc : o.isCells = false) (hw : o.isWalk = false) : W'.heap[k]? = some o := h.2 k o hB hk hc hw
theorem _root_.Go.KeepsFrom.toRec {B : Nat} {W W' : World} (h : KeepsFrom B W W') : KeepsRec B W W' := ⟨h.size, fun k o hB hk hc _ => h.same k o hB hk hc⟩
theorem _root_.Go.KeepsOthers.toRec {W W' : World} (h : KeepsOthers W W') (B : Nat) : KeepsRec B W W' := (h.from B).toRec
/-- The iterator's own block, if it has one, is a new one; it is there. -/
def NbOk (B : Nat) (nb : Option Nat) : Prop := ∀ k, nb = some k → B ≤ k
def NbLt (W : World) (nb : Option Nat) : Prop := ∀ k, nb = some k → k < W.heap.size
theorem NbOk.mono {B C : Nat} {nb : Option Nat} (h : NbOk B nb) (hC : C ≤ B) : NbOk C nb := fun k e => Nat.le_trans hC (h k e)
/-- What an iterator asks of what it hands on: it abides new blocks, and turns of the iterator's own block nb. -/
def AbdN {β : Type} (B : Nat) (J : Option Nat → β → World → Prop) : Prop := ∀ nb s W W' row, NbOk B nb → J nb s W → W.grownBy W' row → (∀ r, row = some r → nb = some r ∧ ∃ o : Obj, W.heap[r]? = some o ∧ o.isCells = true) → J nb s W'
/-- What the caller's word must abide: these, and turns of what is no cells from B on. -/
def AbdX {β : Type} (B : Nat) (J : Option Nat → β → World → Prop) : Prop := ∀ nb s W W' row, NbOk (B + 2) nb → J nb s W → W.grownBy W' row →
  (∀ r, row = some r → (nb = some r ∧ ∃ o : Obj, W.heap[r]? = some o ∧ o.isCells = true) ∨ (B ≤ r ∧ ∃ o : Obj, W.heap[r]? = some o ∧ o.isCells = false ∧ o.isWalk = false)) → J nb s W'
theorem AbdX.putObj {β : Type} {B l : Nat} {nb : Option Nat} {J : Option Nat → β → World → Prop} {s : β} {W : World} {o : Obj} (h : AbdX B J) (o' : Obj) (hn : NbOk (B + 2) nb) (hs : J nb s W) (hB : B ≤ l) (hl : W.heap[l]? = some o) (ho : o.isCells = false) (hw : o.isWalk = false) : J nb s (W.putObj l o') :=
  h nb s W _ (some l) hn hs (grownBy_putObj' W l o') fun r e => by cases e; exact .inr ⟨hB, o, hl, ho, hw⟩
theorem AbdX.alloc {β : Type} {B : Nat} {nb : Option Nat} {J : Option Nat → β → World → Prop} {s : β} {W : World} (h : AbdX B J) (o : Obj) (hn : NbOk (B + 2) nb) (hs : J nb s W) : J nb s (W.alloc o) := h nb s W _ none hn hs (World.grownBy_alloc W o none) fun r e => by cases e
theorem AbdX.abdN {β : Type} {B C : Nat} {J : Option Nat → β → World → Prop} (h : AbdX B J) (hC : B + 2 ≤ C) : AbdN C J := fun nb s W W' row hn hs hg hr => h nb s W W' row (hn.mono hC) hs hg fun r e => .inl (hr r e)

/-- THE ITERATOR's CONTRACT. -/
def SeqN {α : Type} (F : Fence) (n : Nat) (P : Program) (g : Nat) (lb : Array Value) (encs : α → Array Value) (Kp : Nat → α → World → World → Prop) (Px : Nat → Option Nat → List α → α → World → Prop) (S Sp : List α → Prop) (N : Nat) (w : World) : Prop :=
  ∀ (l : Nat) (J Jx : Option Nat → List α → World → Prop) (W : World), Below w.heap.size w W → AbdN W.heap.size J → AbdN W.heap.size Jx →
    (∀ nb pre x W1, NbOk W.heap.size nb → NbLt W1 nb → J nb pre W1 → Px W.heap.size nb pre x W1 → pre.length < N → YieldAt F (n - 1) P l (encs x) W1 fun e W' =>
      (e = .returned (.bool true) ∧ J nb (pre ++ [x]) W' ∧ Kp W.heap.size x W1 W') ∨ (e = .returned (.bool false) ∧ Jx nb (pre ++ [x]) W')) →
    (∀ nb, NbOk W.heap.size nb → J nb [] W) →
    CallsIn F n P g (#[.func (.yield l) #[] #[]] ++ lb) W fun e W' => (∃ v, e = .returned v) ∧ ∃ nb, NbOk W.heap.size nb ∧ ((∃ xs, S xs ∧ J nb xs W') ∨ (∃ pre, Sp pre ∧ Jx nb pre W'))

/-- How the body of a round may be left. -/
def postN (B : Nat) (Kp : World → World → Prop) (I : World → Prop) (Ix : Code → World → Prop) (W : World) : Exit → Act → World → Prop
  | .normal, _, W' => KeepsRec B W W' ∧ Kp W W' ∧ I W'
  | .ret, _, W' => KeepsRec B W W' ∧ Ix .ret W'
  | .exit id, _, W' => KeepsRec B W W' ∧ Ix (.exit id) W'
  | _, _, _ => False

theorem wpIn_range_n {F : Fence} {n : Nat} {P : Program} {α : Type} {g : Operand} {ps : Array Tmp} {assign body : Code} {Q : Exit → Act → World → Prop} {a : Act} {w : World}
    (hro : F.round = none) (h1 : 1 ≤ n) {gf : Nat} {lb : Array Value} (hg : a.eval g = .func (.func gf) #[] lb) (hFg : F.fn gf) (eg : ∀ args w, (callFunc gf args).run P w = .ok (.enter gf args) w)
    {encs : α → Array Value} {Kp : Nat → α → World → World → Prop} {Px : Nat → Option Nat → List α → α → World → Prop} {S Sp : List α → Prop} {N : Nat} (hseq : SeqN F (n - 1) P gf lb encs Kp Px S Sp N w)
    (hKt : ∀ (x : α) {X Y Z : World}, Kp (w.heap.size + 2) x X Y → Kp (w.heap.size + 2) x Y Z → Kp (w.heap.size + 2) x X Z)
    (hKb : ∀ (x : α) (W : World) (l : Nat) (o o' : Obj), w.heap.size ≤ l → W.heap[l]? = some o → o.isCells = false → o.isWalk = false → Kp (w.heap.size + 2) x W (W.putObj l o'))
    (hps : ∀ x, (encs x).size = ps.size)
    (I : Option Nat → List α → World → Prop) (Ix : Code → Option Nat → List α → World → Prop) (hI : AbdX w.heap.size I) (hIx : ∀ c, AbdX w.heap.size (Ix c)) (h0 : ∀ nb, NbOk (w.heap.size + 2) nb → I nb [] w)
    (Ax : Option Nat → List α → α → Act → World → Prop)
    (hAx : ∀ nb pre x a' W l o o', Ax nb pre x a' W → w.heap.size ≤ l → W.heap[l]? = some o → o.isCells = false → o.isWalk = false → Ax nb pre x a' (W.putObj l o'))
    (hassign : ∀ (l : Nat) (nb : Option Nat) (pre : List α) (x : α) (W : World) (K : Act → World → Prop), NbOk (w.heap.size + 2) nb → NbLt W nb → I nb pre W → Px (w.heap.size + 2) nb pre x W → pre.length < N →
      (∀ a' W', KeepsRec w.heap.size W W' → Kp (w.heap.size + 2) x W W' → Ax nb pre x a' W' → K a' W') →
      assign.wpIn (F.inRound l) (n - 1 - 1) P (Exit.then K (fun _ _ _ => False)) { tmps := (ps.zip (encs x)).foldl (fun t (p, v) => t.setIfInBounds p v) a.tmps, defers := [] } W)
    (hbody : ∀ (l : Nat) (nb : Option Nat) (pre : List α) (x : α) (a' : Act) (W : World), NbOk (w.heap.size + 2) nb → NbLt W nb → Ax nb pre x a' W → pre.length < N → l = w.heap.size + 1 →
      body.wpIn (F.inRound l) (n - 1 - 1) P (postN w.heap.size (Kp (w.heap.size + 2) x) (I nb (pre ++ [x])) (fun c => Ix c nb (pre ++ [x])) W) a' W)
    (hdone : ∀ (D : Nat) (nb : Option Nat) (xs : List α) (W : World), w.heap.size ≤ D → S xs → I nb xs W → W.heap[D]? = some (.deferred (some [])) → Q .normal { a with defers := { target := .collected D, args := #[] } :: a.defers } W)
    (hstop : ∀ (D : Nat) (nb : Option Nat) (c : Code) (pre : List α) (W : World), w.heap.size ≤ D → Sp pre → Ix c nb pre W → W.heap[D]? = some (.deferred (some [])) → c.wpIn F n P Q { a with defers := { target := .collected D, args := #[] } :: a.defers } W) :
    (Code.rangeFunc g ps assign body).wpIn F n P Q a w := by
  refine wpIn_rangeFunc ?_
  intro fn hfn
  rw [hro]
  obtain ⟨R, hR⟩ : ∃ R : LoopState → Option Code → Loop, R = fun st pe => { state := st, pending := pe, fn, tmps := a.tmps, params := ps, assign, body, defers := w.heap.size } := ⟨_, rfl⟩
  obtain ⟨W1, hW1⟩ : ∃ W1, (w.alloc (.deferred (some []))).alloc (.loop (R .ready none)) = W1 := ⟨_, rfl⟩
  have hsz : W1.heap.size = w.heap.size + 2 := by rw [← hW1]; simp
  have hL1 : W1.heap[w.heap.size + 1]? = some (.loop (R .ready none)) := by
    have h := World.alloc_heap_new (w.alloc (.deferred (some []))) (.loop (R .ready none))
    rw [World.size_alloc] at h
    rw [← hW1]; exact h
  have hD1 : W1.heap[w.heap.size]? = some (.deferred (some [])) := by
    rw [← hW1]; exact (Below.heap_alloc _ _ _ (by simp)).trans (World.alloc_heap_new w _)
  have hI1 : ∀ nb, NbOk W1.heap.size nb → I nb [] W1 := fun nb hnb => by
    rw [hsz] at hnb
    rw [← hW1]; exact hI.alloc _ hnb (hI.alloc _ hnb (h0 nb hnb))
  have hb1 : Below w.heap.size w W1 := by rw [← hW1]; exact ((Below.refl _ w).alloc (Nat.le_refl _) _).alloc (by simp) _
  refine ⟨w.heap.size + 1, [{ target := .collected w.heap.size, args := #[] }], W1, { target := .fn (.func gf) lb, args := #[.func (.yield (w.heap.size + 1)) #[] #[]] }, W1, gf,
    #[.func (.yield (w.heap.size + 1)) #[] #[]] ++ lb, W1, ?_, ?_, ?_, ?_, fun _ => h1, ?_⟩
  · rw [← hW1, hR]; exact run_enterLoop_outer _ _ _ _ _
  · simp only [resolve, hg]
    simp [go_sem]
  · intro f' hf'; simp [Target.leads] at hf'; subst hf'; exact hFg
  · simp [invoke, go_sem, eg]
  -- the two blocks of the loop's own stay as they lie where cells are turned
  have keep : ∀ {A B : World} {row : Option Nat} {k : Nat} {nb : Option Nat} {o : Obj}, A.grownBy B row → (∀ r, row = some r → nb = some r ∧ ∃ o : Obj, A.heap[r]? = some o ∧ o.isCells = true) → A.heap[k]? = some o → o.isCells = false → B.heap[k]? = some o := by
    intro A B row k nb o hg hr hk ho
    rw [hg.block k (Array.getElem?_eq_some_iff.1 hk).1 (fun e => by
      obtain ⟨_, q, hq, hc⟩ := hr k e.symm
      rw [hk] at hq; cases hq; rw [ho] at hc; cases hc)]; exact hk
  refine (hseq (w.heap.size + 1)
    (fun nb pre W => I nb pre W ∧ W.heap[w.heap.size + 1]? = some (.loop (R .ready none)) ∧ W.heap[w.heap.size]? = some (.deferred (some [])))
    (fun nb pre W => ∃ c, Ix c nb pre W ∧ W.heap[w.heap.size + 1]? = some (.loop (R .done (some c))) ∧ W.heap[w.heap.size]? = some (.deferred (some [])))
    W1 hb1
    (fun nb s A B row hn hs hg hr => ⟨hI nb s A B row (hn.mono (by omega)) hs.1 hg (fun r e => .inl (hr r e)), keep hg hr hs.2.1 rfl, keep hg hr hs.2.2 rfl⟩)
    (fun nb s A B row hn hs hg hr => by
      obtain ⟨c, h1, h2, h3⟩ := hs
      exact ⟨c, hIx c nb s A B row (hn.mono (by omega)) h1 hg (fun r e => .inl (hr r e)), keep hg hr h2 rfl, keep hg hr h3 rfl⟩)
    ?_ (fun nb hnb => ⟨hI1 nb hnb, hL1, hD1⟩)).mono ?_
  · rintro nb pre x W hnb hnl ⟨hi, hl, hd⟩ hpx hlen
    rw [hsz] at hnb hpx ⊢
    have hy := run_yield (P := P) (args := encs x) hl (by rw [hR]; exact hps x)
    rw [hR] at hy
    refine ⟨fn, _, assign, body, hy, roundIn_of_wpIn hfn (hassign _ nb pre x W _ hnb hnl hi hpx hlen ?_)⟩
    intro a' W2 hkf hkp hax
    have hl2 := hkf.same _ _ (by omega) hl rfl rfl
    have hd2 := hkf.same _ _ (Nat.le_refl _) hd rfl rfl
    have hlt : w.heap.size + 1 < W2.heap.size := (Array.getElem?_eq_some_iff.1 hl2).1
    refine ⟨_, run_beginRound hl2 (by rw [hR]), ?_⟩
    have hl3 : (W2.putObj (w.heap.size + 1) (.loop { R .ready none with state := .busy })).heap[w.heap.size + 1]? = some (.loop { R .ready none with state := .busy }) := World.putObj_heap_same hlt
    have hd3 : (W2.putObj (w.heap.size + 1) (.loop { R .ready none with state := .busy })).heap[w.heap.size]? = some (.deferred (some [])) := (World.putObj_heap_other (by omega)).trans hd2
    have hkp3 : Kp (w.heap.size + 2) x W (W2.putObj (w.heap.size + 1) (.loop { R .ready none with state := .busy })) := hKt x hkp (hKb x _ _ _ _ (by omega) hl2 rfl rfl)
    refine wpIn_mono (hbody _ nb pre x a' _ hnb (fun k e => by have := hnl k e; have h2 := hkf.1; simp only [World.putObj, Array.size_setIfInBounds]; omega) (hAx _ _ _ _ _ _ _ _ hax (by omega) hl2 rfl rfl) hlen rfl) ?_
    rintro e a3 W3 hp
    cases e with
    | normal =>
      obtain ⟨hk4, hkp4, hi4⟩ := hp
      have hl4 := hk4.same _ _ (by omega) hl3 rfl rfl
      have hd4 := hk4.same _ _ (Nat.le_refl _) hd3 rfl rfl
      have hr := run_endRound (P := P) none hl4
      rw [hR] at hr hl4
      refine ⟨_, _, hr, .inl ⟨rfl, ⟨hI.putObj _ hnb hi4 (by omega) hl4 rfl rfl, ?_, (World.putObj_heap_other (by omega)).trans hd4⟩, hKt x (hKt x hkp3 hkp4) (hKb x _ _ _ _ (by omega) hl4 rfl rfl)⟩⟩
      rw [hR]; exact World.putObj_heap_same (Array.getElem?_eq_some_iff.1 hl4).1
    | ret =>
      obtain ⟨hk4, hi4⟩ := hp
      have hl4 := hk4.same _ _ (by omega) hl3 rfl rfl
      have hd4 := hk4.same _ _ (Nat.le_refl _) hd3 rfl rfl
      have hr := run_endRound (P := P) (some .ret) hl4
      rw [hR] at hr hl4
      refine ⟨_, _, hr, .inr ⟨rfl, .ret, (hIx _).putObj _ hnb hi4 (by omega) hl4 rfl rfl, ?_, (World.putObj_heap_other (by omega)).trans hd4⟩⟩
      rw [hR]; exact World.putObj_heap_same (Array.getElem?_eq_some_iff.1 hl4).1
    | exit id =>
      obtain ⟨hk4, hi4⟩ := hp
      have hl4 := hk4.same _ _ (by omega) hl3 rfl rfl
      have hd4 := hk4.same _ _ (Nat.le_refl _) hd3 rfl rfl
      have hr := run_endRound (P := P) (some (.exit id)) hl4
      rw [hR] at hr hl4
      refine ⟨_, _, hr, .inr ⟨rfl, .exit id, (hIx _).putObj _ hnb hi4 (by omega) hl4 rfl rfl, ?_, (World.putObj_heap_other (by omega)).trans hd4⟩⟩
      rw [hR]; exact World.putObj_heap_same (Array.getElem?_eq_some_iff.1 hl4).1
    | goto t => exact hp.elim
    | panic ch => exact hp.elim
    | outgrown => exact hp.elim
  · rintro e W2 ⟨⟨v, rfl⟩, nb, hnb, (⟨xs, hS, hi, hl, hd⟩ | ⟨pre, hSp, c, hi, hl, hd⟩)⟩
    · rw [hsz] at hnb
      have hr := run_endLoop (P := P) hl (by rw [hR]; simp)
      rw [hR] at hr hl
      exact ⟨none, _, hr, hdone _ nb xs _ (Nat.le_refl _) hS (hI.putObj _ hnb hi (by omega) hl rfl rfl) ((World.putObj_heap_other (by omega)).trans hd)⟩
    · rw [hsz] at hnb
      have hr := run_endLoop (P := P) hl (by rw [hR]; simp)
      rw [hR] at hr hl
      exact ⟨some c, _, hr, hstop _ nb c pre _ (Nat.le_refl _) hSp ((hIx c).putObj _ hnb hi (by omega) hl rfl rfl) ((World.putObj_heap_other (by omega)).trans hd)⟩
end Go.Proofs.YtdbbbaallalhoaaGreat.rn
