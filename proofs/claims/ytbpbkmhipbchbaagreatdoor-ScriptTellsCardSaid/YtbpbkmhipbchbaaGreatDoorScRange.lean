/-
  PROVED HERE: a law for a range over a function whose iterator keeps its state in a block of its own (cb): what the caller's invariant must abide is that block's turns too. Conditions: none of a program's.
-/
import Derived.RangeFuncNested
import Derived.RangeFuncBound
import Derived.RangeFuncCalls
import Derived.RangeFuncLeaves
import Derived.Shelf.Abstract
import Derived.Shelf.RegionOpen
import Derived.WalkKit
import Derived.OwnWalkIn
import Derived.TacticsInMore
import Derived.LoopNIn
import Derived.LoopIn
namespace Go.Proofs.YtbpbkmhipbchbaaGreatDoor.sc
open Go Go.RowKit
set_option linter.unusedVariables false

/-- It abides new blocks, turns of block cb, and turns of blocks from B on that are no cells. -/
def Abd (T : TypeId) (cb B : Nat) (I : World → Prop) : Prop :=
  ∀ W W' row, I W → W.grownBy W' row → (∀ r, row = some r → (r = cb ∧ ∃ cs, W'.heap[cb]? = some (.cells cs T (0, 0))) ∨ (B ≤ r ∧ ∃ o : Obj, W.heap[r]? = some o ∧ o.isCells = false)) → I W'
theorem Abd.putObj {T : TypeId} {cb B l : Nat} {I : World → Prop} {W : World} {o : Obj} (h : Abd T cb B I) (o' : Obj) (hs : I W) (hB : B ≤ l) (hl : W.heap[l]? = some o) (ho : o.isCells = false) : I (W.putObj l o') :=
  h W _ (some l) hs (grownBy_putObj' W l o') fun r e => by cases e; exact .inr ⟨hB, o, hl, ho⟩
theorem Abd.alloc {T : TypeId} {cb B : Nat} {I : World → Prop} {W : World} (h : Abd T cb B I) (o : Obj) (hs : I W) : I (W.alloc o) := h W _ none hs (World.grownBy_alloc W o none) fun r e => by cases e
/-- What an iterator asks of what it hands on: new blocks, and turns of its own block cb. -/
def AbdI {β : Type} (T : TypeId) (cb : Nat) (J : β → World → Prop) : Prop := ∀ s W W' row, J s W → W.grownBy W' row → (∀ r, row = some r → r = cb ∧ ∃ cs, W'.heap[cb]? = some (.cells cs T (0, 0))) → J s W'

/-- An iterator with a block of its own: all that comes satisfies S; what has come when a round has said no more: Sp. -/
def SeqC {α : Type} (F : Fence) (n : Nat) (P : Program) (g : Nat) (lb : Array Value) (encs : α → Array Value) (Kp : World → World → Prop) (T : TypeId) (cb : Nat) (S Sp : List α → Prop) (N : Nat) (w : World) : Prop :=
  ∀ (l : Nat) (J Jx : List α → World → Prop) (W : World), Below w.heap.size w W → AbdI T cb J → AbdI T cb Jx →
    (∀ pre x W1, J pre W1 → pre.length < N → YieldAt F (n - 1) P l (encs x) W1 fun e W' =>
      (e = .returned (.bool true) ∧ J (pre ++ [x]) W' ∧ Kp W1 W') ∨ (e = .returned (.bool false) ∧ Jx (pre ++ [x]) W')) →
    J [] W →
    CallsIn F n P g (#[.func (.yield l) #[] #[]] ++ lb) W fun e W' => (∃ v, e = .returned v) ∧ ((∃ xs, S xs ∧ J xs W') ∨ (∃ pre, Sp pre ∧ Jx pre W'))

/-- How the body of a round may be left: it goes on, or the function returns. -/
def postC (B : Nat) (Kp : World → World → Prop) (I Ix : World → Prop) (W : World) : Exit → Act → World → Prop
  | .normal, _, W' => KeepsFrom B W W' ∧ Kp W W' ∧ I W'
  | .ret, _, W' => KeepsFrom B W W' ∧ Ix W'
  | _, _, _ => False

theorem wpIn_range_c {F : Fence} {n : Nat} {P : Program} {α : Type} {g : Operand} {ps : Array Tmp} {assign body : Code} {Q : Exit → Act → World → Prop} {a : Act} {w : World}
    (hro : F.round = none) (h1 : 1 ≤ n) {gf : Nat} {lb : Array Value} (hg : a.eval g = .func (.func gf) #[] lb) (hFg : F.fn gf) (eg : ∀ args w, (callFunc gf args).run P w = .ok (.enter gf args) w)
    {encs : α → Array Value} {Kp : World → World → Prop} {T : TypeId} {cb : Nat} (hcb : cb < w.heap.size) {S Sp : List α → Prop} {N : Nat} (hseq : SeqC F (n - 1) P gf lb encs Kp T cb S Sp N w)
    (hKt : ∀ {A B C : World}, Kp A B → Kp B C → Kp A C) (hKb : ∀ (W : World) (l : Nat) (o' : Obj), w.heap.size ≤ l → Kp W (W.putObj l o')) (hps : ∀ x, (encs x).size = ps.size)
    (I Ix : List α → World → Prop) (hI : ∀ s, Abd T cb w.heap.size (I s)) (hIx : ∀ s, Abd T cb w.heap.size (Ix s)) (h0 : I [] w)
    (Ax : List α → α → Act → World → Prop) (hAx : ∀ pre x a', Abd T cb w.heap.size (Ax pre x a'))
    (hassign : ∀ (l : Nat) (pre : List α) (x : α) (W : World) (K : Act → World → Prop), I pre W → pre.length < N → (∀ a' W', KeepsFrom w.heap.size W W' → Kp W W' → Ax pre x a' W' → K a' W') →
      assign.wpIn (F.inRound l) (n - 1 - 1) P (Exit.then K (fun _ _ _ => False)) { tmps := (ps.zip (encs x)).foldl (fun t (p, v) => t.setIfInBounds p v) a.tmps, defers := [] } W)
    (hbody : ∀ (l : Nat) (pre : List α) (x : α) (a' : Act) (W : World), Ax pre x a' W → pre.length < N → body.wpIn (F.inRound l) (n - 1 - 1) P (postC w.heap.size Kp (I (pre ++ [x])) (Ix (pre ++ [x])) W) a' W)
    (hdone : ∀ (D : Nat) (xs : List α) (W : World), w.heap.size ≤ D → S xs → I xs W → W.heap[D]? = some (.deferred (some [])) → Q .normal { a with defers := { target := .collected D, args := #[] } :: a.defers } W)
    (hstop : ∀ (D : Nat) (pre : List α) (W : World), w.heap.size ≤ D → Sp pre → Ix pre W → W.heap[D]? = some (.deferred (some [])) → Code.ret.wpIn F n P Q { a with defers := { target := .collected D, args := #[] } :: a.defers } W) :
    (Code.rangeFunc g ps assign body).wpIn F n P Q a w := by
  refine wpIn_rangeFunc ?_
  intro fn hfn
  rw [hro]
  obtain ⟨R, hR⟩ : ∃ R : LoopState → Option Code → Loop, R = fun st pe => { state := st, pending := pe, fn, tmps := a.tmps, params := ps, assign, body, defers := w.heap.size } := ⟨_, rfl⟩
  obtain ⟨W1, hW1⟩ : ∃ W1, (w.alloc (.deferred (some []))).alloc (.loop (R .ready none)) = W1 := ⟨_, rfl⟩
  have hsz : W1.heap.size = w.heap.size + 2 := by rw [← hW1]; simp
  have hL1 : W1.heap[w.heap.size + 1]? = some (.loop (R .ready none)) := by
    have h := World.alloc_heap_new (w.alloc (.deferred (some []))) (.loop (R .ready none))
    rw [World.size_alloc] at h
    rw [← hW1]; exact h
  have hD1 : W1.heap[w.heap.size]? = some (.deferred (some [])) := by
    rw [← hW1]; exact (Below.heap_alloc _ _ _ (by simp)).trans (World.alloc_heap_new w _)
  have hI1 : I [] W1 := by rw [← hW1]; exact (hI []).alloc _ ((hI []).alloc _ h0)
  have hb1 : Below w.heap.size w W1 := by rw [← hW1]; exact ((Below.refl _ w).alloc (Nat.le_refl _) _).alloc (by simp) _
  refine ⟨w.heap.size + 1, [{ target := .collected w.heap.size, args := #[] }], W1, { target := .fn (.func gf) lb, args := #[.func (.yield (w.heap.size + 1)) #[] #[]] }, W1, gf,
    #[.func (.yield (w.heap.size + 1)) #[] #[]] ++ lb, W1, ?_, ?_, ?_, ?_, fun _ => h1, ?_⟩
  · rw [← hW1, hR]; exact run_enterLoop_outer _ _ _ _ _
  · simp only [resolve, hg]
    simp [go_sem]
  · intro f' hf'; simp [Target.leads] at hf'; subst hf'; exact hFg
  · simp [invoke, go_sem, eg]
  -- the two blocks of the loop's own stay as they lie when cb is turned
  have keep : ∀ {A B : World} {row : Option Nat} {k : Nat} {o : Obj}, A.grownBy B row → (∀ r, row = some r → r = cb ∧ ∃ cs, B.heap[cb]? = some (.cells cs T (0, 0))) → w.heap.size ≤ k → A.heap[k]? = some o → B.heap[k]? = some o := by
    intro A B row k o hg hr hk ho
    rw [hg.block k (Array.getElem?_eq_some_iff.1 ho).1 (fun e => by have := (hr k e.symm).1; omega)]; exact ho
  have sub : ∀ {A B : World} {row : Option Nat}, (∀ r, row = some r → r = cb ∧ ∃ cs, B.heap[cb]? = some (.cells cs T (0, 0))) → ∀ r, row = some r → (r = cb ∧ ∃ cs, B.heap[cb]? = some (.cells cs T (0, 0))) ∨ (w.heap.size ≤ r ∧ ∃ o : Obj, A.heap[r]? = some o ∧ o.isCells = false) := fun h r e => .inl (h r e)
  refine (hseq (w.heap.size + 1)
    (fun pre W => I pre W ∧ W.heap[w.heap.size + 1]? = some (.loop (R .ready none)) ∧ W.heap[w.heap.size]? = some (.deferred (some [])))
    (fun pre W => Ix pre W ∧ W.heap[w.heap.size + 1]? = some (.loop (R .done (some .ret))) ∧ W.heap[w.heap.size]? = some (.deferred (some [])))
    W1 hb1
    (fun s A B row hs hg hr => ⟨hI s A B row hs.1 hg (sub hr), keep hg hr (by omega) hs.2.1, keep hg hr (Nat.le_refl _) hs.2.2⟩)
    (fun s A B row hs hg hr => ⟨hIx s A B row hs.1 hg (sub hr), keep hg hr (by omega) hs.2.1, keep hg hr (Nat.le_refl _) hs.2.2⟩)
    ?_ ⟨hI1, hL1, hD1⟩).mono ?_
  · rintro pre x W ⟨hi, hl, hd⟩ hlen
    have hy := run_yield (P := P) (args := encs x) hl (by rw [hR]; exact hps x)
    rw [hR] at hy
    refine ⟨fn, _, assign, body, hy, roundIn_of_wpIn hfn (hassign _ pre x W _ hi hlen ?_)⟩
    intro a' W2 hkf hkp hax
    have hl2 := hkf.same _ _ (by omega) hl rfl
    have hd2 := hkf.same _ _ (Nat.le_refl _) hd rfl
    have hlt : w.heap.size + 1 < W2.heap.size := (Array.getElem?_eq_some_iff.1 hl2).1
    refine ⟨_, run_beginRound hl2 (by rw [hR]), ?_⟩
    have hl3 : (W2.putObj (w.heap.size + 1) (.loop { R .ready none with state := .busy })).heap[w.heap.size + 1]? = some (.loop { R .ready none with state := .busy }) := World.putObj_heap_same hlt
    have hd3 : (W2.putObj (w.heap.size + 1) (.loop { R .ready none with state := .busy })).heap[w.heap.size]? = some (.deferred (some [])) := (World.putObj_heap_other (by omega)).trans hd2
    have hkp3 : Kp W (W2.putObj (w.heap.size + 1) (.loop { R .ready none with state := .busy })) := hKt hkp (hKb _ _ _ (by omega))
    refine wpIn_mono (hbody _ pre x a' _ ((hAx pre x a').putObj _ hax (by omega) hl2 rfl) hlen) ?_
    rintro e a3 W3 hp
    cases e with
    | normal =>
      obtain ⟨hk4, hkp4, hi4⟩ := hp
      have hl4 := hk4.same _ _ (by omega) hl3 rfl
      have hd4 := hk4.same _ _ (Nat.le_refl _) hd3 rfl
      have hr := run_endRound (P := P) none hl4
      rw [hR] at hr hl4
      refine ⟨_, _, hr, .inl ⟨rfl, ⟨(hI _).putObj _ hi4 (by omega) hl4 rfl, ?_, (World.putObj_heap_other (by omega)).trans hd4⟩, hKt (hKt hkp3 hkp4) (hKb _ _ _ (by omega))⟩⟩
      rw [hR]; exact World.putObj_heap_same (Array.getElem?_eq_some_iff.1 hl4).1
    | ret =>
      obtain ⟨hk4, hi4⟩ := hp
      have hl4 := hk4.same _ _ (by omega) hl3 rfl
      have hd4 := hk4.same _ _ (Nat.le_refl _) hd3 rfl
      have hr := run_endRound (P := P) (some .ret) hl4
      rw [hR] at hr hl4
      refine ⟨_, _, hr, .inr ⟨rfl, (hIx _).putObj _ hi4 (by omega) hl4 rfl, ?_, (World.putObj_heap_other (by omega)).trans hd4⟩⟩
      rw [hR]; exact World.putObj_heap_same (Array.getElem?_eq_some_iff.1 hl4).1
    | exit id => exact hp.elim
    | goto t => exact hp.elim
    | panic ch => exact hp.elim
    | outgrown => exact hp.elim
  · rintro e W2 ⟨⟨v, rfl⟩, (⟨xs, hS, hi, hl, hd⟩ | ⟨pre, hSp, hi, hl, hd⟩)⟩
    · have hr := run_endLoop (P := P) hl (by rw [hR]; simp)
      rw [hR] at hr hl
      exact ⟨none, _, hr, hdone _ xs _ (Nat.le_refl _) hS ((hI _).putObj _ hi (by omega) hl rfl) ((World.putObj_heap_other (by omega)).trans hd)⟩
    · have hr := run_endLoop (P := P) hl (by rw [hR]; simp)
      rw [hR] at hr hl
      exact ⟨some .ret, _, hr, hstop _ pre _ (Nat.le_refl _) hSp ((hIx _).putObj _ hi (by omega) hl rfl) ((World.putObj_heap_other (by omega)).trans hd)⟩

end Go.Proofs.YtbpbkmhipbchbaaGreatDoor.sc
