/-
  ScRange: PROVED HERE: a law for a range over a function whose iterator keeps its state in a block of its own (cb): what the caller's invariant must abide is that block's turns too. Conditions: none of a program's.
  ScRows: PROVED HERE: the contract of script's rows (its closure, as an iterator): the acts, like ones in a row together. Conditions: numbers of their kinds; the acts lie below n0.
  ScText: PROVED HERE: the contracts of script's rows and Text: the text of a script that may be, or ErrArg. Conditions: numbers of their kinds; short lines; the library's tables lie (Env).
-/
import Derived.RangeFuncNested
import Derived.RangeFuncBound
import Derived.RangeFuncCalls
import Derived.RangeFuncLeaves
import Derived.Shelf.Abstract
import Derived.Shelf.RegionOpen
import Derived.WalkKit
import Derived.OwnWalkIn
import Derived.TacticsInMore
import Derived.LoopNIn
import Derived.LoopIn
import Derived.Test.YtnnahodajiolmaaGreatDoorScMays
import Derived.Deep.RegionLaw
import Derived.Test.YtnnahodajiolmaaGreatDoorShelf
namespace Go.Proofs.YtnnahodajiolmaaGreatDoor.sc
open Go Go.RowKit
set_option linter.unusedVariables false

/-- It abides new blocks, turns of block cb, and turns of blocks from B on that are no cells. -/
def Abd (T : TypeId) (cb B : Nat) (I : World → Prop) : Prop :=
  ∀ W W' row, I W → W.grownBy W' row → (∀ r, row = some r → (r = cb ∧ ∃ cs, W'.heap[cb]? = some (.cells cs T (0, 0))) ∨ (B ≤ r ∧ ∃ o : Obj, W.heap[r]? = some o ∧ o.isCells = false)) → I W'
theorem Abd.putObj {T : TypeId} {cb B l : Nat} {I : World → Prop} {W : World} {o : Obj} (h : Abd T cb B I) (o' : Obj) (hs : I W) (hB : B ≤ l) (hl : W.heap[l]? = some o) (ho : o.isCells = false) : I (W.putObj l o') :=
  h W _ (some l) hs (grownBy_putObj' W l o') fun r e => by cases e; exact .inr ⟨hB, o, hl, ho⟩
theorem Abd.alloc {T : TypeId} {cb B : Nat} {I : World → Prop} {W : World} (h : Abd T cb B I) (o : Obj) (hs : I W) : I (W.alloc o) := h W _ none hs (World.grownBy_alloc W o none) fun r e => by cases e
/-- What an iterator asks of what it hands on: new blocks, and turns of its own block cb. -/
def AbdI {β : Type} (T : TypeId) (cb : Nat) (J : β → World → Prop) : Prop := ∀ s W W' row, J s W → W.grownBy W' row → (∀ r, row = some r → r = cb ∧ ∃ cs, W'.heap[cb]? = some (.cells cs T (0, 0))) → J s W'

/-- An iterator with a block of its own: all that comes satisfies S; what has come when a round has said no more: Sp. -/
def SeqC {α : Type} (F : Fence) (n : Nat) (P : Program) (g : Nat) (lb : Array Value) (encs : α → Array Value) (Kp : World → World → Prop) (T : TypeId) (cb : Nat) (S Sp : List α → Prop) (N : Nat) (w : World) : Prop :=
  ∀ (l : Nat) (J Jx : List α → World → Prop) (W : World), Below w.heap.size w W → AbdI T cb J → AbdI T cb Jx →
    (∀ pre x W1, J pre W1 → pre.length < N → YieldAt F (n - 1) P l (encs x) W1 fun e W' =>
      (e = .returned (.bool true) ∧ J (pre ++ [x]) W' ∧ Kp W1 W') ∨ (e = .returned (.bool false) ∧ Jx (pre ++ [x]) W')) →
    J [] W →
    CallsIn F n P g (#[.func (.yield l) #[] #[]] ++ lb) W fun e W' => (∃ v, e = .returned v) ∧ ((∃ xs, S xs ∧ J xs W') ∨ (∃ pre, Sp pre ∧ Jx pre W'))

/-- How the body of a round may be left: it goes on, or the function returns. -/
def postC (B : Nat) (Kp : World → World → Prop) (I Ix : World → Prop) (W : World) : Exit → Act → World → Prop
  | .normal, _, W' => KeepsFrom B W W' ∧ Kp W W' ∧ I W'
  | .ret, _, W' => KeepsFrom B W W' ∧ Ix W'
  | _, _, _ => False

theorem wpIn_range_c {F : Fence} {n : Nat} {P : Program} {α : Type} {g : Operand} {ps : Array Tmp} {assign body : Code} {Q : Exit → Act → World → Prop} {a : Act} {w : World}
    (hro : F.round = none) (h1 : 1 ≤ n) {gf : Nat} {lb : Array Value} (hg : a.eval g = .func (.func gf) #[] lb) (hFg : F.fn gf) (eg : ∀ args w, (callFunc gf args).run P w = .ok (.enter gf args) w)
    {encs : α → Array Value} {Kp : World → World → Prop} {T : TypeId} {cb : Nat} (hcb : cb < w.heap.size) {S Sp : List α → Prop} {N : Nat} (hseq : SeqC F (n - 1) P gf lb encs Kp T cb S Sp N w)
    (hKt : ∀ {A B C : World}, Kp A B → Kp B C → Kp A C) (hKb : ∀ (W : World) (l : Nat) (o' : Obj), w.heap.size ≤ l → Kp W (W.putObj l o')) (hps : ∀ x, (encs x).size = ps.size)
    (I Ix : List α → World → Prop) (hI : ∀ s, Abd T cb w.heap.size (I s)) (hIx : ∀ s, Abd T cb w.heap.size (Ix s)) (h0 : I [] w)
    (Ax : List α → α → Act → World → Prop) (hAx : ∀ pre x a', Abd T cb w.heap.size (Ax pre x a'))
    (hassign : ∀ (l : Nat) (pre : List α) (x : α) (W : World) (K : Act → World → Prop), I pre W → pre.length < N → (∀ a' W', KeepsFrom w.heap.size W W' → Kp W W' → Ax pre x a' W' → K a' W') →
      assign.wpIn (F.inRound l) (n - 1 - 1) P (Exit.then K (fun _ _ _ => False)) { tmps := (ps.zip (encs x)).foldl (fun t (p, v) => t.setIfInBounds p v) a.tmps, defers := [] } W)
    (hbody : ∀ (l : Nat) (pre : List α) (x : α) (a' : Act) (W : World), Ax pre x a' W → pre.length < N → body.wpIn (F.inRound l) (n - 1 - 1) P (postC w.heap.size Kp (I (pre ++ [x])) (Ix (pre ++ [x])) W) a' W)
    (hdone : ∀ (D : Nat) (xs : List α) (W : World), w.heap.size ≤ D → S xs → I xs W → W.heap[D]? = some (.deferred (some [])) → Q .normal { a with defers := { target := .collected D, args := #[] } :: a.defers } W)
    (hstop : ∀ (D : Nat) (pre : List α) (W : World), w.heap.size ≤ D → Sp pre → Ix pre W → W.heap[D]? = some (.deferred (some [])) → Code.ret.wpIn F n P Q { a with defers := { target := .collected D, args := #[] } :: a.defers } W) :
    (Code.rangeFunc g ps assign body).wpIn F n P Q a w := by
  refine wpIn_rangeFunc ?_
  intro fn hfn
  rw [hro]
  obtain ⟨R, hR⟩ : ∃ R : LoopState → Option Code → Loop, R = fun st pe => { state := st, pending := pe, fn, tmps := a.tmps, params := ps, assign, body, defers := w.heap.size } := ⟨_, rfl⟩
  obtain ⟨W1, hW1⟩ : ∃ W1, (w.alloc (.deferred (some []))).alloc (.loop (R .ready none)) = W1 := ⟨_, rfl⟩
  have hsz : W1.heap.size = w.heap.size + 2 := by rw [← hW1]; simp
  have hL1 : W1.heap[w.heap.size + 1]? = some (.loop (R .ready none)) := by
    have h := World.alloc_heap_new (w.alloc (.deferred (some []))) (.loop (R .ready none))
    rw [World.size_alloc] at h
    rw [← hW1]; exact h
  have hD1 : W1.heap[w.heap.size]? = some (.deferred (some [])) := by
    rw [← hW1]; exact (Below.heap_alloc _ _ _ (by simp)).trans (World.alloc_heap_new w _)
  have hI1 : I [] W1 := by rw [← hW1]; exact (hI []).alloc _ ((hI []).alloc _ h0)
  have hb1 : Below w.heap.size w W1 := by rw [← hW1]; exact ((Below.refl _ w).alloc (Nat.le_refl _) _).alloc (by simp) _
  refine ⟨w.heap.size + 1, [{ target := .collected w.heap.size, args := #[] }], W1, { target := .fn (.func gf) lb, args := #[.func (.yield (w.heap.size + 1)) #[] #[]] }, W1, gf,
    #[.func (.yield (w.heap.size + 1)) #[] #[]] ++ lb, W1, ?_, ?_, ?_, ?_, fun _ => h1, ?_⟩
  · rw [← hW1, hR]; exact run_enterLoop_outer _ _ _ _ _
  · simp only [resolve, hg]
    simp [go_sem]
  · intro f' hf'; simp [Target.leads] at hf'; subst hf'; exact hFg
  · simp [invoke, go_sem, eg]
  -- the two blocks of the loop's own stay as they lie when cb is turned
  have keep : ∀ {A B : World} {row : Option Nat} {k : Nat} {o : Obj}, A.grownBy B row → (∀ r, row = some r → r = cb ∧ ∃ cs, B.heap[cb]? = some (.cells cs T (0, 0))) → w.heap.size ≤ k → A.heap[k]? = some o → B.heap[k]? = some o := by
    intro A B row k o hg hr hk ho
    rw [hg.block k (Array.getElem?_eq_some_iff.1 ho).1 (fun e => by have := (hr k e.symm).1; omega)]; exact ho
  have sub : ∀ {A B : World} {row : Option Nat}, (∀ r, row = some r → r = cb ∧ ∃ cs, B.heap[cb]? = some (.cells cs T (0, 0))) → ∀ r, row = some r → (r = cb ∧ ∃ cs, B.heap[cb]? = some (.cells cs T (0, 0))) ∨ (w.heap.size ≤ r ∧ ∃ o : Obj, A.heap[r]? = some o ∧ o.isCells = false) := fun h r e => .inl (h r e)
  refine (hseq (w.heap.size + 1)
    (fun pre W => I pre W ∧ W.heap[w.heap.size + 1]? = some (.loop (R .ready none)) ∧ W.heap[w.heap.size]? = some (.deferred (some [])))
    (fun pre W => Ix pre W ∧ W.heap[w.heap.size + 1]? = some (.loop (R .done (some .ret))) ∧ W.heap[w.heap.size]? = some (.deferred (some [])))
    W1 hb1
    (fun s A B row hs hg hr => ⟨hI s A B row hs.1 hg (sub hr), keep hg hr (by omega) hs.2.1, keep hg hr (Nat.le_refl _) hs.2.2⟩)
    (fun s A B row hs hg hr => ⟨hIx s A B row hs.1 hg (sub hr), keep hg hr (by omega) hs.2.1, keep hg hr (Nat.le_refl _) hs.2.2⟩)
    ?_ ⟨hI1, hL1, hD1⟩).mono ?_
  · rintro pre x W ⟨hi, hl, hd⟩ hlen
    have hy := run_yield (P := P) (args := encs x) hl (by rw [hR]; exact hps x)
    rw [hR] at hy
    refine ⟨fn, _, assign, body, hy, roundIn_of_wpIn hfn (hassign _ pre x W _ hi hlen ?_)⟩
    intro a' W2 hkf hkp hax
    have hl2 := hkf.same _ _ (by omega) hl rfl
    have hd2 := hkf.same _ _ (Nat.le_refl _) hd rfl
    have hlt : w.heap.size + 1 < W2.heap.size := (Array.getElem?_eq_some_iff.1 hl2).1
    refine ⟨_, run_beginRound hl2 (by rw [hR]), ?_⟩
    have hl3 : (W2.putObj (w.heap.size + 1) (.loop { R .ready none with state := .busy })).heap[w.heap.size + 1]? = some (.loop { R .ready none with state := .busy }) := World.putObj_heap_same hlt
    have hd3 : (W2.putObj (w.heap.size + 1) (.loop { R .ready none with state := .busy })).heap[w.heap.size]? = some (.deferred (some [])) := (World.putObj_heap_other (by omega)).trans hd2
    have hkp3 : Kp W (W2.putObj (w.heap.size + 1) (.loop { R .ready none with state := .busy })) := hKt hkp (hKb _ _ _ (by omega))
    refine wpIn_mono (hbody _ pre x a' _ ((hAx pre x a').putObj _ hax (by omega) hl2 rfl) hlen) ?_
    rintro e a3 W3 hp
    cases e with
    | normal =>
      obtain ⟨hk4, hkp4, hi4⟩ := hp
      have hl4 := hk4.same _ _ (by omega) hl3 rfl
      have hd4 := hk4.same _ _ (Nat.le_refl _) hd3 rfl
      have hr := run_endRound (P := P) none hl4
      rw [hR] at hr hl4
      refine ⟨_, _, hr, .inl ⟨rfl, ⟨(hI _).putObj _ hi4 (by omega) hl4 rfl, ?_, (World.putObj_heap_other (by omega)).trans hd4⟩, hKt (hKt hkp3 hkp4) (hKb _ _ _ (by omega))⟩⟩
      rw [hR]; exact World.putObj_heap_same (Array.getElem?_eq_some_iff.1 hl4).1
    | ret =>
      obtain ⟨hk4, hi4⟩ := hp
      have hl4 := hk4.same _ _ (by omega) hl3 rfl
      have hd4 := hk4.same _ _ (Nat.le_refl _) hd3 rfl
      have hr := run_endRound (P := P) (some .ret) hl4
      rw [hR] at hr hl4
      refine ⟨_, _, hr, .inr ⟨rfl, (hIx _).putObj _ hi4 (by omega) hl4 rfl, ?_, (World.putObj_heap_other (by omega)).trans hd4⟩⟩
      rw [hR]; exact World.putObj_heap_same (Array.getElem?_eq_some_iff.1 hl4).1
    | exit id => exact hp.elim
    | goto t => exact hp.elim
    | panic ch => exact hp.elim
    | outgrown => exact hp.elim
  · rintro e W2 ⟨⟨v, rfl⟩, (⟨xs, hS, hi, hl, hd⟩ | ⟨pre, hSp, hi, hl, hd⟩)⟩
    · have hr := run_endLoop (P := P) hl (by rw [hR]; simp)
      rw [hR] at hr hl
      exact ⟨none, _, hr, hdone _ xs _ (Nat.le_refl _) hS ((hI _).putObj _ hi (by omega) hl rfl) ((World.putObj_heap_other (by omega)).trans hd)⟩
    · have hr := run_endLoop (P := P) hl (by rw [hR]; simp)
      rw [hR] at hr hl
      exact ⟨some .ret, _, hr, hstop _ pre _ (Nat.le_refl _) hSp ((hIx _).putObj _ hi (by omega) hl rfl) ((World.putObj_heap_other (by omega)).trans hd)⟩

end Go.Proofs.YtnnahodajiolmaaGreatDoor.sc

namespace Go.Proofs.YtnnahodajiolmaaGreatDoor.sc
open Go.RowKit
set_option linter.unusedVariables false

/-! ### Rows, in plain words -/
def runN (a : Ac) : List Ac → Nat
  | [] => 0
  | b :: r => if a = b then runN a r + 1 else 0
def runLen (a : Ac) (r : List Ac) : Nat := if again a then runN a r else 0
theorem runN_le (a : Ac) : ∀ r : List Ac, runN a r ≤ r.length
  | [] => Nat.le_refl _
  | b :: r => by
    rw [runN]; split
    · have := runN_le a r; simp; omega
    · omega
theorem runLen_le (a : Ac) (r : List Ac) : runLen a r ≤ r.length := by
  unfold runLen; split
  · exact runN_le a r
  · omega
def rowsL : List Ac → List (Ac × Int)
  | [] => []
  | a :: r => (a, ((runLen a r + 1 : Nat) : Int)) :: rowsL (r.drop (runLen a r))
termination_by l => l.length
decreasing_by simp; omega
theorem rowsL_cons (a : Ac) (r : List Ac) : rowsL (a :: r) = (a, ((runLen a r + 1 : Nat) : Int)) :: rowsL (r.drop (runLen a r)) := by rw [rowsL]
theorem rowsL_nil : rowsL [] = [] := by rw [rowsL]
theorem rowsL_length : ∀ (n : Nat) (l : List Ac), l.length ≤ n → (rowsL l).length ≤ l.length
  | _, [], _ => by rw [rowsL_nil]; simp
  | n + 1, a :: r, h => by
    rw [rowsL_cons]
    have := rowsL_length n (r.drop (runLen a r)) (by simp at h ⊢; omega)
    simp at this ⊢; omega
theorem runN_eq {a : Ac} : ∀ (r : List Ac) (k : Nat), (∀ j, j < k → r[j]? = some a) → (∀ b, r[k]? = some b → a ≠ b) → k ≤ r.length → runN a r = k
  | [], k, _, _, h => by simp at h; subst h; rfl
  | b :: r, 0, _, h, _ => by rw [runN, if_neg (h b rfl)]
  | b :: r, k + 1, h, h2, h3 => by
    have hb : b = a := by have := h 0 (by omega); simpa using this
    rw [runN, if_pos hb.symm, runN_eq r k (fun j hj => by have := h (j + 1) (by omega); simpa using this) (fun c hc => h2 c (by simpa using hc)) (by simp at h3; omega)]
theorem runLen_stop {a : Ac} {r : List Ac} {k : Nat} (h : ∀ j, j < k → r[j]? = some a) (hk : k ≤ r.length) (ha : 0 < k → again a = true) (hs : k = r.length ∨ again a = false ∨ ∃ b, r[k]? = some b ∧ a ≠ b) : runLen a r = k := by
  unfold runLen
  cases hg : again a with
  | false =>
    rw [if_neg (by simp)]
    rcases Nat.eq_zero_or_pos k with h0 | h0
    · exact h0.symm
    · rw [ha h0] at hg; cases hg
  | true =>
    rw [if_pos rfl]
    refine runN_eq r k h (fun b hb => ?_) hk
    rcases hs with h1 | h1 | ⟨c, h1, h2⟩
    · rw [List.getElem?_eq_none (by omega)] at hb; cases hb
    · rw [hg] at h1; cases h1
    · rw [h1] at hb; injection hb with hb; rw [← hb]; exact h2

theorem Below.grown0 {w w' : World} (h : Below w.heap.size w w') : w.grownBy w' none := ⟨h.os, h.tape, h.output, h.size, fun k hk _ => h.block k hk⟩
theorem Below.drewK {B : Nat} {w w' : World} (h : Below B w w') (k : Nat) : Below B w (w'.drewN k) := ⟨h.os, h.tape, h.output, h.size, h.block⟩
theorem drop_acts {w : World} {b o c k : Nat} {l : List Ac} (h : ActsR w (.slice (some ⟨b, o, none⟩) l.length c) l) (hk : k ≤ l.length) :
    ActsR w (.slice (if c = k then some ⟨b, o, none⟩ else some ⟨b, o + k * 10, none⟩) (l.length - k) (c - k)) (l.drop k) := by
  obtain ⟨A', c', e, h2, h3⟩ := h
  cases e
  refine ⟨_, _, by rw [List.length_drop], by rw [List.length_drop]; omega, fun hn => ?_⟩
  rw [List.length_drop] at hn
  obtain ⟨b', o', e, hb, hc⟩ := h3 (by omega)
  cases e
  rw [if_neg (by omega)]
  refine ⟨b, o + k * 10, rfl, hb, fun i a hi => ?_⟩
  rw [List.getElem?_drop] at hi
  obtain ⟨kv, h4, h5⟩ := hc (k + i) a hi
  exact ⟨kv, fun j hj => by rw [← h4 j hj]; congr 2; omega, h5⟩

/-- One row that comes: an act, its numbers, how many times. -/
abbrev RowX (w0 : World) (acts : List Ac) := { x : Ac × Value × Int // RowR w0 x.2.1 x.1.keep.length 1 (x.1.keep.map (Value.int .i64)) ∧ x.1 ∈ acts ∧ 1 ≤ x.2.2 ∧ x.2.2 ≤ acts.length }
def rowE {w0 : World} {acts : List Ac} (x : RowX w0 acts) : Ac × Int := (x.1.1, x.1.2.2)
/-- What the body of a round must keep. -/
def KpR (n0 cb : Nat) (W W' : World) : Prop := Below n0 W W' ∧ W'.heap[cb]? = W.heap[cb]?

/-- The iterator's block as it is, and all below as it was. -/
def RowsInv (cb : Nat) (w0 : World) (cs : Array Value) (wx : World) : Prop := Blk wx cb 23 cs ∧ Below w0.heap.size w0 wx
theorem RowsInv.call {cb : Nat} {w0 wp w8 : World} {cs : Array Value} (h : RowsInv cb w0 cs wp) (hb : Below wp.heap.size wp w8) : RowsInv cb w0 cs w8 := ⟨h.1.below hb h.1.lt, h.2.trans (hb.mono h.2.size)⟩
theorem RowsInv.alloc {cb : Nat} {w0 wp : World} {cs : Array Value} (h : RowsInv cb w0 cs wp) (o : Obj) : RowsInv cb w0 cs (wp.alloc o) := ⟨h.1.alloc o, h.2.alloc h.2.size o⟩
/-- How many acts are left. -/
def leftR (cb : Nat) (w : World) : Nat := match w.cell? ⟨cb, 0, none⟩ with
  | some (.slice _ n _) => n
  | _ => 0

set_option maxHeartbeats 4000000 in
set_option maxRecDepth 100000 in
theorem rowsFn_seq {w0 w : World} (acts : List Ac) (v : Value) (cb n : Nat) (hv : ActsR w0 v acts) (hN : acts.length ≤ 1000000) (hK : ∀ a ∈ acts, a.keep.length ≤ 1000000) (hcb : Blk w cb 23 #[v]) (hb0 : Below w0.heap.size w0 w) (hlt : w0.heap.size ≤ cb) :
    SeqC Fence.wide n Tryz.prog 70 #[.pointer (some ⟨cb, 0, none⟩)] (fun x : RowX w0 acts => #[.agg (acC x.1.1 x.1.2.1), .int .i64 x.1.2.2]) (KpR w0.heap.size cb) 23 cb (fun xs => xs.map rowE = rowsL acts) (fun _ => True) acts.length w := by
  intro l J Jx W hW hJ hJx hY h0
  refine callsIn_wide.2 ?_
  have HI := Lib.hid (And.intro hW (And.intro hJ (And.intro hJx (And.intro h0 (And.intro hN hK)))))
  have HY := Lib.hid hY
  have hcW : Blk W cb 23 #[v] := hcb.below hW hcb.lt
  have hbW : Below w0.heap.size w0 W := hb0.trans (hW.mono hb0.size)
  clear hW hJ hJx h0 hN hK hY
  go_enter Tryz.func70, Tryz.ntmps70
  go_wp2_with fail
  go_loopw [3] (fun s3 wr => ∃ (pre : List (RowX w0 acts)) (rest : List Ac) (A : Option Addr) (c : Nat), Blk wr cb 23 #[.slice A rest.length c] ∧ ActsR w0 (.slice A rest.length c) rest ∧ J pre wr ∧ pre.map rowE ++ rowsL rest = rowsL acts ∧ (∀ a ∈ rest, a ∈ acts) ∧ rest.length ≤ acts.length ∧ Below w0.heap.size w0 wr) (fun _ wr => leftR cb wr)
  case atStart =>
    obtain ⟨A, c, rfl⟩ := hv.len
    exact ⟨[], acts, A, c, hcW, hv, HI.out.2.2.2.1, by simp, fun a h => h, Nat.le_refl _, hbW⟩
  case round =>
    obtain ⟨pre, rest, A, c, hblk, hact, hj, hrows, hin, hlen, hbel⟩ := hrel
    have cc : wr.cell? ⟨cb, 0, none⟩ = some (.slice A rest.length c) := hblk.cell 0
    have cz := hblk.frozen 0
    have HR := Lib.hid (And.intro hblk (And.intro hact (And.intro hj (And.intro hrows (And.intro hin (And.intro hlen hbel))))))
    clear hblk hact hj hrows hin hlen hbel
    cases rest with
    | nil =>
      go_wp2_with fail
      go_end0
      exact ⟨⟨_, rfl⟩, .inl ⟨pre, by have := HR.out.2.2.2.1; rw [rowsL_nil, List.append_nil] at this; exact this, HR.out.2.2.1⟩⟩
    | cons a r =>
      obtain ⟨m, hm⟩ : ∃ m, m = (a :: r).length := ⟨_, rfl⟩
      have hm0 : 0 < m := by rw [hm]; simp
      have hm1 : (0 : Int) < (m : Int) := by omega
      have hm2 : m ≤ 1000000 := by have := HR.out.2.2.2.2.2.1; have := HI.out.2.2.2.2.1; omega
      have HM := Lib.hid hm
      rw [← hm] at cc HR
      clear hm
      obtain ⟨b, o, kA, kc, rfl, hrow0, h00⟩ := HR.out.2.1.at_ (k := 0) (a := a) rfl
      have HC9 := Lib.hid (show ∀ wx, Below w0.heap.size w0 wx → wx.cell? ⟨b, o + 0 * 10 + 9, none⟩ = some (.slice kA a.keep.length kc) from fun wx hb => by
        have h9 := h00.2.2.2.2.2.2.2.2.2
        rw [hb.cell (p := ⟨b, o + 0 * 10 + 9, none⟩) (lt_of_cell h9)]; exact h9)
      have HR0 := Lib.hid hrow0; clear hrow0 h00
      go_upto_region 2 with fail
      clear cc cz
      obtain ⟨wo, rfl⟩ : ∃ wo : World, wo = wr := ⟨_, rfl⟩
      have hS0 : ∀ wx, RowsInv cb w0 #[.slice (some ⟨b, o, none⟩) m c] wx → (wx.cell? ⟨cb, 0, none⟩ = some (.slice (some ⟨b, o, none⟩) m c) ∧ wx.cell? ⟨b, o, none⟩ = some (.int .i64 a.kind) ∧ wx.cell? ⟨b, o + 1, none⟩ = some (.int .i64 a.client) ∧ wx.cell? ⟨b, o + 2, none⟩ = some (.int .i64 a.call.op) ∧ wx.cell? ⟨b, o + 3, none⟩ = some (.int .u64 a.call.key) ∧ wx.cell? ⟨b, o + 4, none⟩ = some (.int .u64 a.call.hi) ∧ wx.cell? ⟨b, o + 5, none⟩ = some (.int .i64 a.call.lim) ∧ wx.cell? ⟨b, o + 6, none⟩ = some (.string (mk a.call.val)) ∧ wx.cell? ⟨b, o + 7, none⟩ = some (.int .u64 a.at_) ∧ wx.cell? ⟨b, o + 8, none⟩ = some (.int .i64 a.n) ∧ wx.cell? ⟨b, o + 9, none⟩ = some (.slice kA a.keep.length kc) ∧ RowsInv cb w0 #[.slice (some ⟨b, o, none⟩) m c] wx) := fun wx hk => by
        obtain ⟨b', o', kA', kc', e, _, h0, h1, h2, h3, h4, h5, h6, h7, h8, h9⟩ := (HR.out.2.1.next hk.2).at_ (k := 0) (a := a) rfl
        cases e
        rw [show o + 0 * 10 = o by omega] at h0 h1 h2 h3 h4 h5 h6 h7 h8 h9
        have e9 : kA' = kA ∧ kc' = kc := by
          have := HC9.out wx hk.2
          rw [h9] at this
          simpa using this
        rw [e9.1, e9.2] at h9
        exact ⟨hk.1.cell 0, h0, h1, h2, h3, h4, h5, h6, h7, h8, h9, hk⟩
      have HS0 := Lib.hid hS0; clear hS0
      go_loopw [3] (fun s3 wi => ∃ k : Nat, s3 = .int .i64 k ∧ 1 ≤ k ∧ k ≤ m ∧ (∀ j, j + 1 < k → r[j]? = some a) ∧ (1 < k → again a = true) ∧ Below wo.heap.size wo wi) (fun s3 _ => m - (RowKit.intOf s3).toNat)
      case atStart => exact ⟨1, rfl, Nat.le_refl _, by omega, fun j hj => by omega, fun h => by omega, Below.refl _ _⟩
      case round =>
        obtain ⟨k, rfl, hk1, hkm, hlike, hag, hbi⟩ := hrel
        have hinv : RowsInv cb w0 #[.slice (some ⟨b, o, none⟩) m c] wr := ⟨HR.out.1.below hbi HR.out.1.lt, HR.out.2.2.2.2.2.2.trans (hbi.mono HR.out.2.2.2.2.2.2.size)⟩
        have hinvd : RowsInv cb w0 #[.slice (some ⟨b, o, none⟩) m c] wr.drew := ⟨hinv.1.drew, hinv.2.drew⟩
        have HL := Lib.hid (And.intro hlike (And.intro hag (And.intro hbi hinv))); clear hlike hag hbi hinv
        go_upto_region 2 with fail
        go_cut [26, 3] (fun s26 s3 wx => ∃ q : Bool, s26 = .bool q ∧ s3 = .int .i64 k ∧ RowsInv cb w0 #[.slice (some ⟨b, o, none⟩) m c] wx ∧ Below wr.heap.size wr wx ∧ (q = true → k < m ∧ again a = true ∧ r[k - 1]? = some a) ∧ (q = false → k = m ∨ again a = false ∨ ∃ b, r[k - 1]? = some b ∧ a ≠ b))
        case first =>
          by_cases hkl : k < m
          · obtain ⟨y, hy⟩ : ∃ y, r[k - 1]? = some y := ⟨_, List.getElem?_eq_getElem (by have := HM.out; simp at this; omega)⟩
            have hyr : (a :: r)[k]? = some y := by
              obtain ⟨k', rfl⟩ : ∃ k', k = k' + 1 := ⟨k - 1, by omega⟩
              simpa using hy
            obtain ⟨q, hq⟩ : ∃ q, q = again a := ⟨_, rfl⟩
            have HQ := Lib.hid hq; clear hq
            have hklI : (k : Int) < (m : Int) := by omega
            cases q with
            | false =>
              obtain ⟨cci, z0, z1, z2, z3, z4, z5, z6, z7, z8, z9, _⟩ := HS0.out wr HL.out.2.2.2
              first | (go_region_with (first
                | (go_at_call 11; refine (again_any a kA a.keep.length kc).mono ?_; rintro e w8 ⟨he, hb8⟩; rw [← HQ.out] at he; obtain rfl := he; have K8 : RowsInv cb w0 #[.slice (some ⟨b, o, none⟩) m c] w8 := RowsInv.call hinvd hb8; have M8 : Below wr.heap.size wr w8 := Below.trans (Below.refl _ _).drew hb8)))
                    | fail
              all_goals
                go_wp2_with fail
                go_meet
                exact ⟨false, rfl, rfl, K8, M8, fun h => (by cases h), fun _ => .inr (.inl HQ.out.symm)⟩
            | true =>
              obtain ⟨b2, o2, yA, yc, eb, hrowy, hyc⟩ := (HR.out.2.1).at_ hyr
              cases eb
              have HYR := Lib.hid hrowy; clear hrowy
              have hS1 : ∀ wx, RowsInv cb w0 #[.slice (some ⟨b, o, none⟩) m c] wx → (wx.cell? ⟨cb, 0, none⟩ = some (.slice (some ⟨b, o, none⟩) m c) ∧ wx.cell? ⟨b, o, none⟩ = some (.int .i64 a.kind) ∧ wx.cell? ⟨b, o + 1, none⟩ = some (.int .i64 a.client) ∧ wx.cell? ⟨b, o + 2, none⟩ = some (.int .i64 a.call.op) ∧ wx.cell? ⟨b, o + 3, none⟩ = some (.int .u64 a.call.key) ∧ wx.cell? ⟨b, o + 4, none⟩ = some (.int .u64 a.call.hi) ∧ wx.cell? ⟨b, o + 5, none⟩ = some (.int .i64 a.call.lim) ∧ wx.cell? ⟨b, o + 6, none⟩ = some (.string (mk a.call.val)) ∧ wx.cell? ⟨b, o + 7, none⟩ = some (.int .u64 a.at_) ∧ wx.cell? ⟨b, o + 8, none⟩ = some (.int .i64 a.n) ∧ wx.cell? ⟨b, o + 9, none⟩ = some (.slice kA a.keep.length kc) ∧ wx.cell? ⟨b, o + k * 10, none⟩ = some (.int .i64 y.kind) ∧ wx.cell? ⟨b, o + k * 10 + 1, none⟩ = some (.int .i64 y.client) ∧ wx.cell? ⟨b, o + k * 10 + 2, none⟩ = some (.int .i64 y.call.op) ∧ wx.cell? ⟨b, o + k * 10 + 3, none⟩ = some (.int .u64 y.call.key) ∧ wx.cell? ⟨b, o + k * 10 + 4, none⟩ = some (.int .u64 y.call.hi) ∧ wx.cell? ⟨b, o + k * 10 + 5, none⟩ = some (.int .i64 y.call.lim) ∧ wx.cell? ⟨b, o + k * 10 + 6, none⟩ = some (.string (mk y.call.val)) ∧ wx.cell? ⟨b, o + k * 10 + 7, none⟩ = some (.int .u64 y.at_) ∧ wx.cell? ⟨b, o + k * 10 + 8, none⟩ = some (.int .i64 y.n) ∧ wx.cell? ⟨b, o + k * 10 + 9, none⟩ = some (.slice yA y.keep.length yc) ∧ RowsInv cb w0 #[.slice (some ⟨b, o, none⟩) m c] wx) := fun wx hk => by
                obtain ⟨h0, h1, h2, h3, h4, h5, h6, h7, h8, h9, h10, hk'⟩ := HS0.out wx hk
                obtain ⟨g0, g1, g2, g3, g4, g5, g6, g7, g8, g9⟩ := hyc
                refine ⟨h0, h1, h2, h3, h4, h5, h6, h7, h8, h9, h10, ?_, ?_, ?_, ?_, ?_, ?_, ?_, ?_, ?_, ?_, hk⟩
                · rw [hk.2.cell (p := ⟨b, o + k * 10, none⟩) (lt_of_cell g0)]; exact g0
                · rw [hk.2.cell (p := ⟨b, o + k * 10 + 1, none⟩) (lt_of_cell g1)]; exact g1
                · rw [hk.2.cell (p := ⟨b, o + k * 10 + 2, none⟩) (lt_of_cell g2)]; exact g2
                · rw [hk.2.cell (p := ⟨b, o + k * 10 + 3, none⟩) (lt_of_cell g3)]; exact g3
                · rw [hk.2.cell (p := ⟨b, o + k * 10 + 4, none⟩) (lt_of_cell g4)]; exact g4
                · rw [hk.2.cell (p := ⟨b, o + k * 10 + 5, none⟩) (lt_of_cell g5)]; exact g5
                · rw [hk.2.cell (p := ⟨b, o + k * 10 + 6, none⟩) (lt_of_cell g6)]; exact g6
                · rw [hk.2.cell (p := ⟨b, o + k * 10 + 7, none⟩) (lt_of_cell g7)]; exact g7
                · rw [hk.2.cell (p := ⟨b, o + k * 10 + 8, none⟩) (lt_of_cell g8)]; exact g8
                · rw [hk.2.cell (p := ⟨b, o + k * 10 + 9, none⟩) (lt_of_cell g9)]; exact g9
              have HS1 := Lib.hid hS1; clear hS1 hyc
              obtain ⟨s, hs⟩ : ∃ s, s = decide (a = y) := ⟨_, rfl⟩
              have HSM := Lib.hid hs
              have HLK := Lib.hid (show a.keep.length ≤ 1000000000 ∧ y.keep.length ≤ 1000000000 from ⟨by have := HI.out.2.2.2.2.2 a (HR.out.2.2.2.2.1 a (by simp)); omega, by have := HI.out.2.2.2.2.2 y (HR.out.2.2.2.2.1 y (List.mem_of_getElem? hyr)); omega⟩)
              clear hs
              go_region_held3 (fun wx => wx.cell? ⟨cb, 0, none⟩ = some (.slice (some ⟨b, o, none⟩) m c) ∧ wx.cell? ⟨b, o, none⟩ = some (.int .i64 a.kind) ∧ wx.cell? ⟨b, o + 1, none⟩ = some (.int .i64 a.client) ∧ wx.cell? ⟨b, o + 2, none⟩ = some (.int .i64 a.call.op) ∧ wx.cell? ⟨b, o + 3, none⟩ = some (.int .u64 a.call.key) ∧ wx.cell? ⟨b, o + 4, none⟩ = some (.int .u64 a.call.hi) ∧ wx.cell? ⟨b, o + 5, none⟩ = some (.int .i64 a.call.lim) ∧ wx.cell? ⟨b, o + 6, none⟩ = some (.string (mk a.call.val)) ∧ wx.cell? ⟨b, o + 7, none⟩ = some (.int .u64 a.at_) ∧ wx.cell? ⟨b, o + 8, none⟩ = some (.int .i64 a.n) ∧ wx.cell? ⟨b, o + 9, none⟩ = some (.slice kA a.keep.length kc) ∧ wx.cell? ⟨b, o + k * 10, none⟩ = some (.int .i64 y.kind) ∧ wx.cell? ⟨b, o + k * 10 + 1, none⟩ = some (.int .i64 y.client) ∧ wx.cell? ⟨b, o + k * 10 + 2, none⟩ = some (.int .i64 y.call.op) ∧ wx.cell? ⟨b, o + k * 10 + 3, none⟩ = some (.int .u64 y.call.key) ∧ wx.cell? ⟨b, o + k * 10 + 4, none⟩ = some (.int .u64 y.call.hi) ∧ wx.cell? ⟨b, o + k * 10 + 5, none⟩ = some (.int .i64 y.call.lim) ∧ wx.cell? ⟨b, o + k * 10 + 6, none⟩ = some (.string (mk y.call.val)) ∧ wx.cell? ⟨b, o + k * 10 + 7, none⟩ = some (.int .u64 y.at_) ∧ wx.cell? ⟨b, o + k * 10 + 8, none⟩ = some (.int .i64 y.n) ∧ wx.cell? ⟨b, o + k * 10 + 9, none⟩ = some (.slice yA y.keep.length yc) ∧ RowsInv cb w0 #[.slice (some ⟨b, o, none⟩) m c] wx)
                (first | exact HS1.out _ (by assumption))
                (first
                  | (go_at_call 11; refine (again_any a kA a.keep.length kc).mono ?_; rintro e w8 ⟨he, hb8⟩; rw [← HQ.out] at he; obtain rfl := he; have K8 : RowsInv cb w0 #[.slice (some ⟨b, o, none⟩) m c] w8 := RowsInv.call (by assumption) hb8; have M8 : Below wr.heap.size wr w8 := Below.trans (Below.refl _ _).drew hb8)
                  | (go_at_call 12; refine (same_any a y _ _ (HR0.out.next K8.2) (HYR.out.next K8.2) HLK.out.1 HLK.out.2).mono ?_; rintro e w9 ⟨he, hb9⟩; rw [← HSM.out] at he; obtain rfl := he; have K9 : RowsInv cb w0 #[.slice (some ⟨b, o, none⟩) m c] w9 := RowsInv.call (by assumption) hb9; have M9 : Below wr.heap.size wr w9 := M8.trans (hb9.mono M8.size)))
              go_wp2_with fail
              go_meet
              refine ⟨s, rfl, rfl, K9, M9, fun h => ⟨hkl, HQ.out.symm, ?_⟩, fun h => .inr (.inr ⟨y, hy, ?_⟩)⟩
              · rw [hy]; have := HSM.out; rw [h] at this; rw [of_decide_eq_true this.symm]
              · have := HSM.out; rw [h] at this; exact of_decide_eq_false this.symm
          · obtain rfl : k = m := by omega
            obtain ⟨cci, _⟩ := HS0.out wr HL.out.2.2.2
            go_quiet (fail)
            go_wp2_with fail
            go_meet
            exact ⟨false, rfl, rfl, ⟨HL.out.2.2.2.1.drewN _, Below.drewK HL.out.2.2.2.2 _⟩, Below.drewK (Below.refl _ _) _, fun h => (by cases h), fun _ => .inl (by trivial)⟩
        case rest =>
          obtain ⟨q, rfl, rfl, hcI, hcB, hct, hcf⟩ := hcut
          have HC := Lib.hid (And.intro hcI (And.intro hcB (And.intro hct hcf))); clear hcI hcB hct hcf
          cases q with
          | true =>
            obtain ⟨g1, g2, g3⟩ := HC.out.2.2.1 rfl
            have HG := Lib.hid (And.intro g2 g3); clear g2 g3
            go_wp2_with fail
            go_roundw
            case rel =>
              refine ⟨k + 1, by go_num, by omega, by omega, fun j hj => ?_, fun _ => HG.out.1, HL.out.2.2.1.trans (HC.out.2.1.mono HL.out.2.2.1.size)⟩
              by_cases hj2 : j + 1 < k
              · exact HL.out.1 j hj2
              · obtain rfl : j = k - 1 := by omega
                exact HG.out.2
            case measure => simp [RowKit.intOf]; omega
          | false =>
            have hrun : runLen a r = k - 1 := by
              have hm' := HM.out
              simp at hm'
              refine runLen_stop (fun j hj => HL.out.1 j (by omega)) (by omega) (fun h => HL.out.2.1 (by omega)) ?_
              rcases HC.out.2.2.2 rfl with h1 | h1 | h1
              · exact .inl (by omega)
              · exact .inr (.inl h1)
              · exact .inr (.inr h1)
            have HRUN := Lib.hid hrun; clear hrun
            have hmem : a ∈ acts := HR.out.2.2.2.2.1 a (by simp)
            have hlen : pre.length < acts.length := by
              have h1 := HR.out.2.2.2.1
              have h2 := rowsL_length _ acts (Nat.le_refl _)
              rw [← h1, rowsL_cons] at h2
              simp at h2; omega
            have hkA : k ≤ acts.length := by have := HR.out.2.2.2.2.2.1; omega
            obtain ⟨x, hx⟩ : ∃ x : RowX w0 acts, x.1 = (a, .slice kA a.keep.length kc, (k : Int)) := ⟨⟨(a, .slice kA a.keep.length kc, (k : Int)), HR0.out, hmem, by simp only; omega, by simp only; omega⟩, rfl⟩
            have hjc : J pre wc := HI.out.2.1 pre wo wc none HR.out.2.2.1 (Below.grown0 (HL.out.2.2.1.trans (HC.out.2.1.mono HL.out.2.2.1.size))) (fun r e => by cases e)
            obtain ⟨fn, tmps, assign, body, hy, hR⟩ := HY.out pre x wc hjc hlen
            rw [hx] at hy
            dsimp only [acC] at hy
            have HX := Lib.hid hx; clear hx hjc hlen
            obtain ⟨cci, z0, z1, z2, z3, z4, z5, z6, z7, z8, z9, _⟩ := HS0.out wc HC.out.1
            go_upto_region 4 with fail
            refine (wpIn_wide (n := n)).1 ?_
            gi_wp2
            refine ⟨fun h => (by cases h), hR.mono ?_⟩
            clear hR hy cci z0 z1 z2 z3 z4 z5 z6 z7 z8 z9
            rintro e W' (⟨rfl, hJ2, hk2⟩ | ⟨rfl, hJx2⟩)
            · have hb2 : Blk W' cb 23 #[.slice (some ⟨b, o, none⟩) m c] := hk2.2.trans HC.out.1.1
              have ccW : W'.cell? ⟨cb, 0, none⟩ = some (.slice (some ⟨b, o, none⟩) m c) := hb2.cell 0
              have czW := hb2.frozen 0
              have hbW2 : Below w0.heap.size w0 W' := HC.out.1.2.trans hk2.1
              have hkl1 : (k : Int) ≤ (m : Int) := by omega
              have hk0 : (0 : Int) ≤ (k : Int) := by omega
              obtain ⟨A3, hA3⟩ : ∃ A3, (if c = k then some (⟨b, o, none⟩ : Addr) else some ⟨b, o + k * 10, none⟩) = A3 := ⟨_, rfl⟩
              obtain ⟨c3, hc3⟩ : ∃ c3, c - k = c3 := ⟨_, rfl⟩
              obtain ⟨m3, hm3⟩ : ∃ m3, m - k = m3 := ⟨_, rfl⟩
              have H2 := Lib.hid (And.intro hJ2 (And.intro hb2 (And.intro hbW2 (And.intro hm3 (And.intro hA3 hc3))))); clear hJ2 hk2 hb2 hbW2
              gi_wp2
              go_wp2_with fail
              go_roundw
              case rel =>
                have hk1' : runLen a r + 1 = k := by have := HRUN.out; omega
                have hd := drop_acts (k := k) (by have := HR.out.2.1; rw [HM.out] at this; exact this) (by have := HM.out; omega)
                rw [H2.out.2.2.2.2.1, H2.out.2.2.2.2.2, ← HM.out, H2.out.2.2.2.1] at hd
                have hdr : (a :: r).drop k = r.drop (runLen a r) := by rw [← hk1']; rfl
                have hlen3 : (r.drop (runLen a r)).length = m3 := by have h1 := H2.out.2.2.2.1; have h2 := HM.out; simp at h2 ⊢; omega
                rw [hdr] at hd
                refine ⟨pre ++ [x], r.drop (runLen a r), A3, c3, ?_, ?_, ?_, ?_, ?_, ?_, ?_⟩
                · rw [hlen3]; exact H2.out.2.1.set_ 0 _
                · rw [hlen3]; exact hd
                · exact HI.out.2.1 _ _ _ (some cb) H2.out.1 (grownBy_setCell' _ _ _) (fun r e => by cases e; exact ⟨rfl, _, H2.out.2.1.set_ 0 _⟩)
                · have h1 := HR.out.2.2.2.1
                  rw [rowsL_cons, hk1'] at h1
                  rw [← h1, List.map_append, List.append_assoc]
                  simp [rowE, HX.out]
                · exact fun b hb => HR.out.2.2.2.2.1 b (List.mem_cons_of_mem _ (List.mem_of_mem_drop hb))
                · have h1 := HR.out.2.2.2.2.2.1; have h2 := HM.out; simp at h2 ⊢; omega
                · exact H2.out.2.2.1.setCell (p := ⟨cb, 0, none⟩) hlt _
              case measure =>
                have h1 : leftR cb wo = m := by unfold leftR; rw [show wo.cell? ⟨cb, 0, none⟩ = _ from HR.out.1.cell 0]; rfl
                have h2 : leftR cb (W'.setCell ⟨cb, 0, none⟩ (.slice A3 m3 c3)) = m3 := by unfold leftR; rw [show (W'.setCell ⟨cb, 0, none⟩ (.slice A3 m3 c3)).cell? ⟨cb, 0, none⟩ = _ from (H2.out.2.1.set_ 0 (.slice A3 m3 c3)).cell 0]; rfl
                rw [h1, h2]; have := H2.out.2.2.2.1; omega
            · gi_wp2
              go_wp2_with fail
              refine bodyPost_ret (results_none rfl _ _ _) rfl ?_
              exact ⟨⟨_, rfl⟩, .inr ⟨pre ++ [x], trivial, hJx2⟩⟩

end Go.Proofs.YtnnahodajiolmaaGreatDoor.sc

namespace Go.Proofs.YtnnahodajiolmaaGreatDoor.sc
open Go.RowKit
set_option linter.unusedVariables false
attribute [local go_sem] Oper.semAt_some

theorem bWrite_any (B b : Nat) (bs : List Value) (s : ByteArray) (w : World) (h : Lib.IsBuilderF 108 5 B b bs w) (hlen : bs.length + s.size ≤ 140737488355328) (hBw : B ≤ w.heap.size) :
    Calls Tryz.prog 40 #[.pointer (some ⟨b, 0, none⟩), .string s] w fun e w' => e = .returned (.tuple #[.int .i64 s.size, .nilIface]) ∧ (Lib.BuilderAtF 108 5 B b (.pointer (some ⟨b, 0, none⟩)) (bs ++ Lib.strCells s) w' ∧ Below B w w' ∧ Lib.OthersKept 5 (some b) w w') :=
  Any.Builder_WriteString_k (ρ := Tryz.lays156_ren) { Tryz.lays156 with } Tryz.Builder_Extra_156 B b bs s w h hlen hBw

set_option maxRecDepth 100000 in
theorem rows_any {w : World} (l : List Ac) (v : Value) (h : ActsR w v l) :
    Calls Tryz.prog 41 #[v] w fun e w' => e = .returned (.func (.func 70) #[] #[.pointer (some ⟨w.heap.size, 0, none⟩)]) ∧ w' = w.alloc (.cells #[v] 23) := by
  have hmf : ∀ (fn : Fn) (first cap : Array Value) (w : World), (Instr.makeFunc fn first cap).run Tryz.prog w = .ok (.func fn first cap) w := fun _ _ _ _ => rfl
  obtain ⟨A, c, rfl⟩ := h.len
  clear h
  go_enter Tryz.func41, Tryz.ntmps41
  go_wp2_with fail
  go_ret
  exact ⟨rfl, rfl⟩

/-! ### The text, in plain words -/
def headL (s : Sc) : Bs := joinB [sLevee, num s.slabs, num s.clients] ++ [10]
def bodyL (l : List (Ac × Int)) : Bs := l.flatMap fun p => lineL p.1 p.2 ++ [10]
def textL (s : Sc) : Bs := headL s ++ bodyL (rowsL s.acts)

theorem headJ_len (a b : Int) (ha : I64 a) (hb : I64 b) : (joinB [sLevee, num a, num b]).length ≤ 66 := by
  have h1 := num_le a ha.1 (by have := ha.2; omega)
  have h2 := num_le b hb.1 (by have := hb.2; omega)
  exact Nat.le_trans (joinB_le _ 21 (by
    intro x hx
    simp only [List.mem_cons, List.not_mem_nil, or_false] at hx
    rcases hx with rfl | rfl | rfl
    · decide
    · exact h1
    · exact h2)) (by simp)
theorem KpR.trans {n0 cb : Nat} {A B C : World} (h : KpR n0 cb A B) (k : KpR n0 cb B C) : KpR n0 cb A C := ⟨h.1.trans k.1, k.2.trans h.2⟩
theorem KpR.put {n0 cb l : Nat} {W : World} (h1 : n0 ≤ l) (h2 : cb ≠ l) (o : Obj) : KpR n0 cb W (W.putObj l o) :=
  ⟨⟨rfl, rfl, rfl, by simp, fun k hk => World.putObj_heap_other (by omega)⟩, World.putObj_heap_other h2⟩
theorem headL_ne (s : Sc) (l : Bs) : headL s ++ l ≠ [] := by simp [headL]
theorem mayS_acts {s : Sc} (h : mayS s = true) : ∀ a ∈ s.acts, may a = true := by
  unfold mayS at h
  simp only [Bool.and_eq_true, Bool.not_eq_true', List.any_eq_false] at h
  intro a ha
  have := h.2 a ha
  simpa using this
theorem may_kinds {a : Ac} (h : may a = true) : 1 ≤ a.kind ∧ a.kind ≤ 7 ∧ (a.kind = 1 → 1 ≤ a.call.op ∧ a.call.op ≤ 4) := by
  unfold may at h
  split at h
  · cases h
  · rename_i h'; omega
def TextPost (w : World) (s : Sc) (e : Ending) (w' : World) : Prop :=
  Below w.heap.size w w' ∧ e = .returned (if mayS s then .tuple #[.string (mk (textL s)), .int .i64 0] else .tuple #[.string ⟨#[]⟩, .int .i64 2])
theorem res_text {X : World} {tmps : Array Value} {a b : Value} (h2 : tmps[2]? = some a) (h3 : tmps[3]? = some b) : (results Tryz.f16 tmps).run Tryz.prog X = .ok (.tuple #[a, b]) X := by
  simp [results, Tryz.results16, go_sem, h2, h3]
theorem strCells_mk (l : Bs) : Lib.strCells (mk l) = Lib.byteCells l := by simp [Lib.strCells, Lib.byteCells]
theorem byteCells_append (a b : Bs) : Lib.byteCells (a ++ b) = Lib.byteCells a ++ Lib.byteCells b := by simp [Lib.byteCells]

/-- Between two rounds: what is written, and all below as it was. -/
def TextI (w : World) (gb cb : Nat) (l : Bs) (W : World) : Prop :=
  Lib.IsBuilderF 108 5 gb gb (Lib.byteCells l) W ∧ Below w.heap.size w W ∧ ∃ cs, Blk W cb 23 cs
theorem builder_kept {W W' : World} {gb : Nat} {bs : List Value} (h : Lib.IsBuilderF 108 5 gb gb bs W) (hg : ∀ k o, W.heap[k]? = some o → (k = gb ∨ ∃ c fz, o = .cells c 5 fz) → W'.heap[k]? = some o) : Lib.IsBuilderF 108 5 gb gb bs W' := by
  have one : ∀ p, Lib.BuilderAtF 108 5 gb gb p bs W → Lib.BuilderAtF 108 5 gb gb p bs W' := by
    rintro p ⟨h1, v, h2, h3, h4⟩
    refine ⟨h1, v, hg _ _ h2 (.inl rfl), ⟨h3.1, ?_⟩, h4⟩
    rcases h3.2 with h5 | ⟨g, cap, cur, fz, e1, e2, e3, e4⟩
    · exact .inl h5
    · exact .inr ⟨g, cap, cur, fz, e1, e2, hg _ _ e3 (.inr ⟨cur, fz, rfl⟩), e4⟩
  rcases h with h | h
  · exact .inl (one _ h)
  · exact .inr (one _ h)
theorem textI_abd {w : World} {gb cb B : Nat} (hgb : w.heap.size ≤ gb) (hcb : gb < cb) (hB : cb < B) (l : Bs) : Abd 23 cb B (TextI w gb cb l) := by
  rintro W W' row ⟨h1, h2, cs, h3⟩ hg hr
  have keepc : ∀ k o, W.heap[k]? = some o → k ≠ cb → o.isCells = true → W'.heap[k]? = some o := by
    intro k o hk hne ho
    rw [hg.block k (Array.getElem?_eq_some_iff.1 hk).1 ?_]; exact hk
    intro e
    rcases hr k e.symm with ⟨rfl, _⟩ | ⟨_, o', ho', hc⟩
    · exact hne rfl
    · rw [hk] at ho'; cases ho'; rw [ho] at hc; cases hc
  refine ⟨builder_kept h1 fun k o hk ho => keepc k o hk ?_ ?_, ?_, ?_⟩
  · rintro rfl
    rcases ho with rfl | ⟨c, fz, rfl⟩
    · omega
    · have : W.heap[k]? = some (.cells cs 23 (0, 0)) := h3
      rw [this] at hk; cases hk
  · rcases ho with rfl | ⟨c, fz, rfl⟩
    · rcases h1 with ⟨_, v, hv, _⟩ | ⟨_, v, hv, _⟩ <;> (rw [hv] at hk; cases hk; rfl)
    · rfl
  · exact h2.grown hg h2.size fun k e => by
      rcases hr k e with ⟨rfl, _⟩ | ⟨hb, _⟩ <;> omega
  · by_cases hc : row = some cb
    · rcases hr cb hc with ⟨_, h⟩ | ⟨hb, _⟩
      · exact h
      · omega
    · exact ⟨cs, (hg.block cb h3.lt (fun e => hc e.symm)).trans h3⟩

theorem body_len {w0 : World} {acts : List Ac} (hLn : ∀ a ∈ acts, ∀ n : Int, 1 ≤ n → n ≤ 1000000 → (lineL a n).length ≤ 10000000) (hN : acts.length ≤ 1000000) : ∀ pre : List (RowX w0 acts), (bodyL (pre.map rowE)).length ≤ pre.length * 10000001
  | [] => by simp [bodyL]
  | x :: r => by
    have h1 := body_len hLn hN r
    have h2 := hLn x.1.1 x.2.2.1 x.1.2.2 x.2.2.2.1 (by have := x.2.2.2.2; omega)
    simp only [List.map_cons, bodyL, List.flatMap_cons, List.length_append, List.length_cons, List.length_nil, rowE] at h1 ⊢
    rw [Nat.add_mul]; omega
theorem W3size {w W : World} {gb cb : Nat} {l : Bs} (h : TextI w gb cb l W) : cb < W.heap.size := by
  obtain ⟨cs, hcs⟩ := h.2.2
  exact hcs.lt

set_option maxHeartbeats 4000000 in
set_option maxRecDepth 100000 in
theorem text_any {w : World} (s : Sc) (v : Value) (h : ActsR w v s.acts) (O : AcsOk s.acts) (hN : s.acts.length ≤ 1000000) (hLn : ∀ a ∈ s.acts, ∀ n : Int, 1 ≤ n → n ≤ 1000000 → (lineL a n).length ≤ 10000000) (hs : I64 s.slabs ∧ I64 s.clients) (E : Env w) :
    Calls Tryz.prog 16 #[.agg (scC s v)] w (TextPost w s) := by
  have HO := Lib.hid (And.intro h (And.intro O (And.intro hN (And.intro hLn (And.intro hs E)))))
  obtain ⟨A, c, rfl⟩ := h.len
  clear h O hN hLn hs E
  obtain ⟨slabs, clients, acts⟩ := s
  dsimp only at HO
  obtain ⟨q, hq⟩ : ∃ q, q = mayS ⟨slabs, clients, acts⟩ := ⟨_, rfl⟩
  have HQ := Lib.hid hq; clear hq
  obtain ⟨m, hm⟩ : ∃ m, m = acts.length := ⟨_, rfl⟩
  have HM := Lib.hid hm
  obtain ⟨W, hW⟩ : ∃ W, W = w.alloc (.cells #[.int .i64 slabs, .int .i64 clients, .slice A m c] 25) := ⟨_, rfl⟩
  have HB := Lib.hid (And.intro (show Blk W w.heap.size 25 #[.int .i64 slabs, .int .i64 clients, .slice A m c] by rw [hW]; exact Blk.new _ _ _) (show Below w.heap.size w W by rw [hW]; exact (Below.refl _ _).alloc (Nat.le_refl _) _))
  have d0 : W.cell? ⟨w.heap.size, 0, none⟩ = some (.int .i64 slabs) := HB.out.1.cell 0
  have d1 : W.cell? ⟨w.heap.size, 1, none⟩ = some (.int .i64 clients) := HB.out.1.cell 1
  have d2 : W.cell? ⟨w.heap.size, 2, none⟩ = some (.slice A m c) := HB.out.1.cell 2
  unfold scC
  dsimp only
  rw [← hm]
  clear hm
  refine (callsIn_wide (n := 5)).1 ?_
  refine callsIn_of_wp_marks Tryz.func16 rfl trivial ?_
  simp only [Tryz.ntmps16, List.size_toArray, List.length_cons, List.length_nil, Nat.reduceAdd, Nat.reduceSub, Array.replicate_succ, Array.replicate_zero, List.push_toArray, List.append_toArray, List.nil_append, List.cons_append]
  refine wpIn_wide.2 ?_
  go_upto_region 1 with fail
  rw [← hW]
  clear hW
  go_wp2_with fail
  refine (mayS_any ⟨slabs, clients, acts⟩ (.slice A m c) (by rw [HM.out]; exact HO.out.1.next HB.out.2) HO.out.2.1 HO.out.2.2.1 (HO.out.2.2.2.2.2.next HB.out.2)).mono ?_; rintro e w1 ⟨he, hb1⟩
  rw [← HQ.out] at he
  obtain rfl := he
  have HB1 := Lib.hid (And.intro (HB.out.1.below hb1 HB.out.1.lt) (HB.out.2.trans (hb1.mono HB.out.2.size)))
  clear hb1 d0 d1 d2
  cases q with
  | false =>
    go_wp2_with fail
    refine ⟨_, res_text rfl rfl, HB1.out.2, ?_⟩
    rw [← HQ.out]; rfl
  | true =>
    go_upto_region 4 with fail
    obtain ⟨X, hX⟩ : ∃ X, X = w1.alloc (.cells #[.pointer none, .slice none 0 0] 108) := ⟨_, rfl⟩
    have HX := Lib.hid (And.intro (show Blk X w1.heap.size 108 #[.pointer none, .slice none 0 0] by rw [hX]; exact Blk.new _ _ _) (And.intro (show Blk X w.heap.size 25 #[.int .i64 slabs, .int .i64 clients, .slice A m c] by rw [hX]; exact HB1.out.1.alloc _) (And.intro (show Below w.heap.size w X by rw [hX]; exact HB1.out.2.alloc HB1.out.2.size _) (show w.heap.size < w1.heap.size from HB1.out.1.lt))))
    rw [← hX]
    clear hX
    have hS : ∀ wx, Below w1.heap.size X wx → (wx.cell? ⟨w.heap.size, 0, none⟩ = some (.int .i64 slabs) ∧ wx.cell? ⟨w.heap.size, 1, none⟩ = some (.int .i64 clients) ∧ Below w1.heap.size X wx) := fun wx hk =>
      ⟨(HX.out.2.1.below hk HX.out.2.2.2).cell 0, (HX.out.2.1.below hk HX.out.2.2.2).cell 1, hk⟩
    have HS := Lib.hid hS; clear hS
    have EX := Lib.hid (HO.out.2.2.2.2.2.next HX.out.2.2.1)
    have hx0 : Below X.heap.size X X.drew := (Below.refl _ _).drew
    have hk0 : Below w1.heap.size X X.drew := (Below.refl _ _).drew
    have hbx := HX.out.1.drew
    have hgx : w1.heap.size ≤ X.heap.size := Nat.le_of_lt HX.out.1.lt
    have HGX := Lib.hid hgx; clear hgx
    have HSC := Lib.hid (show (-9223372036854775808 ≤ slabs ∧ slabs ≤ 9223372036854775807) ∧ -9223372036854775808 ≤ clients ∧ clients ≤ 9223372036854775807 from HO.out.2.2.2.2.1)
    have hj := headJ_len slabs clients HO.out.2.2.2.2.1.1 HO.out.2.2.2.2.1.2
    have HJ := Lib.hid hj; clear hj
    have hcat : ¬ 9223372036854775807 < (joinB [sLevee, num slabs, num clients]).length + 1 := by have := HJ.out; omega
    go_region_held3 (fun wx => wx.cell? ⟨w.heap.size, 0, none⟩ = some (.int .i64 slabs) ∧ wx.cell? ⟨w.heap.size, 1, none⟩ = some (.int .i64 clients) ∧ Below w1.heap.size X wx)
      (first | exact HS.out _ (by assumption) | exact HS.out _ (Below.alloc (by assumption) (Below.size (by assumption)) _) | exact HS.out _ (K9.alloc (Nat.le_trans HGX.out X9.size) _))
      (first
        | (go_at_call 32; with_reducible refine (numInt_any slabs HSC.out.1.1 HSC.out.1.2 (EX.out.next hx0)).mono ?_; rintro e w8 ⟨rfl, hb8⟩
           have X8 : Below X.heap.size X w8 := hx0.trans hb8
           have K8 : Below w1.heap.size X w8 := X8.mono HGX.out
           have B8 := hbx.below hb8 hbx.lt)
        | (go_at_call 32; with_reducible refine (numInt_any clients HSC.out.2.1 HSC.out.2.2 (EX.out.next X8)).mono ?_; rintro e w9 ⟨rfl, hb9⟩
           have X9 : Below X.heap.size X w9 := X8.trans (hb9.mono X8.size)
           have K9 : Below w1.heap.size X w9 := X9.mono HGX.out
           have B9 := B8.below hb9 B8.lt)
        | (go_at_call 38; refine (join_any (l := [sLevee, num slabs, num clients]) (lit_strs w9 [sLevee, num slabs, num clients] (by simp)) (by simp) (by have := HJ.out; omega)).mono ?_; rintro e w10 ⟨rfl, hb10⟩
           have X10 : Below X.heap.size X w10 := (X9.alloc X9.size _).trans (hb10.mono (Nat.le_trans X9.size (by simp)))
           have K10 : Below w1.heap.size X w10 := X10.mono HGX.out
           have B10 := (B9.alloc _).below hb10 (B9.alloc _).lt)
        | (go_at_call 40; refine (bWrite_any w1.heap.size w1.heap.size [] (mk (joinB [sLevee, num slabs, num clients]) ++ mk [10]) w10 (.inl ⟨Nat.le_refl _, _, B10, World.ownsRowF_nil _ _ _ _, by simp [Value.ownBlock]⟩) (by rw [mk_append, mk_size]; have := HJ.out; simp; omega) (Nat.le_trans HGX.out X10.size)).mono ?_; rintro e w11 ⟨rfl, hB11, hb11, ho11⟩
           have K11 : Below w1.heap.size X w11 := K10.trans hb11))
    have hI11 : Lib.IsBuilderF 108 5 w1.heap.size w1.heap.size (Lib.byteCells (headL ⟨slabs, clients, acts⟩)) w11 := by
      have e : ([] ++ Lib.strCells (mk (joinB [sLevee, num slabs, num clients]) ++ mk [10])) = Lib.byteCells (headL ⟨slabs, clients, acts⟩) := by rw [mk_append, strCells_mk, List.nil_append]; rfl
      rw [e] at hB11; exact .inr hB11
    have H11 := Lib.hid (And.intro hI11 (And.intro (HX.out.2.1.below K11 HX.out.2.2.2) (HX.out.2.2.1.trans (K11.mono (Nat.le_of_lt HX.out.2.2.2)))))
    clear hI11 hB11 hb11 ho11 K11 K10 B10 X10 hb10 B9 K9 X9 hb9 B8 K8 X8 hb8 hcat hbx hk0 hx0
    have d2 : w11.cell? ⟨w.heap.size, 2, none⟩ = some (.slice A m c) := H11.out.2.1.cell 2
    go_wp2_with fail
    refine (rows_any acts (.slice A m c) (by rw [HM.out]; exact HO.out.1.next H11.out.2.2)).mono ?_; rintro e w12 ⟨rfl, hw12⟩
    have H12 := Lib.hid (show TextI w w1.heap.size w11.heap.size (headL ⟨slabs, clients, acts⟩ ++ bodyL []) w12 ∧ Blk w12 w11.heap.size 23 #[.slice A m c] ∧ w1.heap.size < w11.heap.size ∧ w12.heap.size = w11.heap.size + 1 from by
      have hb : Blk w12 w11.heap.size 23 #[.slice A m c] := by rw [hw12]; exact Blk.new _ _ _
      refine ⟨⟨?_, by rw [hw12]; exact H11.out.2.2.alloc H11.out.2.2.size _, _, hb⟩, hb, ?_, by rw [hw12]; simp⟩
      · rw [hw12, show headL ⟨slabs, clients, acts⟩ ++ bodyL [] = headL ⟨slabs, clients, acts⟩ by simp [bodyL]]; exact H11.out.1.alloc _
      · rcases H11.out.1 with h | h <;> exact h.lt)
    clear hw12 d2
    go_wp2_with fail
    refine (wpIn_wide (n := 5)).1 ?_
    refine wpIn_range_c (F := Fence.wide) (n := 5) rfl (by omega) (gf := 70) (lb := #[.pointer (some ⟨w11.heap.size, 0, none⟩)]) rfl trivial (enters_of Tryz.func70 (by kernel_rfl) rfl)
      (T := 23) (cb := w11.heap.size) (by have := H12.out.2.2.2; omega)
      (rowsFn_seq (w0 := w) (w := w12) acts (.slice A m c) w11.heap.size 4 (by rw [HM.out]; exact HO.out.1) HO.out.2.2.1 (fun a ha => by have := (HO.out.2.1 a ha).1.few; omega) H12.out.2.1 H12.out.1.2.1 H11.out.2.2.size)
      (fun h k => KpR.trans h k) (fun W l o' hl => KpR.put (by have := H12.out.2.2.2; have := H11.out.2.2.size; omega) (by have := H12.out.2.2.2; omega) o') (fun x => rfl)
      (fun pre W => TextI w w1.heap.size w11.heap.size (headL ⟨slabs, clients, acts⟩ ++ bodyL (pre.map rowE)) W) (fun _ _ => False)
      (fun pre => textI_abd (by have := HX.out.2.2.2; omega) H12.out.2.2.1 (by have := H12.out.2.2.2; omega) _) (fun _ _ _ _ h _ _ => h) H12.out.1
      (fun pre x a' W => TextI w w1.heap.size w11.heap.size (headL ⟨slabs, clients, acts⟩ ++ bodyL (pre.map rowE)) W ∧ ∃ bx, w12.heap.size ≤ bx ∧ Blk W bx 40 (acC x.1.1 x.1.2.1) ∧ a' = { tmps := #[.agg #[.int .i64 slabs, .int .i64 clients, .slice A m c], .pointer (some ⟨w.heap.size, 0, none⟩), .string ⟨#[]⟩, .int .i64 0, .pointer (some ⟨w1.heap.size, 0, none⟩), .pointer (some ⟨bx, 0, none⟩), .int .i64 x.1.2.2, .agg #[.int .i64 slabs, .int .i64 clients, .slice A m c], .bool true, .bool false, .pointer (some ⟨w.heap.size, 0, none⟩), .int .i64 slabs, .string (mk (num slabs)), .pointer (some ⟨w.heap.size, 1, none⟩), .int .i64 clients, .string (mk (num clients)), .slice (some ⟨w9.heap.size, 0, none⟩) 3 3, .string (mk (joinB [sLevee, num slabs, num clients])), .string (mk (joinB [sLevee, num slabs, num clients]) ++ ⟨#[10]⟩), .tuple #[.int .i64 (((joinB [sLevee, num slabs, num clients]).length : Int) + 1), .nilIface], .pointer (some ⟨w.heap.size, 2, none⟩), .slice A m c, .func (.func 70) #[] #[.pointer (some ⟨w11.heap.size, 0, none⟩)], .agg (acC x.1.1 x.1.2.1), .int .i64 x.1.2.2, undef, undef, undef, undef, undef, undef, undef], defers := [] })
      (fun pre x a' => ?abd) ?assign ?body ?done (fun _ _ _ _ _ h _ => h.elim)
    case abd =>
      rintro W W' row ⟨h1, bx, h2, h3, rfl⟩ hg hr
      refine ⟨textI_abd (by have := HX.out.2.2.2; omega) H12.out.2.2.1 (show w11.heap.size < w12.heap.size by have := H12.out.2.2.2; omega) _ W W' row h1 hg hr, bx, h2, ?_, rfl⟩
      refine (hg.block bx h3.lt ?_).trans h3
      intro e
      rcases hr bx e.symm with ⟨h4, _⟩ | ⟨_, o', ho', hc⟩
      · have := H12.out.2.2.2; omega
      · have h5 : W.heap[bx]? = _ := h3
        rw [h5] at ho'; cases ho'; cases hc
    case assign =>
      rintro l pre ⟨⟨⟨kind, client, ⟨op, key, hi, lim, val⟩, at_, an, keep⟩, kv, n⟩, hrow, hmem, hn1, hn2⟩ W3 K hI hlen hK
      obtain ⟨kA, kc, hkv⟩ := hrow.len
      dsimp only at hkv hrow hn1 hn2
      subst hkv
      dsimp only [acC]
      gi_wp2
      have hab := textI_abd (B := w12.heap.size) (show w.heap.size ≤ w1.heap.size by have := HX.out.2.2.2; omega) H12.out.2.2.1 (show w11.heap.size < w12.heap.size by have := H12.out.2.2.2; omega) (headL ⟨slabs, clients, acts⟩ ++ bodyL (pre.map rowE))
      have hsz := W3size hI
      obtain ⟨cs, hcs⟩ := hI.2.2
      exact hK _ _ ((KeepsOthers.alloc _ _).from _) ⟨(Below.refl _ _).alloc hI.2.1.size _, (hcs.alloc _).trans hcs.symm⟩ ⟨hab.alloc _ hI, W3.heap.size, by have := H12.out.2.2.2; omega, Blk.new _ _ _, rfl⟩
    case body =>
      rintro l pre x a' W3 ⟨hI, bx, hbx, hblk, rfl⟩ hlen
      obtain ⟨kA, kc, hkv⟩ := x.2.1.len
      rw [hkv] at hblk
      obtain ⟨d0, d1, d2, d3, d4, d5, d6, d7, d8, d9⟩ := acCells hblk
      have hrow := x.2.1
      rw [hkv] at hrow
      have HW := Lib.hid (And.intro hrow (And.intro x.2.2 (And.intro hI (And.intro hlen hblk))))
      clear hrow hI hlen hblk
      have HOA := Lib.hid (HO.out.2.1 _ x.2.2.1)
      have HLL := Lib.hid (HO.out.2.2.2.1 _ x.2.2.1 x.1.2.2 x.2.2.2.1 (by have h1 := x.2.2.2.2; have h2 := HO.out.2.2.1; omega))
      have hmay := may_kinds (mayS_acts HQ.out.symm x.1.1 x.2.2.1)
      have HK := Lib.hid hmay; clear hmay
      have HN := Lib.hid (show I64 x.1.2.2 from ⟨by have := x.2.2.2.1; omega, by have h1 := x.2.2.2.2; have h2 := HO.out.2.2.1; omega⟩)
      have EW := Lib.hid (HO.out.2.2.2.2.2.next HW.out.2.2.1.2.1)
      have hcat : ¬ 9223372036854775807 < (joinB (wordsL x.1.1 x.1.2.2)).length + 1 := by have := HLL.out; unfold lineL at this; omega
      dsimp only [acC]
      gi_wp2
      refine ⟨trivial, (CallsIn.inRound l (callsIn_wide.2 (words_any x.1.1 (.slice kA x.1.1.keep.length kc) x.1.2.2 HN.out HK.out.1 HK.out.2.1 HK.out.2.2 (HW.out.1.next HW.out.2.2.1.2.1) HOA.out.1 EW.out))).mono ?_⟩; rintro e w21 ⟨v1, rfl, ho1, hb1⟩
      clear d0 d1 d2 d3 d4 d5 d6 d7 d8 d9
      have H21 := Lib.hid (And.intro (StrsAt.of_own ho1) hb1); clear ho1 hb1
      gi_wp2
      refine ⟨trivial, (CallsIn.inRound l (callsIn_wide.2 (join_any H21.out.1 (by have := words_few2 x.1.1 x.1.2.2 HOA.out.1; omega) (by have := HLL.out; unfold lineL at this; omega)))).mono ?_⟩; rintro e w22 ⟨rfl, hb2⟩
      have H22 := Lib.hid (H21.out.2.trans (hb2.mono H21.out.2.size)); clear hb2
      gi_wp2
      have hB22 : Lib.IsBuilderF 108 5 w1.heap.size w1.heap.size (Lib.byteCells (headL ⟨slabs, clients, acts⟩ ++ bodyL (pre.map rowE))) w22 := builder_kept HW.out.2.2.1.1 fun k o hk _ => (H22.out.block k (Array.getElem?_eq_some_iff.1 hk).1).trans hk
      refine ⟨trivial, (CallsIn.inRound l (callsIn_wide.2 (bWrite_any w1.heap.size w1.heap.size _ (mk (joinB (wordsL x.1.1 x.1.2.2)) ++ mk [10]) w22 hB22 ?lenB (Nat.le_trans (by have := H12.out.2.2.2; have := H12.out.2.2.1; omega) (Nat.le_trans (Nat.le_of_lt (W3size HW.out.2.2.1)) H22.out.size))))).mono ?_⟩
      case lenB =>
        have h1 := body_len (w0 := w) HO.out.2.2.2.1 HO.out.2.2.1 pre
        have h2 := HJ.out
        have h3 := HLL.out
        have h4 := HW.out.2.2.2.1
        have h5 := HO.out.2.2.1
        have h6 : pre.length * 10000001 ≤ 1000000 * 10000001 := Nat.mul_le_mul_right _ (by omega)
        unfold lineL at h3
        rw [Lib.byteCells_length, mk_append, mk_size, List.length_append, List.length_append]
        simp only [headL, List.length_append, List.length_cons, List.length_nil]
        omega
      rintro e w23 ⟨rfl, hB23, hb23, ho23⟩
      gi_wp2
      obtain ⟨cs, hcs⟩ := HW.out.2.2.1.2.2
      have hszw := H12.out.2.2.2
      have hgc := H12.out.2.2.1
      have hc22 : w22.heap[w11.heap.size]? = some (.cells cs 23 (0, 0)) := hcs.below H22.out hcs.lt
      have hc23 : w23.heap[w11.heap.size]? = some (.cells cs 23 (0, 0)) := ho23 _ _ hc22 (fun e => by injection e with e; omega) (fun c fz => by intro h; cases h)
      have hwg : w.heap.size ≤ w1.heap.size := Nat.le_of_lt HX.out.2.2.2
      have hbel : Below w.heap.size W3 w23 := (H22.out.mono HW.out.2.2.1.2.1.size).trans (hb23.mono hwg)
      refine ⟨⟨Nat.le_trans H22.out.size hb23.size, fun k o hk ho hc => ?_⟩, ⟨hbel, hc23.trans hcs.symm⟩, .inr ?_, HW.out.2.2.1.2.1.trans hbel, cs, hc23⟩
      · refine ho23 k o ((H22.out.block k (Array.getElem?_eq_some_iff.1 ho).1).trans ho) (fun e => by injection e with e; omega) (fun c fz => ?_)
        rintro rfl; cases hc
      · have e : Lib.byteCells (headL ⟨slabs, clients, acts⟩ ++ bodyL (pre.map rowE)) ++ Lib.strCells (mk (joinB (wordsL x.1.1 x.1.2.2)) ++ mk [10]) = Lib.byteCells (headL ⟨slabs, clients, acts⟩ ++ bodyL ((pre ++ [x]).map rowE)) := by
          rw [mk_append, strCells_mk, ← byteCells_append, List.append_assoc]
          congr 2
          simp [bodyL, rowE, lineL]
        rw [e] at hB23; exact hB23
    case done =>
      rintro D xs W3 hD hxs hI hK
      go_wp2_with fail
      rw [show bodyL (xs.map rowE) = bodyL (rowsL acts) by rw [hxs]] at hI
      have hD2 : W3.heap[D]? = some (.deferred (some [])) := hK
      refine (Tryz.Builder_String_k w1.heap.size w1.heap.size _ W3 hI.1 (headL_ne _ _)).mono ?_; rintro e w5 ⟨rfl, hB5, hb5, ho5⟩
      have hD5 : w5.heap[D]? = some (.deferred (some [])) := ho5 D _ hD2 (fun e => by
        injection e with e
        have := H12.out.2.2.2; have := H12.out.2.2.1; omega) (fun c fz => by intro h; cases h)
      have HF := Lib.hid (And.intro hD5 (hI.2.1.trans (hb5.mono (show w.heap.size ≤ w1.heap.size by have := HX.out.2.2.2; omega)))); clear hD5 hb5 ho5 hB5 hD2
      go_wp2_with fail
      refine ⟨by simp, .inl ⟨_, _, rfl, run_takeDeferred HF.out.1, ?_⟩⟩
      refine ⟨_, res_text rfl rfl, ?_, ?_⟩
      · exact HF.out.2.trans (KpR.put (cb := 0) (by have := H12.out.2.2.2; have := H11.out.2.2.size; omega) (by have := H12.out.2.2.2; omega) _).1
      · rw [← HQ.out]; rfl

end Go.Proofs.YtnnahodajiolmaaGreatDoor.sc
