/-
  PROVED HERE: slab.Of over any bytes: an error, or a Slab of so many headers, in new memory; nothing that was there is turned. Conditions: an arena's size, at most 16 slabs.
-/
import Derived.Test.YtdbbbaallalhoaaGreatSlA
import Derived.RegionIn
import Derived.Stop.RegionWithIn
import Derived.LoopNIn
import Derived.Test.YtdbbbaallalhoaaGreatArF
namespace Go.Proofs.YtdbbbaallalhoaaGreat.sl
open Go.RowKit Go.Shelf Go.Proofs.YtdbbbaallalhoaaGreat.pm Go.Proofs.YtdbbbaallalhoaaGreat.ar Go.Proofs.YtdbbbaallalhoaaGreat.bt Go.Proofs.YtdbbbaallalhoaaGreat.rn
set_option linter.unusedVariables false
attribute [local go_sem] Oper.semAt_some
attribute [-go_sem] Builtin.append_ Instr.buildSlice Instr.build

set_option maxRecDepth 1000000 in
theorem headerZero : (Tryz.prog.info? 134).map (fun i => (i.zero, i.size, i.bytes)) = some (some (.agg #[.int .i64 0, .int .u64 0]), 2, 16) := by kernel_rfl
set_option maxRecDepth 1000000 in
theorem built_slab (n S hb mb : Nat) : Tryz.prog.built 127 [(0, .int .i64 n), (1, .slice (some ⟨hb, 0, none⟩) (S + 1) (S + 1)), (3, .map (some mb))] = some (slArr n S hb mb 0 (fun _ => 0)) := by kernel_rfl

def OfPost (w : World) (S : Nat) (e : Ending) (w' : World) : Prop := Keeps [] w w' ∧ (e = .returned (.tuple #[.pointer none, .int .i64 6]) ∨ ∃ sb hb cs, e = .returned (.tuple #[.pointer (some ⟨sb, 0, none⟩), .int .i64 0]) ∧ w'.heap[sb]? = some (.cells cs 127 (0, 0)) ∧ cs[1]? = some (.slice (some ⟨hb, 0, none⟩) (S + 1) (S + 1)) ∧ w.heap.size ≤ sb)

theorem leaves_ds {F : Fence} {n : Nat} {P : Program} {fn : Func} {tmps : Array Value} {R : Ending → World → Prop} : ∀ (Ds : List Nat) (w : World), (∀ D ∈ Ds, w.heap[D]? = some (.deferred (some []))) → Ds.Nodup → (∀ w', Keeps Ds w w' → LeavesInM F n P fn tmps R [] .returning w') →
    LeavesInM F n P fn tmps R (Ds.map fun D => { target := .collected D, args := #[] }) .returning w
  | [], w, _, _, h => h w (Keeps.refl _ _)
  | D :: Ds, w, hD, hn, h => by
    refine ⟨by simp, .inl ⟨D, w.putObj D (.deferred none), rfl, run_takeDeferred (hD D (by simp)), ?_⟩⟩
    have hk := Keeps.putObj w D (.deferred none)
    rw [List.nodup_cons] at hn
    refine leaves_ds Ds _ (fun E hE => ?_) hn.2 (fun w' hk' => h w' ((hk.mono (by simp)).trans hk' (fun i hi => .inl (by simp [hi]))))
    rw [World.putObj_heap_other (fun e => hn.1 (by rw [← e]; exact hE))]
    exact hD E (by simp [hE])

theorem pf_set (n S hb mb c fb : Nat) (f : Nat → Nat) (hc : c < 4) : (slArr n S hb mb c f).setIfInBounds (2 + c) (.pointer (some ⟨fb, 0, none⟩)) = slArr n S hb mb (c + 1) (fun j => if j = c then fb else f j) := by
  rcases c with _ | _ | _ | _ | c
  · simp [slArr, pf]
  · simp [slArr, pf]
  · simp [slArr, pf]
  · simp [slArr, pf]
  · omega
theorem Sl.grow {w W W1 : World} {n S sb hb mb c fb : Nat} {f : Nat → Nat} {u : Nat → Value} {m : Nat → Nat} (h : Sl w W n S sb hb mb c 0 f u m) (hc : c < 4) (hk : Keeps [] W W1) (hf : W1.heap[fb]? = some (.cells #[.slice none 0 0] 161 (0, 0))) (hfb : W.heap.size ≤ fb) :
    ∃ f' u' m', Sl w (W1.setCell ⟨sb, 2 + c, none⟩ (.pointer (some ⟨fb, 0, none⟩))) n S sb hb mb (c + 1) 0 f' u' m' := by
  have h1 := h.keeps hk
  obtain ⟨cs, hh1, hh2⟩ := h1.hdr
  obtain ⟨L, hL⟩ := h1.map
  have hks := Keeps.setCell W1 sb (2 + c) (.pointer (some ⟨fb, 0, none⟩))
  have hb := set_same (i := 2 + c) (v := .pointer (some ⟨fb, 0, none⟩)) h1.blk
  rw [pf_set _ _ _ _ _ _ _ hc] at hb
  have nsb : ∀ (i : Nat) (d : Array Value) (U : TypeId), W1.heap[i]? = some (.cells d U (0, 0)) → U ≠ 127 → i ∉ [sb] := fun i d U hi hU => by simp; exact blk_ne hi h1.blk hU
  refine ⟨fun j => if j = c then fb else f j, fun j => if j = c then .slice none 0 0 else u j, fun j => if j = c then 0 else m j, hb, ⟨cs, (hks.block _ (lt_of hh1) (nsb _ _ _ hh1 (by decide))).trans hh1, hh2⟩, fun j hj => ?_, fun i j hi hj hij => ?_, ⟨L, hL.same (hks.block mb hL.lt (by simp; exact Ne.symm (h1.map_ne h1.blk)))⟩, h1.keep.trans hks (fun i hi => .inr (by simp at hi; subst hi; exact h1.new.1)), h1.new⟩
  · by_cases e : j = c
    · subst e
      simp only [↓reduceIte]
      exact ⟨⟨(hks.block fb (lt_of hf) (nsb _ _ _ hf (by decide))).trans hf, ⟨[], RowAt.nil _ _ _, by simp⟩⟩, by omega, Nat.le_trans h.keep.size hfb, fun q hq => by cases hq⟩
    · simp only [if_neg e]
      obtain ⟨j1, j2⟩ := h1.fr j (by omega)
      exact ⟨j1.keeps hks (nsb _ _ _ j1.blk (by decide)) (fun q hq hi => by simp at hi; subst hi; exact adr_ne j1.row h1.blk (by decide) hq), j2⟩
  · have old : ∀ k, k < c → f k ≠ fb := fun k hk e => by have := lt_of (h.fr k hk).1.blk; omega
    by_cases ei : i = c
    · subst ei
      simp only [↓reduceIte, if_neg (Ne.symm hij)]
      exact ⟨Ne.symm (old j (by omega)), fun q hq => by cases hq⟩
    · simp only [if_neg ei]
      by_cases ej : j = c
      · subst ej
        simp only [↓reduceIte]
        exact ⟨old i (by omega), fun q hq e => by cases e⟩
      · simp only [if_neg ej]
        exact h.sep i j (by omega) (by omega) hij

/-- What holds between two rounds over the slabs. -/
structure SlR (w W : World) (n S sb hb mb pb ib B i : Nat) (f : Nat → Nat) (u : Nat → Value) (m : Nat → Nat) (Ds : List Nat) : Prop where
  i1 : 1 ≤ i
  iS : i ≤ S + 1
  s : Sl w W n S sb hb mb 4 B f u m
  p : Boxed W pb 59 (.pointer (some ⟨sb, 0, none⟩))
  ibx : Boxed W ib 3 (.int .i64 i)
  ibn : w.heap.size ≤ ib
  ds : ∀ D ∈ Ds, W.heap[D]? = some (.deferred (some [])) ∧ w.heap.size ≤ D
  nd : Ds.Nodup
theorem SlR.keepD {w W w' : World} {n S sb hb mb pb ib B i : Nat} {f : Nat → Nat} {u : Nat → Value} {m : Nat → Nat} {Ds : List Nat} (h : SlR w W n S sb hb mb pb ib B i f u m Ds) (hk : Keeps Ds W w') : Keeps [] w w' :=
  h.s.keep.trans hk (fun D hD => .inr (h.ds D hD).2)
theorem SlR.end_ {w W w' : World} {n S sb hb mb pb ib B i : Nat} {f : Nat → Nat} {u : Nat → Value} {m : Nat → Nat} {Ds : List Nat} (h : SlR w W n S sb hb mb pb ib B i f u m Ds) (hk : Keeps Ds W w') : OfPost w S (.returned (.tuple #[.pointer (some ⟨sb, 0, none⟩), .int .i64 0])) w' := by
  refine ⟨h.keepD hk, .inr ⟨sb, hb, _, rfl, (hk.block sb (lt_of h.s.blk) (fun hD => ?_)).trans h.s.blk, rfl, h.s.new.1⟩⟩
  have := (h.ds sb hD).1
  rw [h.s.blk] at this
  cases this
theorem SlR.keeps {w W W' : World} {n S sb hb mb pb ib B i : Nat} {f : Nat → Nat} {u : Nat → Value} {m : Nat → Nat} {Ds : List Nat} (h : SlR w W n S sb hb mb pb ib B i f u m Ds) (hk : Keeps [] W W') : SlR w W' n S sb hb mb pb ib B i f u m Ds :=
  ⟨h.i1, h.iS, h.s.keeps hk, (hk.block pb h.p.lt (by simp)).trans h.p, (hk.block ib h.ibx.lt (by simp)).trans h.ibx, h.ibn, fun D hD => ⟨(hk.block D (Array.getElem?_eq_some_iff.1 (h.ds D hD).1 |>.1) (by simp)).trans (h.ds D hD).1, (h.ds D hD).2⟩, h.nd⟩
theorem SlR.err {w W w' : World} {n S sb hb mb pb ib B i : Nat} {f : Nat → Nat} {u : Nat → Value} {m : Nat → Nat} {Ds : List Nat} (h : SlR w W n S sb hb mb pb ib B i f u m Ds) (hk : Keeps Ds W w') : OfPost w S (.returned (.tuple #[.pointer none, .int .i64 6])) w' := ⟨h.keepD hk, .inl rfl⟩
theorem SlR.turn {w W W' : World} {n S sb hb mb pb ib B B' i : Nat} {f f' : Nat → Nat} {u u' : Nat → Value} {m m' : Nat → Nat} {Ds : List Nat} (h : SlR w W n S sb hb mb pb ib B i f u m Ds) (ho : Oth W W') (hs : Sl w W' n S sb hb mb 4 B' f' u' m') : SlR w W' n S sb hb mb pb ib B' i f' u' m' Ds :=
  ⟨h.i1, h.iS, hs, ho.cellsAt h.p (by decide), ho.cellsAt h.ibx (by decide), h.ibn, fun D hD => ⟨ho.2 D _ (h.ds D hD).1 trivial, (h.ds D hD).2⟩, h.nd⟩
theorem SlR.next {w W : World} {n S sb hb mb pb ib i D : Nat} {f : Nat → Nat} {u : Nat → Value} {m : Nat → Nat} {Ds : List Nat} (h : SlR w W n S sb hb mb pb ib (15 * i + 15) i f u m Ds) (hi : i ≤ S) (hD : W.heap[D]? = some (.deferred (some []))) (hDw : w.heap.size ≤ D) (hDn : D ∉ Ds) :
    SlR w (W.alloc (.cells #[.int .i64 ((i : Int) + 1)] 3)) n S sb hb mb pb W.heap.size (15 * (i + 1)) (i + 1) f u m (D :: Ds) := by
  have hk := Keeps.alloc W (.cells #[.int .i64 ((i : Int) + 1)] 3)
  have h1 := h.keeps hk
  refine ⟨by omega, by omega, { h1.s with fr := fun k hk2 => by have := h1.s.fr k hk2; exact ⟨this.1, by omega, this.2.2⟩ }, h1.p, ?_, h.s.keep.size, fun E hE => ?_, List.nodup_cons.2 ⟨hDn, h.nd⟩⟩
  · have e : (((i + 1 : Nat)) : Int) = (i : Int) + 1 := by omega
    rw [e]; exact alloc_new
  · rcases List.mem_cons.1 hE with rfl | hE
    · exact ⟨(hk.block _ (Array.getElem?_eq_some_iff.1 hD).1 (by simp)).trans hD, hDw⟩
    · exact h1.ds E hE
/-- How many slabs are left. -/
def slMu (S : Nat) (a : Act) (W : World) : Nat := S + 1 - (match a.tmps.getD 8 undef with
  | .pointer (some p) => (match W.cell? p with | some (.int _ x) => x.toNat | _ => 0)
  | _ => 0)
/-- The frame: what is fixed in it, and what is not (v). -/
def slLit (g n S pb ib hb mb sb : Nat) (v : Nat → Value) : Array Value := #[.slice (some ⟨g, 0, none⟩) n n, undef, .pointer none, .int .i64 0, .int .i64 S, .bool true, .pointer (some ⟨pb, 0, none⟩), v 7, .pointer (some ⟨ib, 0, none⟩), v 9, v 10, v 11, v 12, .tuple #[.int .i64 S, .bool true], .slice (some ⟨g, 0, none⟩) n n, .int .i64 n, .tuple #[.int .i64 S, .bool true], .int .i64 S, .bool true, .bool true, .bool false, .slice (some ⟨g, 0, none⟩) n n, .int .i64 n, .int .i64 S, .int .i64 (1 + (S : Int)), .slice (some ⟨hb, 0, none⟩) (S + 1) (S + 1), .map (some mb), .agg (slArr n S hb mb 0 fun _ => 0), .pointer (some ⟨sb, 0, none⟩), .int .i64 4, .bool false, v 31, v 32, v 33, v 34, v 35, v 36, v 37, v 38, v 39, v 40, v 41, v 42, v 43, v 44, v 45, v 46, v 47, v 48, v 49, v 50, v 51, v 52, v 53, v 54, v 55, v 56, v 57, v 58, v 59, v 60, v 61, v 62, v 63, v 64, v 65, v 66, v 67, v 68, v 69, v 70, v 71, v 72, v 73, v 74, v 75, v 76, v 77, v 78, v 79, v 80, v 81, v 82, v 83, v 84, v 85, v 86, v 87, v 88, v 89, v 90, v 91, v 92, v 93, v 94, v 95, v 96, v 97]
theorem slLit_mk {g n S pb ib hb mb sb : Nat} (t : Array Value) (h : t = slLit g n S pb ib hb mb sb fun k => t.getD k undef) : ∃ v, t = slLit g n S pb ib hb mb sb v := ⟨_, h⟩
/-- The frame in a round over a word's bits. -/
def slLit2 (pb ib cb x : Nat) (v : Nat → Value) : Array Value := #[v 0, v 1, v 2, v 3, v 4, v 5, .pointer (some ⟨pb, 0, none⟩), v 7, .pointer (some ⟨ib, 0, none⟩), .pointer (some ⟨cb, 0, none⟩), v 10, .int .i64 (x : Nat), v 12, v 13, v 14, v 15, v 16, v 17, v 18, v 19, v 20, v 21, v 22, v 23, v 24, v 25, v 26, v 27, v 28, v 29, v 30, v 31, v 32, v 33, v 34, v 35, v 36, v 37, v 38, v 39, v 40, v 41, v 42, v 43, v 44, v 45, v 46, v 47, v 48, v 49, v 50, v 51, v 52, v 53, v 54, v 55, v 56, v 57, v 58, v 59, v 60, v 61, v 62, v 63, v 64, v 65, v 66, v 67, v 68, v 69, v 70, v 71, v 72, v 73, v 74, v 75, v 76, v 77, v 78, v 79, v 80, v 81, v 82, v 83, v 84, v 85, v 86, v 87, v 88, v 89, v 90, v 91, v 92, v 93, v 94, v 95, v 96, v 97]
theorem slLit2_mk {pb ib cb x : Nat} (t : Array Value) (h : t = slLit2 pb ib cb x fun k => t.getD k undef) : ∃ v, t = slLit2 pb ib cb x v := ⟨_, h⟩
theorem SlR.same {w W W' : World} {n S sb hb mb pb ib B i : Nat} {f : Nat → Nat} {u : Nat → Value} {m : Nat → Nat} {Ds F : List Nat} (h : SlR w W n S sb hb mb pb ib B i f u m Ds) (hk : Keeps F W W')
    (hF : ∀ r ∈ F, w.heap.size ≤ r ∧ r ≠ sb ∧ r ≠ hb ∧ r ≠ mb ∧ r ≠ pb ∧ r ≠ ib ∧ r ∉ Ds ∧ ∀ k, k < 4 → r ≠ f k ∧ (u k).ownBlock ≠ some r) : SlR w W' n S sb hb mb pb ib B i f u m Ds :=
  ⟨h.i1, h.iS, h.s.same hk (fun r hr => by obtain ⟨a1, a2, a3, a4, a5, a6, a7, a8⟩ := hF r hr; exact ⟨a1, a2, a3, a4, a8⟩), (hk.block pb h.p.lt (fun hr => (hF _ hr).2.2.2.2.1 rfl)).trans h.p, (hk.block ib h.ibx.lt (fun hr => (hF _ hr).2.2.2.2.2.1 rfl)).trans h.ibx, h.ibn,
    fun D hD => ⟨(hk.block D (Array.getElem?_eq_some_iff.1 (h.ds D hD).1 |>.1) (fun hr => (hF _ hr).2.2.2.2.2.2.1 hD)).trans (h.ds D hD).1, (h.ds D hD).2⟩, h.nd⟩
theorem SlR.mapset {w W : World} {n S sb hb mb pb ib B i : Nat} {f : Nat → Nat} {u : Nat → Value} {m : Nat → Nat} {Ds : List Nat} {o : Obj} {L' : List (Int × Value)} (h : SlR w W n S sb hb mb pb ib B i f u m Ds) (hL : MapIs (putB W mb o) mb L') : SlR w (putB W mb o) n S sb hb mb pb ib B i f u m Ds := by
  have hk := Keeps.putB W mb o
  have hne : ∀ (j : Nat) (d : Array Value) (U : TypeId), W.heap[j]? = some (.cells d U (0, 0)) → (putB W mb o).heap[j]? = some (.cells d U (0, 0)) := fun j d U hj => (putB_other (h.s.map_ne hj)).trans hj
  obtain ⟨cs, h1, h2⟩ := h.s.hdr
  obtain ⟨L, es, clock, hb, _⟩ := h.s.map
  refine ⟨h.i1, h.iS, ⟨hne _ _ _ h.s.blk, ⟨cs, hne _ _ _ h1, h2⟩, fun k hk4 => ?_, h.s.sep, ⟨L', hL⟩, h.s.keep.trans hk (fun j hj => .inr (by simp at hj; subst hj; exact h.s.new.2.2)), h.s.new⟩, hne _ _ _ h.p, hne _ _ _ h.ibx, h.ibn, fun D hD => ⟨?_, (h.ds D hD).2⟩, h.nd⟩
  · obtain ⟨g1, g2⟩ := h.s.fr k hk4
    refine ⟨⟨hne _ _ _ g1.blk, g1.row.same fun q hq => putB_other (fun e => ?_)⟩, g2⟩
    obtain ⟨xs, r1, _⟩ := g1.row
    rcases r1.2 with ⟨e2, _⟩ | ⟨g, off, cap, cur, e2, hg, _⟩
    · rw [e2] at hq; cases hq
    · rw [e2] at hq; cases hq; exact h.s.map_ne hg e
  · rw [putB_other (fun e => by have := (h.ds D hD).1; rw [e, hb] at this; cases this)]
    exact (h.ds D hD).1
/-- What holds between two rounds over a word's bits. -/
def SlI (w : World) (n S sb hb mb pb ib cb cl bx i Bd : Nat) (y : Int) (f : Nat → Nat) (Ds : List Nat) (nb : Option Nat) (pre : List Nat) (W : World) : Prop :=
  ∃ u m, SlR w W n S sb hb mb pb ib (15 * i + 15) i f u m Ds ∧ Boxed W cb 26 (.int .u64 (cl : Nat)) ∧ Boxed W bx 26 (.int .u64 y) ∧ (∀ k, nb = some k → ∀ j, j < 4 → (u j).ownBlock ≠ some k) ∧ (∀ r, Bd ≤ r → r ≠ sb ∧ r ≠ hb ∧ r ≠ mb ∧ r ≠ pb ∧ r ≠ ib ∧ r ≠ cb ∧ r ≠ bx ∧ r ∉ Ds ∧ ∀ k, k < 4 → r ≠ f k) ∧ Bd ≤ W.heap.size ∧ w.heap.size ≤ Bd
theorem slI_abd {w : World} {n S sb hb mb pb ib cb cl bx i Bd : Nat} {y : Int} {f : Nat → Nat} {Ds : List Nat} : AbdX Bd (SlI w n S sb hb mb pb ib cb cl bx i Bd y f Ds) := by
  rintro nb s W W' row hnb ⟨u, m, h1, h2, h3, h4, h5, h6, h7⟩ hg hr
  have hk := Keeps.grown hg
  have hrow : ∀ r ∈ row.toList, Bd ≤ r ∧ ∀ k, k < 4 → (u k).ownBlock ≠ some r := fun r hr2 => by
    simp only [Option.mem_toList] at hr2
    rcases hr r hr2 with ⟨e, _⟩ | ⟨hB, o, ho, hc, _⟩
    · exact ⟨by have := hnb r e; omega, fun k hk4 => h4 r e k hk4⟩
    · refine ⟨hB, fun k hk4 e => ?_⟩
      obtain ⟨xs, r1, _⟩ := (h1.s.fr k hk4).1.row
      rcases r1.2 with ⟨e2, _⟩ | ⟨g, off, cap, cur, e2, hg2, _⟩
      · rw [e2] at e; cases e
      · rw [e2] at e; cases e; rw [hg2] at ho; cases ho; cases hc
  refine ⟨u, m, h1.same hk (fun r hr2 => ?_), (hk.block cb h2.lt (fun hr2 => (h5 cb (hrow cb hr2).1).2.2.2.2.2.1 rfl)).trans h2, (hk.block bx h3.lt (fun hr2 => (h5 bx (hrow bx hr2).1).2.2.2.2.2.2.1 rfl)).trans h3, h4, h5, Nat.le_trans h6 hk.size, h7⟩
  obtain ⟨a1, a2⟩ := hrow r hr2
  obtain ⟨b1, b2, b3, b4, b5, b6, b7, b8, b9⟩ := h5 r a1
  exact ⟨by omega, b1, b2, b3, b4, b5, b8, fun k hk4 => ⟨b9 k hk4, a2 k hk4⟩⟩
theorem slMu_lt {S i : Nat} (h : i ≤ S) : S + 1 - ((i : Int) + 1).toNat < S + 1 - (i : Int).toNat := by omega
def dsOf (Ds : List Nat) : List Deferred := Ds.map fun D => { target := .collected D, args := #[] }

set_option maxRecDepth 100000 in
set_option maxHeartbeats 4000000 in
theorem slabOf_any {w : World} {g n S : Nat} {bs : List Int} (hrow : RowAt w 5 1 (.slice (some ⟨g, 0, none⟩) n n) n (bs.map (Value.int .u8))) (hb : ∀ b ∈ bs, Byte b) (hn : n = 1024 * (S + 1)) (hS1 : 1 ≤ S) (hS : S ≤ 16) :
    CallsIn Fence.wide 5 Tryz.prog 17 #[.slice (some ⟨g, 0, none⟩) n n] w (OfPost w S) := by
  have HSb := Lib.hid (slabs_any n S w hn hS1 (by omega))
  have hn2 : n ≤ 20000 := by omega
  have HN := Lib.hid (And.intro hrow (And.intro hb hn)); clear hrow hb hn
  obtain ⟨i0, hi0, hz0, hz1, hz2⟩ := info_parts headerZero
  refine callsIn_of_wp_marks Tryz.func17 rfl trivial ?_ rfl
  simp only [Tryz.ntmps17, List.size_toArray, List.length_cons, List.length_nil, Nat.reduceAdd, Nat.reduceSub, Array.replicate_succ, Array.replicate_zero, List.push_toArray, List.append_toArray, List.nil_append, List.cons_append]
  refine wpIn_wide.2 ?_
  have hmm := @run_makeMap Tryz.prog
  have hbd : ∀ mb wx, (Instr.build 127 #[(0, .int .i64 n), (1, .slice (some ⟨w.heap.size, 0, none⟩) (S + 1) (S + 1)), (3, .map (some mb))]).run Tryz.prog wx = .ok (.agg (slArr n S w.heap.size mb 0 (fun _ => 0))) wx := fun mb wx => run_build wx _ _ _ (built_slab n S w.heap.size mb)
  go_wp2_with fail
  refine HSb.out.mono ?_
  rintro e w1 ⟨rfl, rfl⟩
  go_wp2_with (at_make; refine wpList_make_full _ rfl _ _ 122 rfl w.heap.size 134 i0 (.agg #[.int .i64 0, .int .u64 0]) 2 Tryz.underlying122 hi0 hz0 hz1 .i64 .i64 (1 + (S : Int)) (1 + (S : Int)) (S + 1) rfl rfl (by omega) (by omega) (by rw [hz2]; omega) (by unfold maxLen; omega) (Nat.le_refl _) ?_; intro W hown hgr)
  have hhdr : ∃ cs : Array Value, W.heap[w.heap.size]? = some (.cells cs 134 (0, 0)) ∧ cs.size = 2 * (S + 1) := by
    obtain ⟨_, ⟨e, _⟩ | ⟨g', cap, cur, e, _, hg, _, _, hs, _⟩⟩ := hown
    · cases e
    · cases e; exact ⟨cur, hg, by omega⟩
  obtain ⟨W0, hW0⟩ : ∃ W0, W0 = ((W.alloc (.map #[] 0)).alloc (.cells (slArr n S w.heap.size W.heap.size 0 (fun _ => 0)) 127)).alloc (.cells #[.pointer (some ⟨W.heap.size + 1, 0, none⟩)] 59) := ⟨_, rfl⟩
  have hkW : Keeps [] w W := by have := Keeps.grown hgr; simpa using this
  have hk0 : Keeps [] W W0 := by rw [hW0]; exact ((Keeps.alloc W _).trans (Keeps.alloc _ _) (by simp)).trans (Keeps.alloc _ _) (by simp)
  have hsW : w.heap.size < W.heap.size := by obtain ⟨cs, h1, _⟩ := hhdr; exact lt_of h1
  have hm0 : MapIs W0 W.heap.size [] := by
    have : W0.heap[W.heap.size]? = some (.map #[] 0) := by rw [hW0]; exact alloc_old (alloc_old alloc_new)
    exact ⟨#[], 0, this, empty_ents, by simp, by simp⟩
  have hb0 : W0.heap[W.heap.size + 1]? = some (.cells (slArr n S w.heap.size W.heap.size 0 (fun _ => 0)) 127 (0, 0)) := by
    rw [hW0]
    have := alloc_old (o := .cells #[.pointer (some ⟨W.heap.size + 1, 0, none⟩)] 59) (alloc_new (w := W.alloc (.map #[] 0)) (o := .cells (slArr n S w.heap.size W.heap.size 0 (fun _ => 0)) 127))
    rwa [World.size_alloc] at this
  have hp0 : Boxed W0 (W.heap.size + 1 + 1) 59 (.pointer (some ⟨W.heap.size + 1, 0, none⟩)) := by
    rw [hW0]
    have := alloc_new (w := (W.alloc (.map #[] 0)).alloc (.cells (slArr n S w.heap.size W.heap.size 0 (fun _ => 0)) 127)) (o := .cells #[.pointer (some ⟨W.heap.size + 1, 0, none⟩)] 59)
    rwa [World.size_alloc, World.size_alloc] at this
  have hs0 : Sl w W0 n S (W.heap.size + 1) w.heap.size W.heap.size 0 0 (fun _ => 0) (fun _ => .slice none 0 0) (fun _ => 0) :=
    ⟨hb0, by obtain ⟨cs, h1, h2⟩ := hhdr; exact ⟨cs, (hk0.block _ (lt_of h1) (by simp)).trans h1, h2⟩, fun k hk => by omega, fun j k hj => by omega, ⟨[], hm0⟩, hkW.trans hk0 (by simp), ⟨by omega, by omega, by omega⟩⟩
  obtain ⟨sb, hsb⟩ : ∃ sb, sb = W.heap.size + 1 := ⟨_, rfl⟩
  obtain ⟨pb, hpb⟩ : ∃ pb, pb = W.heap.size + 1 + 1 := ⟨_, rfl⟩
  obtain ⟨mb, hmb⟩ : ∃ mb, mb = W.heap.size := ⟨_, rfl⟩
  obtain ⟨hb, hhb⟩ : ∃ hb, hb = w.heap.size := ⟨_, rfl⟩
  rw [← hpb, ← hsb] at hp0
  rw [← hsb, ← hhb, ← hmb] at hs0
  rw [← hW0, ← hpb, ← hsb, ← hmb, ← hhb]
  have hpw : w.heap.size ≤ pb := by omega
  clear hhdr hown hgr hW0 hkW hk0 hm0 hb0 hsb hpb hmb hhb hbd hmm hi0 hz0 hz1 hz2
  have H0 := Lib.hid (And.intro hs0 (And.intro hp0 hpw)); clear hs0 hp0 hpw
  go_loopw [29] (fun s29 wr => ∃ (c : Nat) (f : Nat → Nat) (u : Nat → Value) (m : Nat → Nat), c ≤ 4 ∧ s29 = .int .i64 c ∧ Sl w wr n S sb hb mb c 0 f u m ∧ Boxed wr pb 59 (.pointer (some ⟨sb, 0, none⟩))) (fun s29 _ => 4 - (intOf s29).toNat)
  case atStart => exact ⟨0, _, _, _, by omega, rfl, H0.out.1, H0.out.2.1⟩
  case round =>
    obtain ⟨c, f, u, m, hc, rfl, hs, hp⟩ := hrel
    by_cases hlt : c < 4
    · have hcI : (c : Int) < 4 := by omega
      have cp := hp.cell
      have cf : ∀ wx, Keeps [] wr wx → wx.cell? ⟨sb, 2 + c, none⟩ = some (.pointer none) ∧ wx.frozen? ⟨sb, 2 + c, none⟩ = false ∧ wx.cell? ⟨pb, 0, none⟩ = some (.pointer (some ⟨sb, 0, none⟩)) := fun wx hk => by
        have h1 := (hs.keeps hk).blk
        refine ⟨cell_of h1 ?_, free_of h1, (show Boxed wx pb _ _ from (hk.block pb hp.lt (by simp)).trans hp).cell⟩
        have e : pf c f c = .pointer none := by simp [pf]
        rw [← e]
        rcases c with _ | _ | _ | _ | c <;> first | rfl | omega
      have HS := Lib.hid (And.intro hs (And.intro hp cf))
      obtain ⟨d1, d2, d3⟩ := cf wr.drew (Keeps.drew wr)
      obtain ⟨d4, d5, d6⟩ := cf (wr.drew.alloc (.cells #[.slice none 0 0] 161)) ((Keeps.drew wr).trans (Keeps.alloc _ _) (by simp))
      obtain ⟨W2, hW2⟩ : ∃ W2, W2 = wr.drew.alloc (.cells #[.slice none 0 0] 161) := ⟨_, rfl⟩
      rw [← hW2] at d4 d5 d6
      have HW2 := Lib.hid hW2
      have HFN := Lib.hid (freeNew_any wr.drew)
      rw [← hW2] at HFN
      clear hs hp cf hW2
      go_upto_region 8 with fail
      refine wp_normal ?_
      go_region_with (first
        | (go_at_call 41; refine HFN.out.mono ?_; rintro e w3 ⟨rfl, rfl⟩)
        | fail)
      all_goals
        simp only [onlyNormal]
        obtain ⟨hs, hp, cf⟩ := HS.out
        have hkw : Keeps [] wr w3 := by rw [HW2.out]; exact (Keeps.drew wr).trans (Keeps.alloc _ _) (by simp)
        have hf3 : w3.heap[wr.heap.size]? = some (.cells #[.slice none 0 0] 161 (0, 0)) := by rw [HW2.out]; exact alloc_new (w := wr.drew)
        obtain ⟨f', u', m', hs'⟩ := hs.grow hlt hkw hf3 (Nat.le_refl _)
        have hp' : Boxed (w3.setCell ⟨sb, 2 + c, none⟩ (.pointer (some ⟨wr.heap.size, 0, none⟩))) pb 59 (.pointer (some ⟨sb, 0, none⟩)) := (set_other (by
          intro e
          have h1 : w3.heap[pb]? = some _ := (hkw.block pb hp.lt (by simp)).trans hp
          exact blk_ne h1 (hs.keeps hkw).blk (by decide) e.symm)).trans ((hkw.block pb hp.lt (by simp)).trans hp)
        have HX := Lib.hid (And.intro hs' hp'); clear hs hp cf hkw hf3 hs' hp'
        go_wp2_with fail
        go_roundw
        case rel => exact ⟨c + 1, f', u', m', by omega, by go_num, HX.out.1, HX.out.2⟩
        case measure => simp [intOf]; omega
    · obtain rfl : c = 4 := by omega
      have HS := Lib.hid (And.intro hs hp); clear hs hp
      go_wp2_with fail
      obtain ⟨W3, hW3⟩ : ∃ W3, W3 = wr.alloc (.cells #[.int .i64 1] 3) := ⟨_, rfl⟩
      obtain ⟨ib, hib⟩ : ∃ ib, ib = wr.heap.size := ⟨_, rfl⟩
      rw [← hW3, ← hib]

      have hR3 : SlR w W3 n S sb hb mb pb ib 15 1 f u m [] := by
        obtain ⟨hs, hp⟩ := HS.out
        have hk : Keeps [] wr W3 := by rw [hW3]; exact Keeps.alloc _ _
        exact ⟨by omega, by omega, { hs.keeps hk with fr := fun k hk2 => by have := (hs.keeps hk).fr k hk2; exact ⟨this.1, by omega, this.2.2⟩ }, (hk.block pb hp.lt (by simp)).trans hp, by rw [hW3, hib]; exact alloc_new, by rw [hib]; exact hs.keep.size, by simp, by simp⟩
      have HR3 := Lib.hid hR3; clear hR3 hW3 hib
      refine wp_loop (fun a W => ∃ (i ib : Nat) (f : Nat → Nat) (u : Nat → Value) (m : Nat → Nat) (Ds : List Nat) (v : Nat → Value), a = { tmps := slLit g n S pb ib hb mb sb v, defers := dsOf Ds } ∧ SlR w W n S sb hb mb pb ib (15 * i) i f u m Ds) (slMu S) ?start ?round
      case start =>
        obtain ⟨v, hv⟩ : ∃ v, _ = slLit g n S pb ib hb mb sb v := slLit_mk _ (by kernel_rfl)
        exact ⟨1, ib, f, u, m, [], v, by rw [← hv]; rfl, HR3.out⟩
      case round =>
        rintro a W ⟨i, ib, f, u, m, Ds, v, rfl, hR⟩
        obtain ⟨t, ht⟩ : ∃ t, t = slLit g n S pb ib hb mb sb v := ⟨_, rfl⟩
        rw [← ht]
        unfold slLit at ht
        subst ht
        have hi := hR.ibx.cell
        have hp := hR.p.cell
        have HI0 := Lib.hid hi
        have HR := Lib.hid hR; clear hR HR3 HS
        by_cases hiS : i ≤ S
        · have hiI : (i : Int) ≤ (S : Int) := by omega
          have hS64 : i ≤ 64 := by omega
          have HHd := Lib.hid (fun wx => header_any i wx HR.out.i1 hS64)
          have HBi := Lib.hid (fun wx => hbits_any i wx HR.out.i1 hS64)
          obtain ⟨hrow, hb_, hn⟩ := HN.out
          have hgw := hrow.lt (g := g) rfl
          have HWd : Hid (∀ wx (p : Nat), Keeps [] W wx → p + 8 ≤ n → Calls Tryz.prog 42 #[.slice (some ⟨g, 0, none⟩) n n, .int .u64 p] wx fun e w' => ∃ x, e = .returned (.int .u64 x) ∧ U64 x ∧ w' = wx) := Lib.hid fun wx p hk hp => by
            refine sword_any (hrow.same fun q hq => ?_) hb_ p hp (by omega)
            cases hq
            exact (hk.block g (by have := HR.out.s.keep.size; omega) (by simp)).trans (HR.out.s.keep.block g hgw (by simp))
          have hnS : 1024 * i + 16 ≤ n := by omega
          obtain ⟨p1, hp1⟩ : ∃ p1, p1 = 1024 * i := ⟨_, rfl⟩
          obtain ⟨p2, hp2⟩ : ∃ p2, p2 = p1 + 8 := ⟨_, rfl⟩
          rw [← hp1] at HHd HBi hnS
          rw [← hp2] at HBi
          have hq1 : p1 + 8 ≤ n := by omega
          have hq2 : p2 + 8 ≤ n := by omega
          clear hrow hb_ hn hp1 hp2
          go_upto_region 13 with fail
          go_cut [9, 10] from 44 to 51 (fun s9 s10 wx => ∃ (cb : Nat) (x y : Int), s9 = .pointer (some ⟨cb, 0, none⟩) ∧ s10 = .int .u64 y ∧ U64 x ∧ Boxed wx cb 26 (.int .u64 x) ∧ W.heap.size ≤ cb ∧ Keeps [] W wx)
          case first =>
            --<S
            have hiA : ∀ wx, Keeps [] W wx → wx.cell? ⟨ib, 0, none⟩ = some (.int .i64 i) := fun wx hk => (show Boxed wx ib _ _ from (hk.block ib HR.out.ibx.lt (by simp)).trans HR.out.ibx).cell
            have hi2 := hiA (W.drew.alloc (.cells #[.int .u64 0] 26)) ((Keeps.drew _).trans (Keeps.alloc _ _) (by simp))
            have hi3 := hiA (W.alloc (.cells #[.int .u64 0] 26)) (Keeps.alloc _ _)
            clear hiA
            refine wp_normal ?_
            go_region_with (first
              | (go_at_call 43; refine (HHd.out _).mono ?_; rintro e w' ⟨rfl, rfl⟩)
              | (go_at_call 44; refine (HBi.out _).mono ?_; rintro e w' ⟨rfl, rfl⟩)
              | (go_at_call 42; ((with_reducible refine (HWd.out _ p1 ?k1 hq1).mono ?_); (case k1 => first | exact Keeps.drew _ | exact (Keeps.drew _).trans (Keeps.alloc _ _) (by simp) | exact (Keeps.alloc _ _).trans (Keeps.drew _) (by simp)); rintro e w' ⟨x, rfl, hx, rfl⟩))
              | (go_at_call 42; ((with_reducible refine (HWd.out _ p2 ?k2 hq2).mono ?_); (case k2 => first | exact Keeps.drew _ | exact (Keeps.drew _).trans (Keeps.alloc _ _) (by simp) | exact (Keeps.alloc _ _).trans (Keeps.drew _) (by simp)); rintro e w' ⟨y, rfl, hy, rfl⟩))
              | fail)
            all_goals
              simp only [onlyNormal]
              go_wp2_with fail
              go_meet
              exact ⟨W.heap.size, x, y, rfl, rfl, hx, (show Boxed (W.alloc (.cells #[.int .u64 x] 26)).drew W.heap.size 26 (.int .u64 x) from alloc_new (w := W)), Nat.le_refl _, (Keeps.alloc W _).trans (Keeps.drew _) (by simp)⟩
            --S>
          case rest =>
          obtain ⟨cb, x, y, rfl, rfl, hx, hcbx, hcb, hkc⟩ := hcut
          have HRc := Lib.hid (HR.out.keeps hkc)
          have cc := hcbx.cell
          have HC := Lib.hid (And.intro hcbx (And.intro hcb (And.intro hkc hx)))
          clear hcbx hcb hkc HR HWd HHd HBi hq1 hq2 hi hp
          by_cases hx3 : 3 < x
          · go_wp2_with fail
            refine leaves_ds Ds wc (fun D hD => (HRc.out.ds D hD).1) HRc.out.nd (fun w' hk => ?_)
            exact ⟨.tuple #[.pointer none, .int .i64 6], by simp [results, Tryz.results17, go_sem], HRc.out.err hk⟩
          · obtain ⟨cl, rfl⟩ : ∃ cl : Nat, x = cl := ⟨x.toNat, by have := HC.out.2.2.2.1; omega⟩
            have hcl : cl ≤ 3 := by omega
            have hc3 : ¬ (3 : Int) < (cl : Int) := by omega
            have e3 : IntKind.i64.wrap (cl : Int) = (cl : Int) := IntWalk.i64_in _ (by omega)
            have HBk := Lib.hid (blocks_any cl wc hcl)
            clear hx3
            go_wp2_with fail
            refine HBk.out.mono ?_
            rintro e w2 ⟨rfl, hk2⟩
            have HM := Lib.hid (bmay_any y (bl cl) w2)
            obtain ⟨z, hz⟩ : ∃ z, z = bl cl := ⟨_, rfl⟩
            rw [← hz] at HM ⊢
            have HK2 := Lib.hid hk2; clear hk2 hz
            go_wp2_with fail
            refine HM.out.mono ?_
            rintro e w3 ⟨c, rfl, hk3⟩
            have HK3 := Lib.hid hk3; clear hk3
            cases c with
            | false =>
              go_wp2_with fail
              have hR3 := HRc.out.keeps (HK2.out.trans HK3.out (by simp))
              refine leaves_ds Ds w3 (fun D hD => (hR3.ds D hD).1) hR3.nd (fun w' hk => ?_)
              exact ⟨.tuple #[.pointer none, .int .i64 6], by simp [results, Tryz.results17, go_sem], hR3.err hk⟩
            | true =>
              have hR3 := HRc.out.keeps (HK2.out.trans HK3.out (by simp))
              have k23 := HK2.out.trans HK3.out (by simp)
              have hcb3 : Boxed w3 cb 26 (.int .u64 (cl : Nat)) := (k23.block cb HC.out.1.lt (by simp)).trans HC.out.1
              obtain ⟨cs, hh1, hh2⟩ := hR3.s.hdr
              obtain ⟨o1, ho1⟩ : ∃ o, cs[i * 2 + 1]? = some o := ⟨_, Array.getElem?_eq_getElem (by omega)⟩
              have ch := cell_of hh1 ho1
              have fh := free_of (i := i * 2 + 1) hh1
              have c1 := hR3.s.cells.2.1
              have cp := hR3.p.cell
              have ci := hR3.ibx.cell
              have cc3 := hcb3.cell
              obtain ⟨S1, hS1⟩ : ∃ S1, S1 = S + 1 := ⟨_, rfl⟩
              rw [← hS1] at c1
              have hi1 : (i : Int) < (S1 : Int) := by omega
              have HX := Lib.hid (And.intro hR3 (And.intro hcb3 hS1))
              clear hR3 k23 hcb3 hh1 hh2 ho1 hS1 cc
              go_upto_region 16 with fail
              go_region
              obtain ⟨w4, hw4⟩ : ∃ w4, w4 = (w3.setCell ⟨hb, i * 2 + 1, none⟩ (.int .u64 y)).drew := ⟨_, rfl⟩
              rw [← hw4]
              have hR4 : SlR w w4 n S sb hb mb pb ib (15 * i) i f u m Ds := by
                rw [hw4]
                exact ((HX.out.1.turn (HX.out.1.s.oth_head _ _) (HX.out.1.s.head _ _)).keeps (Keeps.drew _))
              have hcb4 : Boxed w4 cb 26 (.int .u64 (cl : Nat)) := by
                rw [hw4]
                exact ((HX.out.1.s.oth_head (i * 2 + 1) (.int .u64 y)).trans (Oth.of (Keeps.drew _))).cellsAt HX.out.2.1 (by decide)
              have cp4 := hR4.p.cell
              have ci4 := hR4.ibx.cell
              have cc4 := hcb4.cell
              have HG := Lib.hid (give_any hR4.s i cl hR4.i1 hiS (by omega) hcl (by omega))
              have H4 := Lib.hid (And.intro hR4 hcb4)
              clear hR4 hcb4 hw4 cp ci cc3 ch fh c1
              go_wp2_with fail
              refine HG.out.mono ?_
              rintro e w5 ⟨rfl, ho5, u5, m5, hs5⟩
              have hR5 := H4.out.1.turn ho5 hs5
              have hcb5 : Boxed w5 cb 26 (.int .u64 (cl : Nat)) := ho5.cellsAt H4.out.2 (by decide)
              have HAl := Lib.hid (all_any y w5)
              have H5 := Lib.hid (And.intro hR5 hcb5); clear hR5 hcb5 ho5 hs5 cp4 ci4 cc4
              go_wp2_with fail
              refine HAl.out.mono ?_
              rintro e w6 ⟨rfl, hw6⟩
              obtain ⟨bx, hbx⟩ : ∃ bx, bx = w5.heap.size := ⟨_, rfl⟩
              have hk6 : Keeps [] w5 w6 := by rw [hw6]; exact Keeps.alloc _ _
              have hb6 : Boxed w6 bx 26 (.int .u64 y) := by rw [hw6, hbx]; exact alloc_new
              have q1 := hb6.cell
              have hlt5 : bx < w6.heap.size := hb6.lt
              have hI6 : SlI w n S sb hb mb pb ib cb cl bx i w6.heap.size y f Ds none [] w6 := by
                obtain ⟨hR5, hcb5⟩ := H5.out
                have hR6 := hR5.keeps hk6
                have hcb6 : Boxed w6 cb 26 (.int .u64 (cl : Nat)) := (hk6.block cb hcb5.lt (by simp)).trans hcb5
                refine ⟨_, _, hR6, hcb6, hb6, (fun k e => by cases e), fun r hr => ?_, Nat.le_refl _, hR6.s.keep.size⟩
                obtain ⟨cs6, g1, _⟩ := hR6.s.hdr
                obtain ⟨L6, g2⟩ := hR6.s.map
                have l1 := lt_of hR6.s.blk
                have l2 := lt_of g1
                have l3 := g2.lt
                have l4 := hR6.p.lt
                have l5 := hR6.ibx.lt
                have l6 := hcb6.lt
                refine ⟨by omega, by omega, by omega, by omega, by omega, by omega, by omega, fun hD => ?_, fun k hk4 => ?_⟩
                · have := (Array.getElem?_eq_some_iff.1 (hR6.ds r hD).1).1; omega
                · have := lt_of (hR6.s.fr k hk4).1.blk; omega
              rw [← hbx]
              have H6 := Lib.hid hI6; clear hI6 hw6 hk6 hb6 hbx
              go_wp2_with fail
              refine (wpIn_wide (n := 5)).1 ?_
              refine wpIn_range_n (α := Nat) rfl (by omega) (gf := 77) (lb := #[.pointer (some ⟨bx, 0, none⟩)]) rfl trivial (enters_of Tryz.func77 (by kernel_rfl) rfl)
                (all1_seq 4 (by omega) bx y w6 q1)
                (fun x X Y Z h1 h2 => h2.trans h1)
                (fun x W l o o' hl ho hcells hwalk => World.putObj_heap_other (by omega))
                (fun _ => rfl)
                (SlI w n S sb hb mb pb ib cb cl bx i w6.heap.size y f Ds) (fun _ _ _ _ => False) slI_abd (fun c nb s W W' row _ h _ _ => h.elim)
                (fun nb hnb => ?h0)
                (fun nb pre x a' W => ∃ v, a' = { tmps := slLit2 pb ib cb x v, defers := [] } ∧ SlI w n S sb hb mb pb ib cb cl bx i w6.heap.size y f Ds nb pre W ∧ NbOk (w6.heap.size + 2) nb)
                ?ax ?assign ?body ?done ?stop
              case h0 =>
                obtain ⟨u, m, h1, h2, h3, h4, h5⟩ := H6.out
                exact ⟨u, m, h1, h2, h3, (fun k e j hj e2 => by have := hnb k e; have := (h1.s.fr j hj).1.row.lt e2; omega), h5⟩
              case ax =>
                rintro nb pre x a' W l o o' ⟨v, h1, h2, h3⟩ hl ho hcells hwalk
                exact ⟨v, h1, slI_abd.putObj _ h3 h2 hl ho hcells hwalk, h3⟩
              case assign =>
                intro l nb pre j W K hnb hnl hi hpx hlen hK
                dsimp only
                have HI2 := Lib.hid hi
                clear hi
                gi_wp2
                obtain ⟨v', hv'⟩ : ∃ v', _ = slLit2 pb ib cb j v' := slLit2_mk _ (by kernel_rfl)
                exact hK _ _ (KeepsRec.refl _ _) rfl ⟨v', by rw [← hv'], HI2.out, hnb⟩
              case body =>
                rintro l nb pre j a' W hnb hnl ⟨v, rfl, hi, _⟩ hlt2 hl
                unfold slLit2
                obtain ⟨u, m, hR, hcb7, hbx7, hne7, h57, h67, h77⟩ := hi
                have ci := hR.ibx.cell
                have cp := hR.p.cell
                have cc := hcb7.cell
                have e3 : IntKind.i64.wrap (cl : Int) = (cl : Int) := IntWalk.i64_in _ (by omega)
                have hcl4 : (cl : Int) < 4 := by omega
                have HBl := Lib.hid (callsIn_wide (n := 5 - 1 - 1 - 1) |>.2 (block_any i cl (j : Int) W hR.i1 (by have := hR.iS; omega) hcl))
                have HX := Lib.hid (And.intro hR (And.intro hcb7 (And.intro hbx7 (And.intro hne7 (And.intro h57 (And.intro h67 h77))))))
                clear hR hcb7 hbx7 hne7 h57 h67 h77
                gi_wp2
                refine ⟨trivial, (CallsIn.inRound l HBl.out).mono ?_⟩
                rintro e w8 ⟨a, rfl, ha, hk8⟩
                have hR8 := HX.out.1.keeps hk8
                have hcb8 : Boxed w8 cb 26 (.int .u64 (cl : Nat)) := (hk8.block cb HX.out.2.1.lt (by simp)).trans HX.out.2.1
                have hbx8 : Boxed w8 bx 26 (.int .u64 y) := (hk8.block bx HX.out.2.2.1.lt (by simp)).trans HX.out.2.2.1
                have cp8 := hR8.p.cell
                have cc8 := hcb8.cell
                have cf8 := hR8.s.cellF (k := cl) (by omega) (by omega)
                have HD8 : Hid (Calls Tryz.prog 50 #[.pointer (some ⟨f cl, 0, none⟩), .int .u64 a] w8.drew fun e w' => (∃ r, e = .returned r) ∧ GPost w8.drew (f cl) (u cl) (m cl) w') :=
                  Lib.hid (fdrop_any ((hR8.keeps (Keeps.drew w8)).s.fr cl (by omega)).1 (by have := (hR8.s.fr cl (by omega)).2.1; have := hR8.iS; omega) a)
                have H8 := Lib.hid (And.intro hR8 (And.intro hcb8 (And.intro hbx8 (And.intro hk8 ha))))
                clear hR8 hcb8 hbx8 hk8 ci cp cc ha
                gi_upto_region 21 with fail
                refine wpIn_round_still_tail 7 (by kernel_rfl) (by kernel_rfl) (by kernel_rfl) ?nolet ?_
                case nolet => rintro ⟨a, w, h⟩; exact h
                simp only [List.take_succ_cons, List.take_zero, List.drop_succ_cons, List.drop_zero]
                refine wpStill_hide (fun KK hKK => ?_)
                iterate 7 still_step
                refine wpStill_nil (hKK _ ?_)
                clear hKK KK
                have hdr : ({ w8 with drawn := w8.drawn + 1 } : World) = w8.drew := rfl
                rw [hdr]
                clear hdr
                go_wp2_with fail
                refine HD8.out.mono ?_
                rintro e w9 ⟨⟨r, rfl⟩, hg⟩
                obtain ⟨hR8, hcb8, hbx8, hk8, ha⟩ := H8.out
                obtain ⟨hR, hcb7, hbx7, hne7, h57, h67, h77⟩ := HX.out
                have hR8d := hR8.keeps (Keeps.drew w8)
                have ho9 := (Oth.of (Keeps.drew w8)).trans (hR8d.s.oth_turn (k := cl) (by omega) hg)
                obtain ⟨u9, m9, hs9, hu9⟩ := hR8d.s.turn2 (k := cl) (by omega) hg (fun x hx => by have := (hR8d.s.fr cl (by omega)).2.1; omega)
                have hR9 := hR8.turn ho9 hs9
                have hcb9 := ho9.cellsAt hcb8 (by decide)
                have hbx9 := ho9.cellsAt hbx8 (by decide)
                have cp9 := hR9.p.cell
                have c69 := hs9.cells.2.2
                obtain ⟨L, hL⟩ := hs9.map
                obtain ⟨es, clock, hup, hL2⟩ := run_update_u64 (P := Tryz.prog) (T := 123) (K := 105) (E := 3) hL Tryz.underlying123 Tryz.underlying105 a (.int .i64 2)
                have HY := Lib.hid (And.intro hR9 (And.intro hcb9 (And.intro hbx9 (And.intro hu9 (And.intro hg hL2)))))
                clear hR8 hcb8 hbx8 hk8 ha hR hcb7 hbx7 hne7 h57 h67 h77 hR8d ho9 hs9 hu9 hR9 hcb9 hbx9 hL hL2 hg cp8 cc8 cf8
                go_wp2_with fail
                gi_wp2
                obtain ⟨hR9, hcb9, hbx9, hu9, hg, hL2⟩ := HY.out
                obtain ⟨hR8, hcb8, hbx8, hk8, ha⟩ := H8.out
                obtain ⟨hR, hcb7, hbx7, hne7, h57, h67, h77⟩ := HX.out
                have ho9 : Oth W w9 := ((Oth.of hk8).trans (Oth.of (Keeps.drew w8))).trans ((hR8.keeps (Keeps.drew w8)).s.oth_turn (k := cl) (by omega) hg)
                have hkp := Keeps.putB w9 mb (.map es clock)
                have hmb : mb < w6.heap.size := by
                  by_cases h : w6.heap.size ≤ mb
                  · exact absurd rfl (h57 mb h).2.2.1
                  · omega
                have hb1 : Boxed (putB w9 mb (.map es clock)) bx 26 (.int .u64 y) := (putB_other (hR9.s.map_ne hbx9)).trans hbx9
                refine ⟨⟨Nat.le_trans ho9.1 hkp.size, fun k o hB hko hc hwk => ?_⟩, hb1.trans hbx7.symm, u9, m9, hR9.mapset hL2, (putB_other (hR9.s.map_ne hcb9)).trans hcb9, hb1, fun k hk j hj e => ?_, h57, Nat.le_trans h67 (Nat.le_trans ho9.1 hkp.size), h77⟩
                · rw [putB_other (show k ≠ mb by omega)]
                  exact ho9.2 k o hko (by cases o <;> first | trivial | cases hc | cases hwk)
                · rcases hu9 j hj with e2 | ⟨q, e2, hq⟩
                  · exact hne7 k hk j hj (by rw [← e2]; exact e)
                  · have e3 : q = k := by rw [e2] at e; exact Option.some.inj e
                    have h1 := hnl k hk
                    have h2 := hk8.size
                    have h3 : w8.heap.size ≤ q := hq
                    omega
              case done =>
                rintro D nb ys W hD hys hi hK
                obtain ⟨u, m, hR, hcb7, hbx7, hne7, h57, h67, h77⟩ := hi
                have ci := hR.ibx.cell
                have e1 : IntKind.i64.wrap ((i : Int) + 1) = (i : Int) + 1 := IntWalk.i64_in _ (by omega)
                have HX := Lib.hid (And.intro hR (And.intro hK (And.intro hD (And.intro h57 h77))))
                clear hR hcb7 hbx7 hne7 h57 h67 h77 hK hD
                go_wp2_with fail
                obtain ⟨v', hv'⟩ : ∃ v', _ = slLit g n S pb W.heap.size hb mb sb v' := slLit_mk _ (by kernel_rfl)
                obtain ⟨hR, hK, hD, h57, h77⟩ := HX.out
                refine ⟨⟨i + 1, W.heap.size, f, u, m, D :: Ds, v', by rw [← hv']; rfl, hR.next hiS hK (by omega) (fun hm => (h57 D hD).2.2.2.2.2.2.2.1 hm)⟩, ?_⟩
                have c1 : (W.alloc (.cells #[.int .i64 ((i : Int) + 1)] 3)).cell? ⟨W.heap.size, 0, none⟩ = some (.int .i64 ((i : Int) + 1)) := cell_of alloc_new rfl
                have c0 := HI0.out
                simp only [slMu, Array.getD_eq_getD_getElem?, List.getElem?_toArray, List.getElem?_cons_succ, List.getElem?_cons_zero, Option.getD_some, c0, c1]
                exact slMu_lt hiS
              case stop =>
                rintro D nb c pre W hD _ h hK
                exact h.elim
        · have hiI : ¬ (i : Int) ≤ (S : Int) := by omega
          go_wp2_with fail
          refine leaves_ds Ds W (fun D hD => (HR.out.ds D hD).1) HR.out.nd (fun w' hk => ?_)
          exact ⟨.tuple #[.pointer (some ⟨sb, 0, none⟩), .int .i64 0], by simp [results, Tryz.results17, go_sem], HR.out.end_ hk⟩
theorem slabOf_calls {w : World} {g n S : Nat} {bs : List Int} (hrow : RowAt w 5 1 (.slice (some ⟨g, 0, none⟩) n n) n (bs.map (Value.int .u8))) (hb : ∀ b ∈ bs, Byte b) (hn : n = 1024 * (S + 1)) (hS1 : 1 ≤ S) (hS : S ≤ 16) :
    Calls Tryz.prog 17 #[.slice (some ⟨g, 0, none⟩) n n] w (OfPost w S) := (callsIn_wide (n := 5)).1 (slabOf_any hrow hb hn hS1 hS)
end Go.Proofs.YtdbbbaallalhoaaGreat.sl
