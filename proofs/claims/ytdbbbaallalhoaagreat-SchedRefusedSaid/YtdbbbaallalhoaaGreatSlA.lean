/-
  PROVED HERE: how an arena's blocks (slab.Slab) lie in memory while they are made, and the contract of give. Conditions: at most 64 slabs.
-/
import Derived.Test.YtdbbbaallalhoaaGreatBtD
import Derived.Test.YtdbbbaallalhoaaGreatBtB
import Derived.Test.YtdbbbaallalhoaaGreatArE
namespace Go.Proofs.YtdbbbaallalhoaaGreat.sl
open Go.RowKit Go.Proofs.YtdbbbaallalhoaaGreat.pm Go.Proofs.YtdbbbaallalhoaaGreat.ar Go.Proofs.YtdbbbaallalhoaaGreat.bt
set_option linter.unusedVariables false
attribute [-go_sem] Builtin.append_ Instr.buildSlice

theorem blk_ne {w : World} {i j : Nat} {c d : Array Value} {T U : TypeId} (hi : w.heap[i]? = some (.cells c T (0, 0))) (hj : w.heap[j]? = some (.cells d U (0, 0))) (h : T ≠ U) : i ≠ j := by
  rintro rfl
  rw [hi] at hj
  injection hj with hj
  injection hj with _ hj
  exact h hj
theorem adr_ne {w : World} {v : Value} {n j : Nat} {d : Array Value} {U : TypeId} (h : Adr w v n) (hj : w.heap[j]? = some (.cells d U (0, 0))) (hU : 105 ≠ U) : v.ownBlock ≠ some j := by
  obtain ⟨xs, h1, _⟩ := h
  exact row_apart_blk h1 hj hU

/-- The c-th set's pointer, once it is made. -/
def pf (c : Nat) (f : Nat → Nat) (k : Nat) : Value := if k < c then .pointer (some ⟨f k, 0, none⟩) else .pointer none
/-- The Slab's cells: its size, its headers, its four sets (the first c of them), its map. -/
def slArr (n S hb mb c : Nat) (f : Nat → Nat) : Array Value := #[.int .i64 n, .slice (some ⟨hb, 0, none⟩) (S + 1) (S + 1), pf c f 0, pf c f 1, pf c f 2, pf c f 3, .map (some mb)]

/-- A Slab in the making, in new blocks. -/
structure Sl (w W : World) (n S sb hb mb c B : Nat) (f : Nat → Nat) (u : Nat → Value) (m : Nat → Nat) : Prop where
  blk : W.heap[sb]? = some (.cells (slArr n S hb mb c f) 127 (0, 0))
  hdr : ∃ cs : Array Value, W.heap[hb]? = some (.cells cs 134 (0, 0)) ∧ cs.size = 2 * (S + 1)
  fr : ∀ k, k < c → FrAt W (f k) (u k) (m k) ∧ m k ≤ B ∧ w.heap.size ≤ f k ∧ ∀ q, (u k).ownBlock = some q → w.heap.size ≤ q
  sep : ∀ j k, j < c → k < c → j ≠ k → f j ≠ f k ∧ ∀ q, (u j).ownBlock = some q → (u k).ownBlock ≠ some q
  map : ∃ L, MapIs W mb L
  keep : Keeps [] w W
  new : w.heap.size ≤ sb ∧ w.heap.size ≤ hb ∧ w.heap.size ≤ mb

/-- Objects that stay while sets are turned: all but headers, sets, rows of addresses, Slabs, maps. -/
def keepObj : Obj → Prop
  | .cells _ U _ => U ≠ 134 ∧ U ≠ 161 ∧ U ≠ 105 ∧ U ≠ 127
  | .map _ _ => False
  | _ => True
def Oth (W W' : World) : Prop := W.heap.size ≤ W'.heap.size ∧ ∀ (i : Nat) (o : Obj), W.heap[i]? = some o → keepObj o → W'.heap[i]? = some o
theorem Oth.refl (W : World) : Oth W W := ⟨Nat.le_refl _, fun _ _ h _ => h⟩
theorem Oth.trans {A B C : World} (h : Oth A B) (k : Oth B C) : Oth A C := ⟨Nat.le_trans h.1 k.1, fun i o hi ho => k.2 i o (h.2 i o hi ho) ho⟩
theorem Oth.keeps {F : List Nat} {A B : World} (hk : Keeps F A B) (hF : ∀ i ∈ F, ∀ o : Obj, A.heap[i]? = some o → ¬ keepObj o) : Oth A B :=
  ⟨hk.size, fun i o hi ho => (hk.block i (Array.getElem?_eq_some_iff.1 hi).1 (fun hm => hF i hm o hi ho)).trans hi⟩
theorem Oth.of {A B : World} (hk : Keeps [] A B) : Oth A B := Oth.keeps hk (by simp)
theorem Oth.cellsAt {A B : World} {i : Nat} {d : Array Value} {U : TypeId} (h : Oth A B) (hi : A.heap[i]? = some (.cells d U (0, 0))) (hU : U ≠ 134 ∧ U ≠ 161 ∧ U ≠ 105 ∧ U ≠ 127) : B.heap[i]? = some (.cells d U (0, 0)) := h.2 i _ hi hU
section
variable {w W W' : World} {n S sb hb mb c B : Nat} {f : Nat → Nat} {u : Nat → Value} {m : Nat → Nat}
theorem Sl.cellF (h : Sl w W n S sb hb mb c B f u m) {k : Nat} (hk : k < c) (h4 : k < 4) : W.cell? ⟨sb, 2 + k, none⟩ = some (.pointer (some ⟨f k, 0, none⟩)) := by
  refine cell_of h.blk ?_
  have : pf c f k = .pointer (some ⟨f k, 0, none⟩) := by simp [pf, hk]
  rw [← this]
  rcases k with _ | _ | _ | _ | k <;> first | rfl | omega
theorem Sl.cells (h : Sl w W n S sb hb mb c B f u m) : W.cell? ⟨sb, 0, none⟩ = some (.int .i64 n) ∧ W.cell? ⟨sb, 1, none⟩ = some (.slice (some ⟨hb, 0, none⟩) (S + 1) (S + 1)) ∧ W.cell? ⟨sb, 6, none⟩ = some (.map (some mb)) := ⟨cell_of h.blk rfl, cell_of h.blk rfl, cell_of h.blk rfl⟩
/-- Only new blocks, and such as are named and none of the Slab's, are turned. -/
theorem Sl.same {F : List Nat} (h : Sl w W n S sb hb mb c B f u m) (hk : Keeps F W W') (hF : ∀ i ∈ F, w.heap.size ≤ i ∧ i ≠ sb ∧ i ≠ hb ∧ i ≠ mb ∧ (∀ k, k < c → i ≠ f k ∧ (u k).ownBlock ≠ some i)) : Sl w W' n S sb hb mb c B f u m where
  blk := (hk.block sb (lt_of h.blk) (fun hi => (hF _ hi).2.1 rfl)).trans h.blk
  hdr := by
    obtain ⟨cs, h1, h2⟩ := h.hdr
    exact ⟨cs, (hk.block hb (lt_of h1) (fun hi => (hF _ hi).2.2.1 rfl)).trans h1, h2⟩
  fr := fun k hkc => by
    obtain ⟨h1, h2⟩ := h.fr k hkc
    exact ⟨h1.keeps hk (fun hi => ((hF _ hi).2.2.2.2 k hkc).1 rfl) (fun q hq hi => ((hF _ hi).2.2.2.2 k hkc).2 hq), h2⟩
  sep := h.sep
  map := by
    obtain ⟨L, hL⟩ := h.map
    exact ⟨L, hL.same (hk.block mb hL.lt (fun hi => (hF _ hi).2.2.2.1 rfl))⟩
  keep := h.keep.trans hk (fun i hi => .inr (hF i hi).1)
  new := h.new
theorem Sl.keeps (h : Sl w W n S sb hb mb c B f u m) (hk : Keeps [] W W') : Sl w W' n S sb hb mb c B f u m := h.same hk (by simp)
theorem Sl.map_ne (h : Sl w W n S sb hb mb c B f u m) {i : Nat} {d : Array Value} {U : TypeId} (hi : W.heap[i]? = some (.cells d U (0, 0))) : i ≠ mb := by
  obtain ⟨L, es, clock, h1, _⟩ := h.map
  rintro rfl
  rw [hi] at h1
  cases h1
/-- A cell of a block of another type is set. -/
theorem Sl.other (h : Sl w W n S sb hb mb c B f u m) {i : Nat} {d : Array Value} {U : TypeId} (hi : W.heap[i]? = some (.cells d U (0, 0))) (hU : U ≠ 127 ∧ U ≠ 134 ∧ U ≠ 161 ∧ U ≠ 105) (hw : w.heap.size ≤ i) (hk : Keeps [i] W W') : Sl w W' n S sb hb mb c B f u m :=
  h.same hk (fun j hj => by
    simp only [List.mem_singleton] at hj
    subst hj
    obtain ⟨cs, h1, _⟩ := h.hdr
    exact ⟨hw, blk_ne hi h.blk hU.1, blk_ne hi h1 hU.2.1, h.map_ne hi, fun k hkc => ⟨blk_ne hi (h.fr k hkc).1.blk hU.2.2.1, adr_ne (h.fr k hkc).1.row hi (Ne.symm hU.2.2.2)⟩⟩)
/-- A header is set. -/
theorem Sl.head (h : Sl w W n S sb hb mb c B f u m) (j : Nat) (v : Value) : Sl w (W.setCell ⟨hb, j, none⟩ v) n S sb hb mb c B f u m := by
  obtain ⟨cs, h1, h2⟩ := h.hdr
  have hk := Keeps.setCell W hb j v
  exact ⟨(hk.block sb (lt_of h.blk) (by simp; exact blk_ne h.blk h1 (by decide))).trans h.blk, ⟨_, set_same h1, by simpa using h2⟩,
    fun k hkc => by
      obtain ⟨g1, g2⟩ := h.fr k hkc
      exact ⟨g1.keeps hk (by simp; exact blk_ne g1.blk h1 (by decide)) (fun q hq hi => by simp at hi; subst hi; exact adr_ne g1.row h1 (by decide) hq), g2⟩,
    h.sep, by obtain ⟨L, hL⟩ := h.map; exact ⟨L, hL.same (hk.block mb hL.lt (by simp; exact Ne.symm (h.map_ne h1)))⟩, h.keep.trans hk (fun i hi => .inr (by simp at hi; subst hi; exact h.new.2.1)), h.new⟩
theorem Sl.oth_head (h : Sl w W n S sb hb mb c B f u m) (j : Nat) (v : Value) : Oth W (W.setCell ⟨hb, j, none⟩ v) :=
  Oth.keeps (Keeps.setCell W hb j v) (fun i hi o ho hk => by
    simp only [List.mem_singleton] at hi
    subst hi
    obtain ⟨cs, h1, _⟩ := h.hdr
    rw [h1] at ho
    cases ho
    exact hk.1 rfl)
theorem Sl.oth_turn (h : Sl w W n S sb hb mb c B f u m) {k : Nat} (hk : k < c) {M : Nat} (hp : GPost W (f k) (u k) M W') : Oth W W' := by
  obtain ⟨v', n', hn', hF, hkp, ho⟩ := hp
  obtain ⟨g1, g2, g3, g4⟩ := h.fr k hk
  refine Oth.keeps hkp (fun i hi o ho' hko => ?_)
  simp only [List.mem_cons, Option.mem_toList] at hi
  rcases hi with rfl | hi
  · rw [g1.blk] at ho'; cases ho'; exact hko.2.1 rfl
  · obtain ⟨xs, r1, _⟩ := g1.row
    rcases r1.2 with ⟨e, _⟩ | ⟨g, off, cap, cur, e, hg, _⟩
    · rw [e] at hi; cases hi
    · rw [e] at hi; cases hi; rw [hg] at ho'; cases ho'; exact hko.2.2.1 rfl
/-- A set takes an address, or lets one go. -/
theorem Sl.turn (h : Sl w W n S sb hb mb c B f u m) {k : Nat} (hk : k < c) {M B' : Nat} (hp : GPost W (f k) (u k) M W') (hB : ∀ x, x ≤ M → x ≤ B' ) (hBB : B ≤ B') : ∃ u' m', Sl w W' n S sb hb mb c B' f u' m' := by
  obtain ⟨v', n', hn', hF, hkp, ho⟩ := hp
  obtain ⟨g1, g2, g3, g4⟩ := h.fr k hk
  have own' : ∀ q, v'.ownBlock = some q → w.heap.size ≤ q := fun q hq => by
    rcases ho with e | ⟨q', e, hle⟩
    · exact g4 q (by rw [← e]; exact hq)
    · rw [e] at hq; cases hq; exact Nat.le_trans h.keep.size hle
  have hF' : ∀ i ∈ f k :: (u k).ownBlock.toList, w.heap.size ≤ i := fun i hi => by
    simp only [List.mem_cons, Option.mem_toList] at hi
    rcases hi with rfl | hi
    · exact g3
    · exact g4 i hi
  have hne : ∀ (i : Nat) (d : Array Value) (U : TypeId), W.heap[i]? = some (.cells d U (0, 0)) → U ≠ 161 → U ≠ 105 → i ∉ f k :: (u k).ownBlock.toList := fun i d U hi h1 h2 hm => by
    simp only [List.mem_cons, Option.mem_toList] at hm
    rcases hm with rfl | hm
    · exact blk_ne hi g1.blk h1 rfl
    · exact adr_ne g1.row hi (Ne.symm h2) hm
  obtain ⟨cs, hh1, hh2⟩ := h.hdr
  obtain ⟨L, hL⟩ := h.map
  have hmb : mb ∉ f k :: (u k).ownBlock.toList := fun hm => by
    simp only [List.mem_cons, Option.mem_toList] at hm
    rcases hm with e | hm
    · exact h.map_ne g1.blk e.symm
    · obtain ⟨xs, r1, _⟩ := g1.row
      rcases r1.2 with ⟨e, _⟩ | ⟨g, off, cap, cur, e, hg, _⟩
      · rw [e] at hm; cases hm
      · rw [e] at hm; cases hm; exact h.map_ne hg rfl
  refine ⟨fun j => if j = k then v' else u j, fun j => if j = k then n' else m j, (hkp.block sb (lt_of h.blk) (hne sb _ _ h.blk (by decide) (by decide))).trans h.blk, ⟨cs, (hkp.block hb (lt_of hh1) (hne hb _ _ hh1 (by decide) (by decide))).trans hh1, hh2⟩, fun j hj => ?_, fun i j hi hj hij => ?_, ⟨L, hL.same (hkp.block mb hL.lt hmb)⟩, h.keep.trans hkp (fun i hi => .inr (hF' i hi)), h.new⟩
  · by_cases e : j = k
    · subst e
      simp only
      exact ⟨hF, hB _ hn', g3, own'⟩
    · simp only [if_neg e]
      obtain ⟨j1, j2, j3, j4⟩ := h.fr j hj
      have s1 := h.sep j k hj hk e
      refine ⟨j1.keeps hkp (fun hm => ?_) (fun q hq hm => ?_), Nat.le_trans j2 hBB, j3, j4⟩
      · simp only [List.mem_cons, Option.mem_toList] at hm
        rcases hm with hm | hm
        · exact s1.1 hm
        · exact adr_ne g1.row j1.blk (by decide) hm
      · simp only [List.mem_cons, Option.mem_toList] at hm
        rcases hm with rfl | hm
        · exact adr_ne j1.row g1.blk (by decide) hq
        · exact s1.2 q hq hm
  · have s1 := h.sep i j hi hj hij
    refine ⟨s1.1, fun q hq => ?_⟩
    have nw : ∀ x, x < c → x ≠ k → ∀ q, (u x).ownBlock = some q → v'.ownBlock ≠ some q := fun x hx hxk q hq e => by
      rcases ho with e2 | ⟨q', e2, hle⟩
      · rw [e2] at e; exact (h.sep x k hx hk hxk).2 q hq e
      · rw [e2] at e; cases e; have := (h.fr x hx).1.row.lt hq; omega
    by_cases ei : i = k
    · subst ei
      have ej : j ≠ i := Ne.symm hij
      simp only at hq
      simp only [if_neg ej]
      exact fun e => nw j hj ej q e hq
    · simp only [if_neg ei] at hq
      by_cases ej : j = k
      · subst ej
        simp only
        exact nw i hi ei q hq
      · simp only [if_neg ej]
        exact s1.2 q hq
theorem Sl.turn2 (h : Sl w W n S sb hb mb c B f u m) {k : Nat} (hk : k < c) {M : Nat} (hp : GPost W (f k) (u k) M W') (hB : ∀ x, x ≤ M → x ≤ B) : ∃ u' m', Sl w W' n S sb hb mb c B f u' m' ∧ ∀ j, j < c → (u' j).ownBlock = (u j).ownBlock ∨ ∃ q, (u' j).ownBlock = some q ∧ W.heap.size ≤ q := by
  obtain ⟨v', n', hn', hF, hkp, ho⟩ := hp
  obtain ⟨g1, g2, g3, g4⟩ := h.fr k hk
  have own' : ∀ q, v'.ownBlock = some q → w.heap.size ≤ q := fun q hq => by
    rcases ho with e | ⟨q', e, hle⟩
    · exact g4 q (by rw [← e]; exact hq)
    · rw [e] at hq; cases hq; exact Nat.le_trans h.keep.size hle
  have hF' : ∀ i ∈ f k :: (u k).ownBlock.toList, w.heap.size ≤ i := fun i hi => by
    simp only [List.mem_cons, Option.mem_toList] at hi
    rcases hi with rfl | hi
    · exact g3
    · exact g4 i hi
  have hne : ∀ (i : Nat) (d : Array Value) (U : TypeId), W.heap[i]? = some (.cells d U (0, 0)) → U ≠ 161 → U ≠ 105 → i ∉ f k :: (u k).ownBlock.toList := fun i d U hi h1 h2 hm => by
    simp only [List.mem_cons, Option.mem_toList] at hm
    rcases hm with rfl | hm
    · exact blk_ne hi g1.blk h1 rfl
    · exact adr_ne g1.row hi (Ne.symm h2) hm
  obtain ⟨cs, hh1, hh2⟩ := h.hdr
  obtain ⟨L, hL⟩ := h.map
  have hmb : mb ∉ f k :: (u k).ownBlock.toList := fun hm => by
    simp only [List.mem_cons, Option.mem_toList] at hm
    rcases hm with e | hm
    · exact h.map_ne g1.blk e.symm
    · obtain ⟨xs, r1, _⟩ := g1.row
      rcases r1.2 with ⟨e, _⟩ | ⟨g, off, cap, cur, e, hg, _⟩
      · rw [e] at hm; cases hm
      · rw [e] at hm; cases hm; exact h.map_ne hg rfl
  refine ⟨fun j => if j = k then v' else u j, fun j => if j = k then n' else m j, ⟨(hkp.block sb (lt_of h.blk) (hne sb _ _ h.blk (by decide) (by decide))).trans h.blk, ⟨cs, (hkp.block hb (lt_of hh1) (hne hb _ _ hh1 (by decide) (by decide))).trans hh1, hh2⟩, fun j hj => ?_, fun i j hi hj hij => ?_, ⟨L, hL.same (hkp.block mb hL.lt hmb)⟩, h.keep.trans hkp (fun i hi => .inr (hF' i hi)), h.new⟩, fun j hj => ?_⟩
  · by_cases e : j = k
    · subst e
      simp only
      exact ⟨hF, hB _ hn', g3, own'⟩
    · simp only [if_neg e]
      obtain ⟨j1, j2, j3, j4⟩ := h.fr j hj
      have s1 := h.sep j k hj hk e
      refine ⟨j1.keeps hkp (fun hm => ?_) (fun q hq hm => ?_), j2, j3, j4⟩
      · simp only [List.mem_cons, Option.mem_toList] at hm
        rcases hm with hm | hm
        · exact s1.1 hm
        · exact adr_ne g1.row j1.blk (by decide) hm
      · simp only [List.mem_cons, Option.mem_toList] at hm
        rcases hm with rfl | hm
        · exact adr_ne j1.row g1.blk (by decide) hq
        · exact s1.2 q hq hm
  · have s1 := h.sep i j hi hj hij
    refine ⟨s1.1, fun q hq => ?_⟩
    have nw : ∀ x, x < c → x ≠ k → ∀ q, (u x).ownBlock = some q → v'.ownBlock ≠ some q := fun x hx hxk q hq e => by
      rcases ho with e2 | ⟨q', e2, hle⟩
      · rw [e2] at e; exact (h.sep x k hx hk hxk).2 q hq e
      · rw [e2] at e; cases e; have := (h.fr x hx).1.row.lt hq; omega
    by_cases ei : i = k
    · subst ei
      have ej : j ≠ i := Ne.symm hij
      simp only at hq
      simp only [if_neg ej]
      exact fun e => nw j hj ej q e hq
    · simp only [if_neg ei] at hq
      by_cases ej : j = k
      · subst ej
        simp only
        exact nw i hi ei q hq
      · simp only [if_neg ej]
        exact s1.2 q hq
  · by_cases e : j = k
    · subst e
      simp only
      exact ho
    · left; simp only [if_neg e]
end

set_option maxHeartbeats 2000000 in
theorem give_any {w W : World} {n S sb hb mb B : Nat} {f : Nat → Nat} {u : Nat → Value} {m : Nat → Nat} (h : Sl w W n S sb hb mb 4 B f u m) (i cl : Nat) (h1 : 1 ≤ i) (h2 : i ≤ S) (hS : S ≤ 64) (hc : cl ≤ 3) (hB : B ≤ 1900) :
    Calls Tryz.prog 47 #[.pointer (some ⟨sb, 0, none⟩), .int .i64 i, .int .i64 cl] W fun e W' => e = .returned (.tuple #[]) ∧ Oth W W' ∧ ∃ u' m', Sl w W' n S sb hb mb 4 (B + 15) f u' m' := by
  have c1 := h.cells.2.1
  obtain ⟨cs, hh1, hh2⟩ := h.hdr
  obtain ⟨o1, ho1⟩ : ∃ o, cs[i * 2]? = some o := ⟨_, Array.getElem?_eq_getElem (by omega)⟩
  have ch := cell_of hh1 ho1
  have fh := free_of (i := i * 2) hh1
  obtain ⟨S1, hS1⟩ : ∃ S1, S1 = S + 1 := ⟨_, rfl⟩
  rw [← hS1] at c1
  have hi1 : (i : Int) < (S1 : Int) := by omega
  have HB := Lib.hid (fun wx => blocks_any cl wx hc)
  have HBl := Lib.hid (fun (j : Int) wx => block_any i cl j wx h1 (by omega) hc)
  have hyb := bl_le cl
  obtain ⟨y, hy⟩ : ∃ y : Nat, (y : Int) = bl cl := ⟨(bl cl).toNat, by omega⟩
  rw [← hy] at HB hyb
  have hcl4 : (cl : Int) < 4 := by omega
  have HH := Lib.hid (And.intro h hS1)
  clear h hh1 hh2 ho1 hy hS1
  go_enter Tryz.func47, Tryz.ntmps47
  go_wp2_with fail
  obtain ⟨W1, hW1⟩ : ∃ W1, W1 = W.setCell ⟨hb, i * 2, none⟩ (.int .i64 cl) := ⟨_, rfl⟩
  have hs1 : Sl w W1 n S sb hb mb 4 B f u m := by rw [hW1]; exact HH.out.1.head _ _
  rw [← hW1]
  have ho1 : Oth W W1 := by rw [hW1]; exact HH.out.1.oth_head _ _
  have HS1 := Lib.hid (And.intro hs1 ho1); clear hs1 hW1 ho1
  refine (HB.out W1).mono ?_
  rintro e w2 ⟨rfl, hk2⟩
  have HS2 := Lib.hid (And.intro (HS1.out.1.keeps hk2) (HS1.out.2.trans (Oth.of hk2))); clear hk2
  go_wp2_with fail
  go_loopw [17] (fun s17 wr => ∃ (j : Nat) (u' : Nat → Value) (m' : Nat → Nat), (j : Int) ≤ y ∧ s17 = .int .i64 j ∧ Sl w wr n S sb hb mb 4 (B + j) f u' m' ∧ Oth W wr) (fun s17 _ => y - (intOf s17).toNat)
  case atStart => exact ⟨0, u, m, by omega, rfl, HS2.out.1, HS2.out.2⟩
  case round =>
    obtain ⟨j, u', m', hj, rfl, hs, hoth⟩ := hrel
    by_cases hlt : j < y
    · have hjI : (j : Int) < (y : Int) := by omega
      have cf := hs.cellF (k := cl) (by omega) (by omega)
      have HSl := Lib.hid hs
      have HOt := Lib.hid hoth; clear hoth
      have HP : Hid (∀ wx a, Keeps [] wr.drew wx → U64 a → Calls Tryz.prog 75 #[.pointer (some ⟨f cl, 0, none⟩), .int .u64 a] wx fun e w' => (∃ u, e = .returned u) ∧ GPost wx (f cl) (u' cl) (m' cl + 1) w') := Lib.hid fun wx a hk ha => by
        have g := (hs.keeps ((Keeps.drew wr).trans hk (by simp))).fr cl (by omega)
        exact fput_any g.1 (by omega) a ha
      have HBj := Lib.hid (HBl.out j wr.drew)
      clear hs
      go_upto_region 4 with fail
      go_region_with (first
        | (go_at_call 49; refine HBj.out.mono ?_; rintro e w3 ⟨a, rfl, ha, hk3⟩; have cf3 := (HSl.out.keeps ((Keeps.drew wr).trans hk3 (by simp))).cellF (k := cl) (by omega) (by omega))
        | (go_at_call 75; refine (HP.out _ _ (by assumption) (by assumption)).mono ?_; rintro e w4 ⟨⟨r, rfl⟩, hg⟩)
        | fail)
      all_goals
        have hs3 := HSl.out.keeps ((Keeps.drew wr).trans hk3 (by simp))
        obtain ⟨u2, m2, hs4⟩ := hs3.turn (k := cl) (B' := B + (j + 1)) (by omega) hg (fun x hx => by have := (hs3.fr cl (by omega)).2.1; omega) (by omega)
        have ho4 := (HOt.out.trans (Oth.of ((Keeps.drew wr).trans hk3 (by simp)))).trans (hs3.oth_turn (k := cl) (by omega) hg)
        have H4 := Lib.hid (And.intro hs4 ho4); clear hs3 hs4 hg hk3 cf3 ho4
        go_wp2_with fail
        go_roundw
        case rel => exact ⟨j + 1, u2, m2, by omega, by go_num, H4.out.1, H4.out.2⟩
        case measure => simp [intOf]; omega
    · obtain rfl : j = y := by omega
      have HX := Lib.hid hs; clear hs
      have HOt := Lib.hid hoth; clear hoth
      go_wp2_with fail
      go_end0
      exact ⟨rfl, HOt.out, u', m', { HX.out with fr := fun k hk => by have := HX.out.fr k hk; exact ⟨this.1, by omega, this.2.2⟩ }⟩
end Go.Proofs.YtdbbbaallalhoaaGreat.sl
