/-
  PROVED HERE: what a memory of package pmem is, in a world and as plain data; how it lasts while other blocks are turned. No condition.
-/
import Derived.Test.YtdbbbaallalhoaaGreatRow
import Derived.Test.YtdbbbaallalhoaaGreatMapB
namespace Go.Proofs.YtdbbbaallalhoaaGreat.pm
open Go.RowKit

/-! ### plain data -/
/-- What is pending of a line, and how many of it each client marked. -/
structure Line where
  puts : List (Int × Int)
  marks : List Int

/-- A memory: what is seen, what has lasted, the lines in the order of the map's entries, what was done. -/
structure Mod where
  view : List Int
  image : List Int
  lines : List (Int × Line)
  s0 : Int
  s1 : Int
  s2 : Int
  s3 : Int

def flat : List (Int × Int) → List Value
  | [] => []
  | p :: r => .int .u64 p.1 :: .int .u64 p.2 :: flat r

theorem flat_length : ∀ l : List (Int × Int), (flat l).length = l.length * 2
  | [] => rfl
  | p :: r => by simp [flat, flat_length r]; omega
theorem flat_append : ∀ (l r : List (Int × Int)), flat (l ++ r) = flat l ++ flat r
  | [], r => rfl
  | p :: l, r => by simp [flat, flat_append l r]
theorem flat_get : ∀ (l : List (Int × Int)) (i : Nat) (p : Int × Int), l[i]? = some p → (flat l)[2 * i]? = some (.int .u64 p.1) ∧ (flat l)[2 * i + 1]? = some (.int .u64 p.2)
  | [], i, p, h => by simp at h
  | q :: r, 0, p, h => by simp at h; subst h; exact ⟨rfl, rfl⟩
  | q :: r, i + 1, p, h => by
    have := flat_get r i p (by simpa using h)
    have e : 2 * (i + 1) = 2 * i + 1 + 1 := by omega
    rw [e]
    simpa [flat] using this
theorem flat_drop : ∀ (l : List (Int × Int)) (n : Nat), flat (l.drop n) = (flat l).drop (2 * n)
  | l, 0 => by simp
  | [], n + 1 => by simp [flat]
  | p :: r, n + 1 => by
    have e : 2 * (n + 1) = 2 * n + 1 + 1 := by omega
    rw [e]
    simpa [flat] using flat_drop r n

/-! ### a line's value -/
def lineArr (sv : Value) (marks : List Int) : Array Value := (sv :: marks.map (Value.int .i64)).toArray

def LineAt (w : World) (v : Value) (l : Line) : Prop := ∃ sv, v = .agg (lineArr sv l.marks) ∧ l.marks.length = 65 ∧ RowAt w 253 2 sv l.puts.length (flat l.puts)

/-- The block of a line's puts. -/
def blk : Value → Option Nat
  | .agg A => (A.getD 0 undef).ownBlock
  | _ => none

theorem lineArr_size {sv : Value} {marks : List Int} (h : marks.length = 65) : (lineArr sv marks).size = 66 := by simp [lineArr, h]
theorem lineArr_zero {sv : Value} {marks : List Int} : (lineArr sv marks)[0]? = some sv := by simp [lineArr]
theorem lineArr_mark {sv : Value} {marks : List Int} {i : Nat} {m : Int} (h : marks[i]? = some m) : (lineArr sv marks)[i + 1]? = some (.int .i64 m) := by simp [lineArr, h]
theorem lineArr_set {sv sv' : Value} {marks : List Int} : (lineArr sv marks).setIfInBounds 0 sv' = lineArr sv' marks := by simp [lineArr]
theorem lineArr_setMark {sv : Value} {marks : List Int} {i : Nat} {m : Int} : (lineArr sv marks).setIfInBounds (i + 1) (.int .i64 m) = lineArr sv (marks.set i m) := by simp [lineArr, List.map_set]
theorem blk_lineArr {sv : Value} {marks : List Int} : blk (.agg (lineArr sv marks)) = sv.ownBlock := by simp [blk, lineArr]

theorem RowAt.oneCell {w : World} {T : TypeId} {sz n : Nat} {v : Value} {xs : List Value} (h : RowAt w T sz v n xs) : v.oneCell' = true := by
  obtain ⟨_, ⟨rfl, _⟩ | ⟨_, _, _, _, rfl, _⟩⟩ := h <;> rfl
theorem lineArr_one {sv : Value} {marks : List Int} (h : sv.oneCell' = true) : (lineArr sv marks).all (·.oneCell') = true := by
  rw [Array.all_eq_true_iff_forall_mem]
  intro x hx
  simp only [lineArr, List.mem_toArray, List.mem_cons, List.mem_map] at hx
  rcases hx with rfl | ⟨m, _, rfl⟩
  · exact h
  · rfl

theorem LineAt.same {w w' : World} {v : Value} {l : Line} (h : LineAt w v l) (hs : ∀ g, blk v = some g → w'.heap[g]? = w.heap[g]?) : LineAt w' v l := by
  obtain ⟨sv, rfl, hm, hr⟩ := h
  exact ⟨sv, rfl, hm, hr.same fun g hg => hs g (by rw [blk_lineArr]; exact hg)⟩
theorem LineAt.lt {w : World} {v : Value} {l : Line} (h : LineAt w v l) {g : Nat} (hg : blk v = some g) : g < w.heap.size := by
  obtain ⟨sv, rfl, hm, hr⟩ := h
  exact hr.lt (by rw [← blk_lineArr (marks := l.marks)]; exact hg)

/-! ### a memory in a world -/
/-- Where a memory lies. -/
structure Pl where
  vb : Nat
  voff : Nat
  vcap : Nat
  ib : Nat
  ioff : Nat
  icap : Nat
  mb : Nat
  L : List (Int × Value)

def Pl.view (p : Pl) (n : Nat) : Value := .slice (some ⟨p.vb, p.voff, none⟩) n p.vcap
def Pl.image (p : Pl) (n : Nat) : Value := .slice (some ⟨p.ib, p.ioff, none⟩) n p.icap
def blks (L : List (Int × Value)) : List Nat := L.filterMap fun q => blk q.2
/-- All blocks of the memory whose own block is b. -/
def Pl.foot (p : Pl) (b : Nat) : List Nat := b :: p.vb :: p.ib :: p.mb :: blks p.L

def LinesAt (w : World) (L : List (Int × Value)) (M : List (Int × Line)) : Prop :=
  L.length = M.length ∧ ∀ (i : Nat) (k : Int) (v : Value), L[i]? = some (k, v) → ∃ l, M[i]? = some (k, l) ∧ LineAt w v l

/-- The keys, each once. -/
def Uniq {α : Type} (L : List (Int × α)) : Prop := (L.map (·.1)).Nodup

structure IsMem (w : World) (b : Nat) (p : Pl) (M : Mod) : Prop where
  blkAt : MemAt w b (p.view M.view.length) (p.image M.image.length) p.mb M.s0 M.s1 M.s2 M.s3
  view : RowAt w 26 1 (p.view M.view.length) M.view.length (M.view.map (Value.int .u64))
  image : RowAt w 26 1 (p.image M.image.length) M.image.length (M.image.map (Value.int .u64))
  map : MapIs w p.mb p.L
  lines : LinesAt w p.L M.lines
  sep : (p.foot b).Nodup
  uniq : Uniq p.L

theorem mem_blks {L : List (Int × Value)} {g : Nat} : g ∈ blks L ↔ ∃ q ∈ L, blk q.2 = some g := by simp [blks, List.mem_filterMap]

theorem IsMem.lt {w : World} {b : Nat} {p : Pl} {M : Mod} (h : IsMem w b p M) : ∀ i ∈ p.foot b, i < w.heap.size := by
  intro i hi
  simp only [Pl.foot, List.mem_cons] at hi
  rcases hi with rfl | rfl | rfl | rfl | hi
  · exact lt_of h.blkAt
  · exact h.view.lt rfl
  · exact h.image.lt rfl
  · exact h.map.lt
  · obtain ⟨q, hq, hg⟩ := mem_blks.1 hi
    obtain ⟨j, hj⟩ := List.getElem?_of_mem hq
    obtain ⟨l, _, hl⟩ := h.lines.2 j q.1 q.2 hj
    exact hl.lt hg

/-- It lasts where its blocks do. -/
theorem IsMem.same {w w' : World} {b : Nat} {p : Pl} {M : Mod} (h : IsMem w b p M) (hs : ∀ i ∈ p.foot b, w'.heap[i]? = w.heap[i]?) : IsMem w' b p M where
  blkAt := (hs b (by simp [Pl.foot])).trans h.blkAt
  view := h.view.same fun g hg => by cases hg; exact hs _ (by simp [Pl.foot])
  image := h.image.same fun g hg => by cases hg; exact hs _ (by simp [Pl.foot])
  map := h.map.same (hs _ (by simp [Pl.foot]))
  lines := ⟨h.lines.1, fun i k v hi => by
    obtain ⟨l, h1, h2⟩ := h.lines.2 i k v hi
    exact ⟨l, h1, h2.same fun g hg => hs g (by
      simp only [Pl.foot, List.mem_cons]
      exact .inr (.inr (.inr (.inr (mem_blks.2 ⟨(k, v), List.mem_of_getElem? hi, hg⟩)))))⟩⟩
  sep := h.sep
  uniq := h.uniq

/-- Only blocks of F, and new ones, are turned. -/
structure Keeps (F : List Nat) (w w' : World) : Prop where
  size : w.heap.size ≤ w'.heap.size
  block : ∀ i, i < w.heap.size → i ∉ F → w'.heap[i]? = w.heap[i]?
  os : w'.os = w.os
  tape : w'.tape = w.tape
  output : w'.output = w.output

theorem Keeps.refl (F : List Nat) (w : World) : Keeps F w w := ⟨Nat.le_refl _, fun _ _ _ => rfl, rfl, rfl, rfl⟩
/-- .. what is new behind the first step may be turned in the second. -/
theorem Keeps.trans {F G : List Nat} {u v w : World} (h : Keeps F u v) (h' : Keeps G v w) (hG : ∀ i ∈ G, i ∈ F ∨ u.heap.size ≤ i) : Keeps F u w where
  size := Nat.le_trans h.size h'.size
  block i hi hn := by
    rw [h'.block i (Nat.lt_of_lt_of_le hi h.size) (fun hg => (hG i hg).elim hn (fun hle => by omega))]
    exact h.block i hi hn
  os := h'.os.trans h.os
  tape := h'.tape.trans h.tape
  output := h'.output.trans h.output
theorem Keeps.mono {F G : List Nat} {u v : World} (h : Keeps F u v) (hG : ∀ i ∈ F, i ∈ G ∨ u.heap.size ≤ i) : Keeps G u v where
  size := h.size
  block i hi hn := h.block i hi fun hf => (hG i hf).elim hn (fun hle => by omega)
  os := h.os
  tape := h.tape
  output := h.output
theorem Keeps.setCell (w : World) (b i : Nat) (v : Value) : Keeps [b] w (w.setCell ⟨b, i, none⟩ v) :=
  ⟨by simp, fun j _ hj => set_other (fun e => hj (by simp [e])), rfl, rfl, rfl⟩
theorem Keeps.alloc (w : World) (o : Obj) : Keeps [] w (w.alloc o) :=
  ⟨by simp, fun j hj _ => (MapKept.heap_alloc w o).2 j hj, rfl, rfl, rfl⟩
theorem Keeps.drew (w : World) : Keeps [] w w.drew := ⟨Nat.le_refl _, fun _ _ _ => rfl, rfl, rfl, rfl⟩
theorem Keeps.drewBy (w : World) (d : Nat) : Keeps [] w { w with drawn := w.drawn + d } := ⟨Nat.le_refl _, fun _ _ _ => rfl, rfl, rfl, rfl⟩
theorem Keeps.putB (w : World) (b : Nat) (o : Obj) : Keeps [b] w (putB w b o) :=
  ⟨by rw [putB_size]; exact Nat.le_refl _, fun j _ hj => putB_other (fun e => hj (by simp [e])), rfl, rfl, rfl⟩
theorem Keeps.grown {w w' : World} {r : Option Nat} (h : w.grownBy w' r) : Keeps r.toList w w' :=
  ⟨h.size, fun i hi hn => h.block i hi (fun e => hn (by simp [← e])), h.os, h.tape, h.output⟩
theorem IsMem.keeps {w w' : World} {b : Nat} {p : Pl} {M : Mod} {F : List Nat} (h : IsMem w b p M) (hk : Keeps F w w') (hF : ∀ i ∈ p.foot b, i ∉ F) : IsMem w' b p M :=
  h.same fun i hi => hk.block i (h.lt i hi) (hF i hi)
end Go.Proofs.YtdbbbaallalhoaaGreat.pm
