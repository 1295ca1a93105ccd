/-
  PROVED HERE: what holds between two rounds of the law's loops over the tears. Conditions: named.
-/
import Derived.Test.YtfjjiohclokohaaTears
namespace Go.Proofs.Ytfjjiohclokohaa.pm
open Go.RowKit Go.Shelf Go.Proofs.Ytfjjiohclokohaa.tp Go.Proofs.Ytfjjiohclokohaa.rn
set_option linter.unusedVariables false

abbrev Bx := Nat × TypeId × Value
/-- What holds between two rounds: the boxes cs, and those of the k-th round; the tears' top; where the reference stands. -/
structure TI (w : World) (B : Nat) (cs : List Bx) (var : Nat → List Bx) (b14 : Nat) (tv : Value) (ts : List Nat) (W0 : World) (fs : List Nat) (nb : Option Nat) (k : Nat) (W : World) : Prop where
  boxes : ∀ q ∈ cs ++ var k, Boxed W q.1 q.2.1 q.2.2
  now : ∃ v14, Boxed W b14 26 v14 ∧ RowAt W 3 1 v14 ts.length ((nth ts k).map nv) ∧ ∀ g, v14.ownBlock = some g → nb ≠ some g ∧ g ∉ b14 :: (cs ++ var k).map (·.1) ∧ w.heap.size ≤ g
  top : RowAt W 3 1 tv ts.length (ts.map nv)
  keeps : Keeps [] w W
  size : B ≤ W.heap.size
  olds : ∀ i ∈ fs, W.heap[i]? = W0.heap[i]?

theorem row_cells {W : World} {T : TypeId} {sz n : Nat} {v : Value} {xs : List Value} (h : RowAt W T sz v n xs) {g : Nat} (hg : v.ownBlock = some g) : ∃ o : Obj, W.heap[g]? = some o ∧ o.isCells = true := by
  rcases h.2 with ⟨e, _⟩ | ⟨g', off, cap, cur, e, hb, _⟩
  · rw [e] at hg; cases hg
  · rw [e] at hg; cases hg; exact ⟨_, hb, rfl⟩

theorem TI.abd {w : World} {B : Nat} {cs : List Bx} {var : Nat → List Bx} {b14 : Nat} {tv : Value} {ts : List Nat} (hcs : ∀ k, ∀ q ∈ cs ++ var k, q.1 < B) (h14 : b14 < B) (htv : ∀ g, tv.ownBlock = some g → g < B) (hw : w.heap.size ≤ B) {W0 : World} {fs : List Nat} (hfs : ∀ i ∈ fs, i < B ∧ ∃ o : Obj, W0.heap[i]? = some o ∧ (o.isCells = true ∨ o.isWalk = true)) :
    AbdX B (fun nb (pre : List Value) W => TI w B cs var b14 tv ts W0 fs nb pre.length W) := by
  rintro nb s W W' row hnb ⟨h1, ⟨v14, h2, h3, h4⟩, h5, h6, h7, h8⟩ hg hr
  have hn : ∀ k, k < B → nb ≠ some k := fun k hk e => by have := hnb k e; omega
  refine ⟨fun q hq => abd_same hg hr (h1 q hq) (.inl rfl) (hn _ (hcs _ q hq)), ⟨v14, abd_same hg hr h2 (.inl rfl) (hn _ h14), h3.same fun g hgo => ?_, h4⟩, h5.same fun g hgo => ?_, ?_, Nat.le_trans h7 hg.size, fun i hi => ?_⟩
  · obtain ⟨o, ho, hc⟩ := row_cells h3 hgo
    exact (abd_same hg hr ho (.inl hc) (h4 g hgo).1).trans ho.symm
  · obtain ⟨o, ho, hc⟩ := row_cells h5 hgo
    exact (abd_same hg hr ho (.inl hc) (hn _ (htv g hgo))).trans ho.symm
  · exact h6.trans (Keeps.grown hg) (fun i hi => by
      cases row with
      | none => simp at hi
      | some r =>
        simp only [Option.toList_some, List.mem_singleton] at hi
        subst hi
        rcases hr i rfl with ⟨h, _⟩ | ⟨h, _⟩
        · have := hnb i h; exact .inr (by omega)
        · exact .inr (by omega))
  · obtain ⟨hiB, o, ho, hc⟩ := hfs i hi
    rw [ho]
    exact abd_same hg hr ((h8 i hi).trans ho) hc (hn i hiB)

/-- A round's end. -/
theorem TI.next {w W wF : World} {B : Nat} {cs : List Bx} {var : Nat → List Bx} {b14 : Nat} {tv : Value} {ts : List Nat} {nb : Option Nat} {k xb : Nat} {x v' : Value} {xs : List Value} {xn : Nat} {W0 : World} {fs : List Nat} (h : TI w B cs var b14 tv ts W0 fs nb k W)
    (hcs : ∀ k, ∀ q ∈ cs ++ var k, q.1 < B) (h14 : b14 < B) (hw : w.heap.size ≤ b14) (hwv : ∀ q ∈ var k, w.heap.size ≤ q.1) (htv : ∀ g, tv.ownBlock = some g → g ∉ b14 :: (var k).map (·.1) ∧ g < B)
    (hx : RowAt W 3 1 x xn xs) (hxb : x.ownBlock = some xb) (hxB : B ≤ xb) (hsep : ∀ q ∈ cs, q.1 ∉ b14 :: (var k).map (·.1)) (hvk : (var (k + 1)).map (·.1) = (var k).map (·.1))
    (hk : Keeps (b14 :: xb :: (var k).map (·.1)) W wF) (hvb : ∀ q ∈ var (k + 1), Boxed wF q.1 q.2.1 q.2.2) (h14' : Boxed wF b14 26 v') (hr' : RowAt wF 3 1 v' ts.length ((nth ts (k + 1)).map nv)) (hv' : ∀ g, v'.ownBlock = some g → W.heap.size ≤ g) (hnl : NbLt W nb) (hfs : ∀ i ∈ fs, i < B ∧ i ∉ b14 :: (var k).map (·.1)) :
    KeepsRec B W wF ∧ tearKp (B + 2) x W wF ∧ TI w B cs var b14 tv ts W0 fs nb (k + 1) wF := by
  have hsz := h.size
  have hcell : ∀ q ∈ b14 :: xb :: (var k).map (·.1), ∃ o : Obj, W.heap[q]? = some o ∧ o.isCells = true := by
    intro q hq
    rcases List.mem_cons.1 hq with rfl | hq
    · obtain ⟨v14, h2, _⟩ := h.now; exact ⟨_, h2, rfl⟩
    · rcases List.mem_cons.1 hq with rfl | hq
      · exact row_cells hx hxb
      · obtain ⟨p, hp, rfl⟩ := List.mem_map.1 hq
        exact ⟨_, h.boxes p (by simp [hp]), rfl⟩
  refine ⟨⟨hk.size, fun i o hB ho hc hwk => ?_⟩, ⟨hk.size, fun i o hB hne ho hc => ?_⟩, ⟨fun q hq => ?_, ⟨v', h14', hr', fun g hg => ⟨fun e => ?_, ?_, ?_⟩⟩, ?_, ?_, Nat.le_trans hsz hk.size, fun i hi => ?_⟩⟩
  · have hni : i ∉ b14 :: xb :: (var k).map (·.1) := fun hi => by
      obtain ⟨o2, h1, h2⟩ := hcell i hi
      rw [ho] at h1; cases h1; rw [hc] at h2; cases h2
    rw [hk.block i (lt_of ho) hni]; exact ho
  · have hni : i ∉ b14 :: xb :: (var k).map (·.1) := fun hi => by
      rcases List.mem_cons.1 hi with rfl | hi
      · omega
      · rcases List.mem_cons.1 hi with rfl | hi
        · rw [hxb] at hne; exact hne rfl
        · obtain ⟨p, hp, rfl⟩ := List.mem_map.1 hi
          have := hcs k p (by simp [hp]); omega
    rw [hk.block i (lt_of ho) hni]; exact ho
  · rcases List.mem_append.1 hq with hq | hq
    · have hb := h.boxes q (by simp [hq])
      refine (hk.block q.1 hb.lt (fun hi => ?_)).trans hb
      rcases List.mem_cons.1 hi with e | hi
      · exact hsep q hq (by rw [e]; simp)
      · rcases List.mem_cons.1 hi with e | hi
        · have := hcs k q (by simp [hq]); omega
        · exact hsep q hq (List.mem_cons_of_mem _ hi)
    · exact hvb q hq
  · have := hnl g e; have := hv' g hg; omega
  · intro hi
    have := hv' g hg
    rcases List.mem_cons.1 hi with e | hi
    · omega
    · rw [List.map_append, hvk, ← List.map_append] at hi
      obtain ⟨p, hp, rfl⟩ := List.mem_map.1 hi
      have := hcs k p hp; omega
  · have := hv' g hg; have := h.keeps.size; omega
  · refine h.top.same fun g hg => hk.block g (h.top.lt hg) (fun hi => ?_)
    obtain ⟨h1, h2⟩ := htv g hg
    rcases List.mem_cons.1 hi with e | hi
    · exact h1 (by rw [e]; simp)
    · rcases List.mem_cons.1 hi with e | hi
      · omega
      · exact h1 (List.mem_cons_of_mem _ hi)
  · refine h.keeps.trans hk (fun i hi => .inr ?_)
    rcases List.mem_cons.1 hi with rfl | hi
    · exact hw
    · rcases List.mem_cons.1 hi with rfl | hi
      · have := hcs; omega
      · obtain ⟨p, hp, rfl⟩ := List.mem_map.1 hi
        exact hwv p hp
  · obtain ⟨h1, h2⟩ := hfs i hi
    refine (hk.block i (by omega) (fun h3 => ?_)).trans (h.olds i hi)
    rcases List.mem_cons.1 h3 with e | h3
    · exact h2 (by rw [e]; simp)
    · rcases List.mem_cons.1 h3 with e | h3
      · omega
      · exact h2 (List.mem_cons_of_mem _ h3)

/-- What is handed on lies as it lay where other blocks are turned. -/
theorem tearPx.putObj {ts : List Nat} {B : Nat} {nb : Option Nat} {pre : List Value} {x : Value} {W : World} {l : Nat} {o o' : Obj} (h : tearPx ts B nb pre x W) (hl : W.heap[l]? = some o) (ho : o.isCells = false) : tearPx ts B nb pre x (W.putObj l o') := by
  obtain ⟨h1, h2, h3⟩ := h
  refine ⟨h1, h2.same fun g hg => World.putObj_heap_other (fun e => ?_), h3⟩
  obtain ⟨q, hq, hc⟩ := row_cells h2 hg
  subst e; rw [hl] at hq; cases hq; rw [ho] at hc; cases hc
theorem map_nv (l : List Nat) : l.map nv = (l.map fun x : Nat => (x : Int)).map (Value.int .i64) := by rw [List.map_map]; rfl
theorem same_tears {w : World} {v v' : Value} {ns : List Nat} {L : Nat} (hL : ns.length = L) (h : Reads w v L (ns.map nv)) (h' : Reads w v' L (ns.map nv)) (hn : L ≤ 1000) :
    Calls Try.prog 11 #[v, v'] w fun e w' => e = .returned (.bool true) ∧ Keeps [] w w' := by
  subst hL
  rw [map_nv] at h h'
  have := refSame_any (w := w) (v := v) (v' := v') (xs := ns.map fun x : Nat => (x : Int)) (ys := ns.map fun x : Nat => (x : Int)) (by rw [List.length_map]; exact h) (by rw [List.length_map]; exact h') (by rw [List.length_map]; unfold maxLen; omega) (by rw [List.length_map]; unfold maxLen; omega)
  exact this.mono fun e w' ⟨h1, h2, _⟩ => ⟨by rw [h1]; simp, h2⟩
end Go.Proofs.Ytfjjiohclokohaa.pm
