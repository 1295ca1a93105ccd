/-
  PROVED HERE: Lines: the keys of the lines with something pending, rising. Conditions: the receiver is a memory; few lines.
-/
import Derived.Test.YtfjjiohclokohaaRise
import Derived.Maps.OwnIn
namespace Go.Proofs.Ytfjjiohclokohaa.pm
open Go.RowKit Go.Shelf Go.Proofs.Ytfjjiohclokohaa.rn
set_option linter.unusedVariables false
attribute [local go_sem] Oper.semAt_some

/-- A block of cells that is not the iterator's own lies on. -/
theorem abd_same {B k : Nat} {nb row : Option Nat} {W W' : World} {o : Obj} (hg : W.grownBy W' row)
    (hr : ∀ r, row = some r → (nb = some r ∧ ∃ o : Obj, W.heap[r]? = some o ∧ o.isCells = true) ∨ (B ≤ r ∧ ∃ o : Obj, W.heap[r]? = some o ∧ o.isCells = false ∧ o.isWalk = false))
    (hk : W.heap[k]? = some o) (ho : o.isCells = true ∨ o.isWalk = true) (hn : nb ≠ some k) : W'.heap[k]? = some o := by
  rw [hg.block k (Array.getElem?_eq_some_iff.1 hk).1 (fun e => ?_)]
  · exact hk
  · rcases hr k e.symm with ⟨h1, _⟩ | ⟨_, q, hq, hc, hw⟩
    · exact hn h1
    · rw [hk] at hq; cases hq
      rcases ho with ho | ho
      · rw [hc] at ho; cases ho
      · rw [hw] at ho; cases ho
theorem abd_below {B n : Nat} {nb row : Option Nat} {w W W' : World} (hg : W.grownBy W' row) (hB : n ≤ B) (hnb : NbOk (B + 2) nb)
    (hr : ∀ r, row = some r → (nb = some r ∧ ∃ o : Obj, W.heap[r]? = some o ∧ o.isCells = true) ∨ (B ≤ r ∧ ∃ o : Obj, W.heap[r]? = some o ∧ o.isCells = false ∧ o.isWalk = false))
    (h : Below n w W) (hn : n ≤ W.heap.size) : Below n w W' := h.grown hg hn fun k e => by
  rcases hr k e with ⟨h1, _⟩ | ⟨h1, _⟩
  · have := hnb k h1; omega
  · omega
theorem results_cell1 {P : Program} {f : Func} {t : Tmp} {T : TypeId} (hf : f.results = #[.cell t T]) : True := trivial

/-- What holds between two rounds: what was collected so far, in a row of its own. -/
def LinesI (w : World) (N : Nat) (nb : Option Nat) (pre : List PosKey) (W : World) : Prop :=
  (∃ v, Boxed W w.heap.size 44 v ∧ W.ownsRow w.heap.size 48 1 v pre.length (pre.map fun x => .int .u64 x.1.2) ∧ (∀ k, nb = some k → v.ownBlock ≠ some k) ∧ ∀ g, v.ownBlock = some g → N ≤ g) ∧ Below w.heap.size w W ∧ N ≤ W.heap.size
theorem linesI_abd {w : World} {N B : Nat} (hB : w.heap.size < B) : AbdX B (LinesI w N) := by
  rintro nb s W W' row hnb ⟨⟨v, hv, hrow, hne, hN⟩, hb, hsz⟩ hg hr
  have hv' : Boxed W' w.heap.size 44 v := abd_same hg hr hv (.inl rfl) (fun e => by have := hnb _ e; omega)
  refine ⟨⟨v, hv', ?_, hne, hN⟩, abd_below hg (by omega) hnb hr hb hb.size, Nat.le_trans hsz hg.size⟩
  obtain ⟨hl, h0 | ⟨g, cap, cur, rfl, h1, h2, h3⟩⟩ := hrow
  · exact ⟨hl, .inl h0⟩
  · exact ⟨hl, .inr ⟨g, cap, cur, rfl, h1, abd_same hg hr h2 (.inl rfl) (fun e => hne _ e rfl), h3⟩⟩

set_option maxRecDepth 100000 in
set_option maxHeartbeats 2000000 in
theorem lines_in (n : Nat) (hn : 5 ≤ n) {w : World} {b : Nat} {p : Pl} {M : Mod} (h : IsMem w b p M) (hw : WF M) (hN : M.lines.length ≤ 1000000) :
    CallsIn Fence.wide n Try.prog 16 #[.pointer (some ⟨b, 0, none⟩)] w fun e W' => ∃ v, e = .returned v ∧ RowAt W' 48 1 v M.lines.length (M.keys.map (Value.int .u64)) ∧ Keeps [] w W' ∧ ∀ g, v.ownBlock = some g → w.heap.size ≤ g := by
  have h1 : 1 ≤ n := by omega
  obtain ⟨i0, hi, hz0, hz1, hz2⟩ := info_parts addrInfo
  refine callsIn_of_wp_marks Try.func16 rfl trivial ?_ rfl
  simp only [Try.ntmps16, List.size_toArray, List.length_cons, List.length_nil, Nat.reduceAdd, Nat.reduceSub, Array.replicate_succ, Array.replicate_zero, List.push_toArray, List.append_toArray, List.nil_append, List.cons_append]
  have hI0 : IsMem (w.alloc (.cells #[.slice none 0 0] 44)) b p M := h.keeps (Keeps.alloc w _) (by simp)
  have hth := callsIn_wide (n := n - 1) |>.2 (there_yes hI0.blkAt hw.pos)
  have hri := callsIn_wide (n := n - 1) |>.2 (rising_any hI0 hN)
  have HH := Lib.hid (And.intro h hw); clear h hw
  have HR := Lib.hid hri; clear hri
  clear hI0
  gi_wp2
  refine ⟨trivial, hth.mono ?_⟩
  rintro e w' ⟨rfl, rfl⟩
  clear hth
  gi_wp2
  refine ⟨trivial, HR.out.mono ?_⟩
  rintro e W1 ⟨bx, v, rfl, hc, hr, hk, hbx, hg⟩
  have H1 := Lib.hid (And.intro hc (And.intro hr (And.intro hk (And.intro hbx hg)))); clear hc hr hk hbx hg
  gi_wp2
  obtain ⟨hc, hr, hk, hbx, hg⟩ := H1.out
  have hsz := hk.size
  rw [World.size_alloc] at hsz hbx
  have hbo : Boxed W1 w.heap.size 44 (.slice none 0 0) := (hk.block w.heap.size (by simp) (by simp)).trans (MapKept.heap_alloc w _).1
  have hb0 : Below w.heap.size w W1 := ⟨hk.os, hk.tape, hk.output, by omega, fun k hlt => (hk.block k (by rw [World.size_alloc]; omega) (by simp)).trans ((MapKept.heap_alloc w _).2 k hlt)⟩
  have hku : ∀ k ∈ M.keys, U64 k := fun k hm => by
    obtain ⟨q, hq, rfl⟩ := List.mem_map.1 ((ksort_perm _).mem_iff.1 hm)
    have := HH.out.2.lines q hq
    have h2 := HH.out.2.small
    exact ⟨this.1, by have := this.2.2.1; omega⟩
  have hkl : M.keys.length = M.lines.length := by unfold Mod.keys; rw [ksort_length, List.length_map]
  refine wpIn_range_n (α := PosKey) rfl h1 (gf := 52) (lb := #[.pointer (some ⟨bx, 0, none⟩)]) rfl trivial (enters_of Try.func52 (by kernel_rfl) rfl)
    (allA1_seq Fence.wide (n - 1) trivial rfl (by omega) bx v M.keys hku (by omega) W1 hc (by rw [hkl]; exact hr))
    (fun x X Y Z h1 h2 g hg => (h2 g hg).trans (h1 g hg))
    (fun x W l o o' hl ho hcells hwalk g hgo => World.putObj_heap_other (fun e => by have := hr.lt hgo; omega))
    (fun _ => rfl)
    (LinesI w W1.heap.size) (fun _ _ _ _ => False) (linesI_abd (by omega)) (fun c nb s W W' row _ h _ _ => h.elim)
    (fun nb _ => ⟨⟨_, hbo, World.ownsRow_nil _ _ _ _, fun k _ e => (by cases e), fun k e => by cases e⟩, hb0, Nat.le_refl _⟩)
    (fun nb pre x a' W => a' = { tmps := #[.pointer (some ⟨b, 0, none⟩), undef, .pointer (some ⟨w.heap.size, 0, none⟩), undef, .int .u64 x.1.2, .pointer (some ⟨b, 0, none⟩), .bool true, .bool false, .pointer (some ⟨b, 0, none⟩), .func (.func 52) #[] #[.pointer (some ⟨bx, 0, none⟩)], .int .i64 x.1.1, .int .u64 x.1.2, undef, undef, undef, undef, undef], defers := [] } ∧ LinesI w W1.heap.size nb pre W ∧ NbOk (W1.heap.size + 2) nb)
    ?ax ?assign ?body ?done ?stop
  case ax =>
    rintro nb pre x a' W l o o' ⟨h1, h2, h3⟩ hl ho hcells hwalk
    exact ⟨h1, (linesI_abd (by omega)).putObj _ h3 h2 hl ho hcells hwalk, h3⟩
  case assign =>
    intro l nb pre x W K hnb hnl hi hpx hlen hK
    dsimp only [posEncs]
    gi_wp2
    exact hK _ _ (KeepsRec.refl _ _) (fun g _ => rfl) ⟨rfl, hi, hnb⟩
  case body =>
    rintro l nb pre x a' W hnb hnl ⟨rfl, ⟨⟨u, hv, hrow, hne, hun⟩, hB, hlt2⟩, _⟩ hlt hl
    have hc2 := hv.cell
    have hplen : pre.length < 1000000 := by omega
    have HNE := Lib.hid hne; clear hne
    have HNL := Lib.hid (And.intro hnl hun); clear hnl hun
    have HSZ := Lib.hid (show W1.heap.size ≤ W.heap.size from hlt2)
    gi_wp2_with (gi_at_builtin; go_loud (refine wpListIn_append_own_at _ rfl _ _ 44 rfl w.heap.size 48 i0 (.int .u64 0) 1 8 Try.underlying44 hi hz0 hz1 hz2 rfl (by decide) _ _ _ rfl (hrow.alloc _) ⟨W.heap.size, 0, none⟩ 1 1 [.int .u64 x.1.2] rfl rfl (cell_one_new _ _ _) (by simp [Value.oneCell']) (by unfold maxLen; omega) (by omega) (by have := hB.size; simp; omega) ?_; intro v' w1 hown' hgrow _ hblk; obtain ⟨g', cap', rfl⟩ := ownsRow_succ hown'; obtain ⟨hv1, hv2, hr2, hk2, hb2⟩ := hv.appended (by decide) hrow hB.size (Nat.le_refl _) hown' hgrow; have hc1 := hv1.cell; have hf1 := hv1.frozen))
    refine ⟨hk2.toRec _, fun g hgo => ?_, ⟨_, hv2, by simpa using hr2, fun k hkn e => ?_, fun k e => ?_⟩, hB.trans hb2, Nat.le_trans HSZ.out hb2.size⟩
    · have h6 := hr.lt hgo
      have h7 := hg g hgo
      rw [World.size_alloc] at h7
      have h8 : some g ≠ u.ownBlock := fun e => by have := HNL.out.2 g e.symm; omega
      rw [(grownBy_setCell' w1 w.heap.size _).block g (by have := hgrow.size; rw [World.size_alloc] at this; omega) (fun e => by cases e; omega), hgrow.block g (by rw [World.size_alloc]; omega) h8]
      exact (MapKept.heap_alloc W _).2 g (by omega)
    · have hv4 : (Value.slice (some ⟨g', 0, none⟩) (pre.length + 1) cap').ownBlock = some g' := rfl
      rcases hblk with h5 | h5
      · exact HNE.out k hkn (h5 ▸ e)
      · rw [h5] at e
        have := HNL.out.1 k hkn
        cases e
        rw [World.size_alloc] at this
        omega
    · rcases hblk with h5 | h5
      · exact HNL.out.2 k (h5 ▸ e)
      · rw [h5] at e
        cases e
        rw [World.size_alloc]
        have := HSZ.out; omega
  case done =>
    rintro D nb ys W hD hys ⟨⟨u, hv, hrow, hne, _⟩, hB, _⟩ hK
    obtain ⟨ao, cn, cp, rfl⟩ : ∃ ao cn cp, u = .slice ao cn cp := by
      rcases hrow.2 with ⟨rfl, _⟩ | ⟨g, cap, cur, rfl, _⟩
      · exact ⟨_, _, _, rfl⟩
      · exact ⟨_, _, _, rfl⟩
    have hc2 := hv.cell
    have hf2 := hv.frozen
    have hv2 := hv.set (.slice ao cn cp)
    have hK2 : (W.setCell ⟨w.heap.size, 0, none⟩ (.slice ao cn cp)).heap[D]? = some (.deferred (some [])) := (KeepsOthers.setCell W ⟨w.heap.size, 0, none⟩ _).same D _ hK rfl
    have hB2 : Below w.heap.size w (W.setCell ⟨w.heap.size, 0, none⟩ (.slice ao cn cp)) := hB.setCell (p := ⟨w.heap.size, 0, none⟩) (Nat.le_refl _) _
    have hrow2 : (W.setCell ⟨w.heap.size, 0, none⟩ (.slice ao cn cp)).ownsRow w.heap.size 48 1 (.slice ao cn cp) ys.length (ys.map fun x => .int .u64 x.1.2) := hrow.kept (grownBy_setCell' W w.heap.size _) (.inr (hv.not_row (by decide) hrow).symm)
    have HX := Lib.hid (And.intro hv2 (And.intro hK2 (And.intro hB2 hrow2))); clear hv2 hK2 hB2 hrow2 hrow hne hB hK hv
    gi_wp2
    obtain ⟨hv2, hK2, hB2, hrow2⟩ := HX.out
    refine ⟨by simp, .inl ⟨_, _, rfl, run_takeDeferred hK2, ?_⟩⟩
    have hcell : ((W.setCell ⟨w.heap.size, 0, none⟩ (.slice ao cn cp)).putObj D (.deferred none)).cell? ⟨w.heap.size, 0, none⟩ = some (.slice ao cn cp) :=
      cell_kept hv2.cell (grownBy_putObj' _ D (.deferred none)) (fun r e => by cases e; exact ⟨_, hK2, rfl⟩)
    have hyl : ys.length = M.lines.length := by have := congrArg List.length hys; simp at this; omega
    have hym : (ys.map fun x : PosKey => Value.int .u64 x.1.2) = M.keys.map (Value.int .u64) := by
      have h2 := congrArg (List.map fun q : Nat × Int => Value.int .u64 q.2) hys
      rw [List.map_map] at h2
      refine Eq.trans h2 ?_
      apply List.ext_getElem?
      intro i
      simp only [List.getElem?_map, List.getElem?_mapIdx]
      cases M.keys[i]? <;> rfl
    refine ⟨.slice ao cn cp, ?_, .slice ao cn cp, rfl, ?_, ?_, ?_⟩
    · simp [results, Try.results16, go_sem, hcell]
    · have := RowAt.of_own (ownsRow_putObj hrow2 (.deferred none) hK2 rfl)
      rw [hyl, hym] at this
      exact this
    · exact Keeps.below (hB2.trans (belowK_b (w := w) (Nat.le_refl _) _ D _ _ (by omega) hK2 rfl rfl))
    · intro g hgo
      rcases hrow2.2 with ⟨e, _⟩ | ⟨g', cap, cur, e, hle, _⟩
      · cases e; cases hgo
      · cases e; cases hgo; exact hle
  case stop =>
    rintro D nb c pre W _ _ h _
    exact h.elim

theorem lines_any {w : World} {b : Nat} {p : Pl} {M : Mod} (h : IsMem w b p M) (hw : WF M) (hN : M.lines.length ≤ 1000000) :
    Calls Try.prog 16 #[.pointer (some ⟨b, 0, none⟩)] w fun e W' => ∃ v, e = .returned v ∧ RowAt W' 48 1 v M.lines.length (M.keys.map (Value.int .u64)) ∧ Keeps [] w W' ∧ ∀ g, v.ownBlock = some g → w.heap.size ≤ g :=
  (callsIn_wide (n := 5)).1 (lines_in 5 (Nat.le_refl _) h hw hN)
end Go.Proofs.Ytfjjiohclokohaa.pm
