/-
  PROVED HERE: Crash's contract. Conditions: the receiver is a memory; few lines, few stores pending of each; what is kept lies apart from it.
-/
import Derived.Test.YtfjjiohclokohaaLines
import Derived.Test.YtfjjiohclokohaaRnd
import Derived.Test.YtfjjiohclokohaaClone
import Derived.StillTailTactics
import Derived.StillTactics
import Derived.BigRegion
import Derived.Sort.CutIn
import Derived.Deep.RegionHeld3
namespace Go.Proofs.Ytfjjiohclokohaa.pm
open Go.RowKit Go.Shelf Go.Proofs.Ytfjjiohclokohaa.rn
set_option linter.unusedVariables false
attribute [local go_sem] Oper.semAt_some

/-- What follows a region is kept shut while the region is walked. -/
theorem wpStill_hide {P : Program} {ops : Array Oper} {w : World} {Q : Act → Prop} {l : List Oper} {a : Act} (h : ∀ K : Act → Prop, (∀ a, Q a → K a) → wpStill P ops w K l a) : wpStill P ops w Q l a :=
  h Q (fun _ h => h)

/-- How many of a line's stores are kept. -/
def Mod.keepN (M : Mod) (ks : List Int) (x : Nat × Int) : Nat := (max ((ks[x.1 % ks.length]?).getD 0) 0).toNat % (M.pendK x.2 + 1)
def Mod.crashStep (M : Mod) (ks : List Int) (x : Nat × Int) : Mod := if ks = [] then M else M.last x.2 (M.keepN ks x)
def Mod.crashN (M : Mod) (ks : List Int) (l : List (Nat × Int)) : Mod := l.foldl (fun M x => M.crashStep ks x) M
def Mod.crash (M : Mod) (ks : List Int) : Mod :=
  let N := M.crashN ks (M.keys.mapIdx Prod.mk)
  { N with view := N.image, lines := [] }
theorem Mod.keepN_le (M : Mod) (ks : List Int) (x : Nat × Int) : M.keepN ks x ≤ M.pendK x.2 := by
  have := Nat.mod_lt (max ((ks[x.1 % ks.length]?).getD 0) 0).toNat (show 0 < M.pendK x.2 + 1 by omega)
  unfold Mod.keepN; omega
theorem WF.crashStep {M : Mod} (h : WF M) (ks : List Int) (x : Nat × Int) : WF (M.crashStep ks x) := by
  unfold Mod.crashStep; split
  · exact h
  · exact h.last
theorem WF.crashN : ∀ (l : List (Nat × Int)) {M : Mod} (ks : List Int), WF M → WF (M.crashN ks l)
  | [], _, _, h => h
  | x :: l, _, ks, h => WF.crashN l ks (h.crashStep ks x)
theorem Mod.crashN_snoc (M : Mod) (ks : List Int) (l : List (Nat × Int)) (x : Nat × Int) : M.crashN ks (l ++ [x]) = (M.crashN ks l).crashStep ks x := by simp [Mod.crashN]

/-- Few stores are pending of each line. -/
def Few (M : Mod) : Prop := ∀ q ∈ M.lines, q.2.puts.length ≤ 1000000
theorem Few.get {M : Mod} (h : Few M) (k : Int) : ((get M.lines k).getD noLine).puts.length ≤ 1000000 := by
  cases c : pm.get M.lines k with
  | none => simp [noLine]
  | some l => exact h (k, l) (get_mem c)
theorem Few.last {M : Mod} (h : Few M) (k : Int) (n : Nat) : Few (M.last k n) := by
  intro q hq
  unfold Mod.last at hq
  dsimp only at hq
  split at hq
  · exact h q (mem_del hq)
  · rcases mem_put hq with h2 | rfl
    · exact h q h2
    · have := h.get k
      simp only [List.length_drop]; omega
theorem Few.crashN : ∀ (l : List (Nat × Int)) {M : Mod} (ks : List Int), Few M → Few (M.crashN ks l)
  | [], _, _, h => h
  | x :: l, M, ks, h => Few.crashN l ks (by
    unfold Mod.crashStep; split
    · exact h
    · exact h.last _ _)

/-- What is kept, in a world. -/
def KeepAt (w : World) (kv : Value) (ks : List Int) : Prop := ∃ ao cp, kv = .slice ao ks.length cp ∧ Reads w kv ks.length (ks.map (Value.int .i64))
theorem KeepAt.same {w w' : World} {kv : Value} {ks : List Int} (h : KeepAt w kv ks) (hs : ∀ g, kv.ownBlock = some g → w'.heap[g]? = w.heap[g]?) : KeepAt w' kv ks := by
  obtain ⟨ao, cp, rfl, hr⟩ := h
  refine ⟨ao, cp, rfl, ?_⟩
  rcases hr with ⟨e, h2, h3⟩ | ⟨a, cap, e, h2, h3⟩
  · exact .inl ⟨e, h2, h3⟩
  · refine .inr ⟨a, cap, e, h2, fun j u hj => ?_⟩
    have hc := h3 j u hj
    cases e
    obtain ⟨ab, aoff, asp⟩ := a
    cases h2
    rw [World.cell?_of_block (hs ab rfl)]; exact hc

/-- What holds between two rounds. -/
def CrashI (w : World) (N b : Nat) (p : Pl) (M : Mod) (kv : Value) (ks : List Int) (nb : Option Nat) (pre : List PosKey) (W : World) : Prop :=
  (∃ p', IsMem W b p' (M.crashN ks (pre.map (·.1))) ∧ (∀ i ∈ p'.foot b, i ∈ p.foot b ∨ N ≤ i) ∧ (∀ k, nb = some k → k ∉ p'.foot b)) ∧ Boxed W w.heap.size 23 (.pointer (some ⟨b, 0, none⟩)) ∧ Boxed W (w.heap.size + 1) 26 kv ∧ KeepAt W kv ks ∧ Keeps (p.foot b) w W ∧ N ≤ W.heap.size

theorem IsMem.kinds {w : World} {b : Nat} {p : Pl} {M : Mod} (h : IsMem w b p M) : ∀ i ∈ p.foot b, ∃ o : Obj, w.heap[i]? = some o ∧ (o.isCells = true ∨ o.isWalk = true) := by
  intro i hi
  simp only [Pl.foot, List.mem_cons] at hi
  rcases hi with rfl | rfl | rfl | rfl | hi
  · exact ⟨_, h.blkAt, .inl rfl⟩
  · rcases h.view.2 with ⟨e, _⟩ | ⟨g, off, cap, cur, e, hb, _⟩
    · simp [Pl.view] at e
    · simp only [Pl.view, Value.slice.injEq, Option.some.injEq, Addr.mk.injEq] at e
      rw [e.1.1]; exact ⟨_, hb, .inl rfl⟩
  · rcases h.image.2 with ⟨e, _⟩ | ⟨g, off, cap, cur, e, hb, _⟩
    · simp [Pl.image] at e
    · simp only [Pl.image, Value.slice.injEq, Option.some.injEq, Addr.mk.injEq] at e
      rw [e.1.1]; exact ⟨_, hb, .inl rfl⟩
  · obtain ⟨es, clock, hb, _⟩ := h.map
    exact ⟨_, hb, .inr rfl⟩
  · obtain ⟨q, hq, hbq⟩ := mem_blks.1 hi
    obtain ⟨j, hj⟩ := List.getElem?_of_mem hq
    obtain ⟨l, _, sv, he, _, hr⟩ := h.lines.2 j q.1 q.2 hj
    rw [he, blk_lineArr] at hbq
    rcases hr.2 with ⟨e, _⟩ | ⟨g, off, cap, cur, e, hb, _⟩
    · rw [e] at hbq; cases hbq
    · rw [e] at hbq; cases hbq; exact ⟨_, hb, .inl rfl⟩

theorem Keeps.putObj (w : World) (D : Nat) (o : Obj) : Keeps [D] w (w.putObj D o) :=
  ⟨by simp [World.putObj], fun j _ hj => World.putObj_heap_other (fun e => hj (by simp [e])), rfl, rfl, rfl⟩
theorem results_none' {P : Program} {f : Func} {t : Array Value} {w : World} (h : f.results = #[]) : (results f t).run P w = .ok (.tuple #[]) w := by simp [results, h, go_sem]

/-- What a crash leaves: the words that have lasted are seen, nothing is pending. -/
theorem crash_end {W w3 W4 W5 W6 : World} {b D g1 o1 cc1 : Nat} {p' : Pl} {M' : Mod} {es : Array MapEntry} {clock : Nat} (hI : IsMem W b p' M') (hI3 : IsMem w3 b p' M') (K1 : Keeps [] W w3)
    (hW4 : W4 = w3.setCell ⟨b, 0, none⟩ (.slice (some ⟨g1, o1, none⟩) M'.image.length cc1)) (hW5 : W5 = putB W4 p'.mb (.map es clock)) (hm5 : MapIs W5 p'.mb [])
    (r1 : RowAt w3 28 1 (.slice (some ⟨g1, o1, none⟩) M'.image.length cc1) M'.image.length (M'.image.map (Value.int .u64))) (hg1 : W.heap.size ≤ g1)
    (hD : W.heap[D]? = some (.deferred (some []))) (hW6 : W6 = W5.putObj D (.deferred none)) :
    W5.heap[D]? = some (.deferred (some [])) ∧ ∃ p2, IsMem W6 b p2 { M' with view := M'.image, lines := [] } ∧ Keeps (D :: p'.foot b) W W6 ∧ ∀ i ∈ p2.foot b, i ∈ p'.foot b ∨ W.heap.size ≤ i := by
  have hsep := hI.sep
  simp only [Pl.foot, List.nodup_cons, List.mem_cons, not_or] at hsep
  obtain ⟨⟨hbv, hbi, hbm, hbL⟩, ⟨hvi, hvm, hvL⟩, ⟨him, hiL⟩, hmL, hLL⟩ := hsep
  have hlt := hI.lt
  have hkD : ∀ i ∈ p'.foot b, i ≠ D := fun i hi e => by
    obtain ⟨o, ho, hc⟩ := hI.kinds i hi
    rw [e, hD] at ho; cases ho
    rcases hc with hc | hc <;> cases hc
  have hDl : D < W.heap.size := (Array.getElem?_eq_some_iff.1 hD).1
  have kb := hlt b (by simp [Pl.foot])
  have km := hlt p'.mb (by simp [Pl.foot])
  have ki := hlt p'.ib (by simp [Pl.foot])
  have hDb := hkD b (by simp [Pl.foot])
  have hDm := hkD p'.mb (by simp [Pl.foot])
  have hDi := hkD p'.ib (by simp [Pl.foot])
  have K4 : Keeps [b] w3 W4 := by rw [hW4]; exact Keeps.setCell w3 b 0 _
  have K5 : Keeps [p'.mb] W4 W5 := by rw [hW5]; exact Keeps.putB W4 _ _
  have K6 : Keeps [D] W5 W6 := by rw [hW6]; exact Keeps.putObj W5 _ _
  have s1 := K1.size
  have s4 := K4.size
  have s5 := K5.size
  have old : ∀ i, i < w3.heap.size → i ≠ b → i ≠ p'.mb → i ≠ D → W6.heap[i]? = w3.heap[i]? := fun i h1 h2 h3 h4 => by
    rw [K6.block i (by omega) (by simp [h4]), K5.block i (by omega) (by simp [h3]), K4.block i h1 (by simp [h2])]
  have hD5 : W5.heap[D]? = some (.deferred (some [])) := by
    rw [K5.block D (by omega) (by simp [Ne.symm hDm]), K4.block D (by omega) (by simp [Ne.symm hDb]), K1.block D hDl (by simp)]; exact hD
  have hg3 := r1.lt (g := g1) rfl
  refine ⟨hD5, { p' with vb := g1, voff := o1, vcap := cc1, L := [] }, ⟨?_, ?_, ?_, ?_, ?_, ?_, by simp [Uniq]⟩, ?_, ?_⟩
  · have h4 : MemAt W4 b (.slice (some ⟨g1, o1, none⟩) M'.image.length cc1) (p'.image M'.image.length) p'.mb M'.s0 M'.s1 M'.s2 M'.s3 := by rw [hW4]; exact set_same hI3.blkAt
    exact (K6.block b (by omega) (by simp [hDb])).trans ((K5.block b (by omega) (by simp [hbm])).trans h4)
  · exact r1.same fun g hg => by cases hg; exact old g1 hg3 (fun e => by omega) (fun e => by omega) (fun e => by omega)
  · exact hI3.image.same fun g hg => by cases hg; exact old _ (Nat.lt_of_lt_of_le ki s1) (Ne.symm hbi) him hDi
  · exact hm5.same (K6.block _ hm5.lt (by simp [hDm]))
  · exact ⟨rfl, fun i k v h => by simp at h⟩
  · simp only [Pl.foot, blks, List.filterMap_nil, List.nodup_cons, List.mem_cons, List.not_mem_nil, or_false, not_or, List.nodup_nil, and_true, not_false_eq_true]
    exact ⟨⟨by omega, hbi, hbm⟩, ⟨by omega, by omega⟩, him⟩
  · refine (((K1.mono (G := D :: p'.foot b) (by simp)).trans K4 (fun i hi => .inl ?_)).trans K5 (fun i hi => .inl ?_)).trans K6 (fun i hi => .inl ?_)
    · simp only [List.mem_singleton] at hi; subst hi; simp [Pl.foot]
    · simp only [List.mem_singleton] at hi; subst hi; simp [Pl.foot]
    · simp only [List.mem_singleton] at hi; subst hi; simp
  · intro i hi
    simp only [Pl.foot, blks, List.filterMap_nil, List.mem_cons, List.not_mem_nil, or_false] at hi ⊢
    rcases hi with rfl | rfl | rfl | rfl
    · exact .inl (.inl rfl)
    · exact .inr hg1
    · exact .inl (.inr (.inr (.inl rfl)))
    · exact .inl (.inr (.inr (.inr (.inl rfl))))

theorem crashI_abd {w : World} {N b B : Nat} {p : Pl} {M : Mod} {kv : Value} {ks : List Int} (hlt : ∀ i ∈ p.foot b, i < w.heap.size) (hB : w.heap.size + 1 < B) (hkb : ∀ g, kv.ownBlock = some g → g < w.heap.size) : AbdX B (CrashI w N b p M kv ks) := by
  rintro nb s W W' row hnb ⟨⟨p', hI, hf, hn⟩, hb1, hb2, hk, hkeep, hN⟩ hg hr
  have hrow : ∀ r, row = some r → B ≤ r := fun r e => by
    rcases hr r e with ⟨h1, _⟩ | ⟨h1, _⟩
    · have := hnb r h1; omega
    · exact h1
  refine ⟨⟨p', hI.same fun i hi => ?_, hf, hn⟩, abd_same hg hr hb1 (.inl rfl) (fun e => by have := hnb _ e; omega), abd_same hg hr hb2 (.inl rfl) (fun e => by have := hnb _ e; omega), hk.same fun g hgo => ?_, ?_, Nat.le_trans hN hg.size⟩
  · obtain ⟨o, ho, hc⟩ := hI.kinds i hi
    exact (abd_same hg hr ho hc (fun e => hn i e hi)).trans ho.symm
  · have := hkb g hgo
    refine hg.block g (by have := hkeep.size; omega) (fun e => by have := hrow g e.symm; omega)
  · exact hkeep.trans (Keeps.grown hg) (fun i hi => by
      cases row with
      | none => simp at hi
      | some r => simp only [Option.toList_some, List.mem_singleton] at hi; subst hi; exact .inr (by have := hrow i rfl; omega))

set_option maxRecDepth 100000 in
set_option maxHeartbeats 4000000 in
theorem crash_in (n : Nat) (hn : 5 ≤ n) {w : World} {b : Nat} {p : Pl} {M : Mod} (h : IsMem w b p M) (hw : WF M) (hN : M.lines.length ≤ 1000000) (hfew : ∀ q ∈ M.lines, q.2.puts.length ≤ 1000000)
    (kv : Value) (ks : List Int) (hk : KeepAt w kv ks) (hku : ∀ k ∈ ks, -9223372036854775808 ≤ k ∧ k ≤ 9223372036854775807) (hkl : ks.length ≤ 1000000) (hka : ∀ g, kv.ownBlock = some g → g < w.heap.size ∧ g ∉ p.foot b) :
    CallsIn Fence.wide n Try.prog 31 #[.pointer (some ⟨b, 0, none⟩), kv] w fun e W' => e = .returned (.tuple #[]) ∧ ∃ p', IsMem W' b p' (M.crash ks) ∧ Keeps (p.foot b) w W' ∧ ∀ i ∈ p'.foot b, i ∈ p.foot b ∨ w.heap.size ≤ i := by
  have h1 : 1 ≤ n := by omega
  obtain ⟨ao, cp, rfl, hkr⟩ := hk
  have hk : KeepAt w (.slice ao ks.length cp) ks := ⟨ao, cp, rfl, hkr⟩
  refine callsIn_of_wp_marks Try.func31 rfl trivial ?_ rfl
  simp only [Try.ntmps31, List.size_toArray, List.length_cons, List.length_nil, Nat.reduceAdd, Nat.reduceSub, Array.replicate_succ, Array.replicate_zero, List.push_toArray, List.append_toArray, List.nil_append, List.cons_append]
  obtain ⟨W0, hW0⟩ : ∃ W0, W0 = (w.alloc (.cells #[.pointer (some ⟨b, 0, none⟩)] 23)).alloc (.cells #[.slice ao ks.length cp] 26) := ⟨_, rfl⟩
  have hk0 : Keeps [] w W0 := by rw [hW0]; exact (Keeps.alloc w _).trans (Keeps.alloc _ _) (by simp)
  have hs0 : W0.heap.size = w.heap.size + 2 := by rw [hW0]; simp
  have hx1 : Boxed W0 w.heap.size 23 (.pointer (some ⟨b, 0, none⟩)) := by rw [hW0]; exact (Boxed.new w 23 _).alloc _
  have hx2 : Boxed W0 (w.heap.size + 1) 26 (.slice ao ks.length cp) := by
    rw [hW0]
    have := Boxed.new (w.alloc (.cells #[.pointer (some ⟨b, 0, none⟩)] 23)) 26 (.slice ao ks.length cp)
    rwa [World.size_alloc] at this
  have hI0 : IsMem W0 b p M := h.keeps hk0 (by simp)
  have hth := callsIn_wide (n := n - 1) |>.2 (there_yes hI0.blkAt hw.pos)
  have hri := callsIn_wide (n := n - 1) |>.2 (rising_any hI0 hN)
  have c1 := hx1.cell
  have c2 := hx2.cell
  have HH := Lib.hid (And.intro h (And.intro hw (And.intro hk (And.intro hk0 (And.intro hs0 (And.intro hx1 hx2)))))); clear h hw hk hkr hx1 hx2
  have HR := Lib.hid hri; clear hri
  have HT := Lib.hid hth; clear hth
  have HKA := Lib.hid (And.intro hka (And.intro hku hfew)); clear hka hku hfew
  have HW0 := Lib.hid hW0
  clear hI0 hk0
  gi_wp2
  rw [← hW0]
  clear hW0
  refine ⟨trivial, HT.out.mono ?_⟩
  rintro e w' ⟨rfl, rfl⟩
  gi_wp2
  refine ⟨trivial, HR.out.mono ?_⟩
  rintro e W1 ⟨bx, v, rfl, hc, hr, hk, hbx, hg⟩
  have H1 := Lib.hid (And.intro hc (And.intro hr (And.intro hk (And.intro hbx hg)))); clear hc hr hk hbx hg
  gi_wp2
  obtain ⟨hc, hr, hk, hbx, hg⟩ := H1.out
  obtain ⟨h, hw, hkp, hk0, hs0, hx1, hx2⟩ := HH.out
  have hsz := hk.size
  have hlt := h.lt
  have hb1 : Boxed W1 w.heap.size 23 (.pointer (some ⟨b, 0, none⟩)) := (hk.block w.heap.size (by omega) (by simp)).trans hx1
  have hb2 : Boxed W1 (w.heap.size + 1) 26 (.slice ao ks.length cp) := (hk.block (w.heap.size + 1) (by omega) (by simp)).trans hx2
  have hk01 : Keeps [] w W1 := hk0.trans hk (by simp)
  have hI1 : IsMem W1 b p M := h.keeps hk01 (by simp)
  have hkl' : M.keys.length = M.lines.length := by unfold Mod.keys; rw [ksort_length, List.length_map]
  have hkU : ∀ k ∈ M.keys, U64 k := fun k hm => by
    obtain ⟨q, hq, rfl⟩ := List.mem_map.1 ((ksort_perm _).mem_iff.1 hm)
    have := hw.lines q hq
    have h2 := hw.small
    exact ⟨this.1, by have := this.2.2.1; omega⟩
  have hpw : ∀ l : List (Nat × Int), WF (M.crashN ks l) := fun l => WF.crashN l ks hw
  refine wpIn_range_n (α := PosKey) rfl h1 (gf := 52) (lb := #[.pointer (some ⟨bx, 0, none⟩)]) rfl trivial (enters_of Try.func52 (by kernel_rfl) rfl)
    (allA1_seq Fence.wide (n - 1) trivial rfl (by omega) bx v M.keys hkU (by omega) W1 hc (by rw [hkl']; exact hr))
    (fun x X Y Z h1 h2 g hg => (h2 g hg).trans (h1 g hg))
    (fun x W l o o' hl ho hcells hwalk g hgo => World.putObj_heap_other (fun e => by have := hr.lt hgo; omega))
    (fun _ => rfl)
    (CrashI w W1.heap.size b p M (.slice ao ks.length cp) ks) (fun _ _ _ _ => False) (crashI_abd hlt (by omega) (fun g hg => (HKA.out.1 g hg).1)) (fun c nb s W W' row _ h _ _ => h.elim)
    (fun nb hnb => ⟨⟨p, hI1, fun i hi => .inl hi, fun k e hi => by have := hnb k e; have := hlt k hi; omega⟩, hb1, hb2, hkp.same fun g hg => hk01.block g (HKA.out.1 g hg).1 (by simp), hk01.mono (by simp), Nat.le_refl _⟩)
    (fun nb pre x a' W => a' = { tmps := #[.pointer (some ⟨b, 0, none⟩), .slice ao ks.length cp, .pointer (some ⟨w.heap.size, 0, none⟩), .pointer (some ⟨w.heap.size + 1, 0, none⟩), .int .i64 x.1.1, .int .u64 x.1.2, .pointer (some ⟨b, 0, none⟩), .bool true, .bool false, .pointer (some ⟨b, 0, none⟩), .func (.func 52) #[] #[.pointer (some ⟨bx, 0, none⟩)], .int .i64 x.1.1, .int .u64 x.1.2, undef, undef, undef, undef, undef, undef, undef, undef, undef, undef, undef, undef, undef, undef, undef, undef, undef, undef, undef, undef, undef, undef, undef, undef, undef, undef, undef, undef, undef, undef, undef, undef, undef, undef, undef, undef], defers := [] } ∧ CrashI w W1.heap.size b p M (.slice ao ks.length cp) ks nb pre W ∧ NbOk (W1.heap.size + 2) nb)
    ?ax ?assign ?body ?done ?stop
  case ax =>
    rintro nb pre x a' W l o o' ⟨h1, h2, h3⟩ hl ho hcells hwalk
    exact ⟨h1, (crashI_abd hlt (by omega) (fun g hg => (HKA.out.1 g hg).1)).putObj _ h3 h2 hl ho hcells hwalk, h3⟩
  case assign =>
    intro l nb pre x W K hnb hnl hi hpx hlen hK
    dsimp only [posEncs]
    gi_wp2
    exact hK _ _ (KeepsRec.refl _ _) (fun g _ => rfl) ⟨rfl, hi, hnb⟩
  case body =>
    rintro l nb pre x a' W hnb hnl ⟨rfl, ⟨⟨p', hI, hf, hn'⟩, hv1, hv2, hkx, hkeep, hN'⟩, _⟩ hlt2 hl
    have d1 := hv1.cell
    have d2 := hv2.cell
    obtain ⟨⟨xi, xk⟩, hxi, hxk⟩ := x
    by_cases hks : ks = []
    · subst hks
      have HI := Lib.hid (And.intro hI (And.intro hf (And.intro hn' (And.intro hv1 (And.intro hv2 (And.intro hkx (And.intro hkeep hN'))))))); clear hI hf hn' hkx hkeep hN'
      gi_wp2
      obtain ⟨hI, hf, hn', hv1, hv2, hkx, hkeep, hN'⟩ := HI.out
      exact ⟨KeepsRec.refl _ _, fun g _ => rfl, ⟨⟨p', by rw [List.map_append, List.map_singleton, Mod.crashN_snoc, Mod.crashStep, if_pos rfl]; exact hI, hf, hn'⟩, hv1, hv2, hkx, hkeep, hN'⟩⟩
    · have hpos : 0 < ks.length := List.length_pos_iff.2 hks
      have hposI : (0 : Int) < ks.length := by omega
      obtain ⟨M', hM'⟩ : ∃ M', M' = M.crashN ks (pre.map (·.1)) := ⟨_, rfl⟩
      rw [← hM'] at hI
      have hwM : WF M' := by rw [hM']; exact hpw _
      have e2 := hI.blkAt.cells.2.2.1
      obtain ⟨sv, marks, puts, hget, hgetM, hmk, hrow, hblk⟩ := line_of hI.lines xk
      have hlk : (Instr.lookup 64 (.map (some p'.mb)) (.int .u64 xk) false).run Try.prog W.drew = .ok (.agg (lineArr sv marks)) W.drew := by
        rw [← hget]; exact run_lookup_u64 (w := W.drew) (hI.map.same rfl) Try.underlying64 Try.underlying48 (lineZero _) _
      have hlen : ∃ ao cp, sv = .slice ao puts.length cp := by
        obtain ⟨_, ⟨rfl, h2⟩ | ⟨g, off, cap, cur, rfl, _⟩⟩ := hrow
        · exact ⟨none, 0, by rw [h2]⟩
        · exact ⟨_, _, rfl⟩
      obtain ⟨ao2, cp2, rfl⟩ := hlen
      have hfd := field_line W.drew (.slice ao2 puts.length cp2) marks
      have hpk : M'.pendK xk = puts.length := by unfold Mod.pendK; rw [hgetM]
      have hml : xi % ks.length < ks.length := Nat.mod_lt _ hpos
      obtain ⟨kk, hkk⟩ : ∃ kk, ks[xi % ks.length]? = some kk := ⟨_, List.getElem?_eq_getElem hml⟩
      have hkkb := HKA.out.2.1 kk (List.mem_of_getElem? hkk)
      obtain ⟨ka, rfl, hks0, hkc⟩ : ∃ a : Addr, ao = some a ∧ a.spot = none ∧ W.cell? ⟨a.block, a.off + (xi % ks.length), none⟩ = some (.int .i64 kk) := by
        obtain ⟨ao', cp', e, hr'⟩ := hkx
        rcases hr' with ⟨e3, h2, h3⟩ | ⟨a, cap, e3, h2, h3⟩
        · omega
        · cases e; cases e3
          exact ⟨a, rfl, h2, h3 _ _ (by simp [hkk])⟩
      obtain ⟨kb, koff, ksp⟩ := ka
      cases hks0
      have hrem : (xi : Int).tmod (ks.length : Int) = ((xi % ks.length : Nat) : Int) := by rw [Int.tmod_eq_emod_of_nonneg (by omega)]; rfl
      have hidx : ((xi % ks.length : Nat) : Int) < ks.length := by omega
      obtain ⟨j, hj⟩ : ∃ j, j = xi % ks.length := ⟨_, rfl⟩
      rw [← hj] at hkc hrem hidx hml
      have HX := Lib.hid (And.intro hI (And.intro hf (And.intro hn' (And.intro hv1 (And.intro hv2 (And.intro hkx (And.intro hkeep hN'))))))); clear hI hf hn' hkx hkeep hN'
      have HY := Lib.hid (And.intro hM' (And.intro hwM (And.intro hgetM (And.intro hmk (And.intro hrow (And.intro hblk (And.intro hpk (And.intro hkk hj)))))))); clear hM' hwM hgetM hmk hrow hblk hpk hkk hj hget
      have hnz : ¬ (ks.length : Int) = 0 := by omega
      have hpl : puts.length ≤ 1000000 := by
        have := (Few.crashN (pre.map (·.1)) ks (show Few M from HKA.out.2.2)).get xk
        rw [← HY.out.1, HY.out.2.2.1] at this
        exact this
      have hw1 : IntKind.i64.wrap ((puts.length : Int) + 1) = (puts.length : Int) + 1 := IntWalk.i64_in _ (by omega)
      have hz1 : ¬ ((puts.length : Int) + 1 = 0) := by omega
      have hkp2 : (max kk 0).tmod ((puts.length : Int) + 1) = (((max kk 0).toNat % (puts.length + 1) : Nat) : Int) := by
        rw [Int.tmod_eq_emod_of_nonneg (by omega), Int.natCast_emod, Int.toNat_of_nonneg (by omega)]
        rfl
      obtain ⟨N, hN⟩ : ∃ N, N = (max kk 0).toNat % (puts.length + 1) := ⟨_, rfl⟩
      rw [← hN] at hkp2
      have hNl : N ≤ puts.length := by have := Nat.mod_lt (max kk 0).toNat (show 0 < puts.length + 1 by omega); omega
      have HNN := Lib.hid (And.intro hN (And.intro hNl hpl)); clear hN hNl hpl
      gi_upto_region 6 with fail
      refine wpIn_round_still_tail 20 (by kernel_rfl) (by kernel_rfl) (by kernel_rfl) ?nolet ?_
      case nolet => rintro ⟨a, w, h⟩; exact h
      simp only [List.take_succ_cons, List.take_zero, List.drop_succ_cons, List.drop_zero]
      refine wpStill_hide (fun KK hKK => ?_)
      iterate 20 still_step
      refine wpStill_nil (hKK _ ?_)
      clear hKK KK
      obtain ⟨hI, hf, hn', hv1, hv2, hkx, hkeep, hN'⟩ := HX.out
      obtain ⟨hM', hwM, hgetM, hmk, hrow, hblk, hpk, hkk, hj⟩ := HY.out
      have hI2 : IsMem W.drew b p' M' := hI.keeps (Keeps.drew W) (by simp)
      have hsm : M'.image.length ≤ 131072 := by rw [hwM.len]; exact hwM.small
      have hla := last_any hI2 hwM.putsIn hwM.marksIn hsm xk N (by have h5 := HNN.out.2.1; have h6 := HNN.out.2.2; omega)
      have HLA := Lib.hid hla; clear hla
      clear hgetM hmk hrow hblk hpk hkk hj hM' hwM hI hf hn' hkx hkeep hN' hI2 hsm
      go_wp2_with fail
      refine HLA.out.mono ?_
      rintro e W3 ⟨rfl, p3, hI3, hk3, hf3⟩
      have H3 := Lib.hid (And.intro hI3 (And.intro hk3 hf3)); clear hI3 hk3 hf3
      go_wp2_with fail
      obtain ⟨hI, hf, hn', hv1, hv2, hkx, hkeep, hN'⟩ := HX.out
      obtain ⟨hM', hwM, hgetM, hmk, hrow, hblk, hpk, hkk, hj⟩ := HY.out
      obtain ⟨hI3, hk3, hf3⟩ := H3.out
      obtain ⟨hNe, hNl, _⟩ := HNN.out
      have hk3' : Keeps (p'.foot b) W W3 := ((Keeps.drew W).mono (by simp)).trans hk3 (fun i hi => .inl hi)
      have hnot : ∀ i, i < W1.heap.size → i ∉ p.foot b → i ∉ p'.foot b := fun i h1 h2 h3 => by
        rcases hf i h3 with h4 | h4
        · exact h2 h4
        · omega
      refine ⟨⟨hk3'.size, fun k o hB hko hc hwk => ?_⟩, fun g hgo => ?_, ⟨p3, ?_, fun i hi => ?_, fun k e hi => ?_⟩, ?_, ?_, ?_, ?_, ?_⟩
      · have hkn : k ∉ p'.foot b := fun hi => by
          obtain ⟨q, hq, hc2⟩ := hI.kinds k hi
          rw [hko] at hq; cases hq
          rcases hc2 with hc2 | hc2
          · rw [hc] at hc2; cases hc2
          · rw [hwk] at hc2; cases hc2
        rw [hk3'.block k (Array.getElem?_eq_some_iff.1 hko).1 hkn]; exact hko
      · have h6 := hr.lt hgo
        have h7 := hg g hgo
        exact hk3'.block g (by omega) (hnot g h6 (fun hi => by have := hlt g hi; omega))
      · rw [List.map_append, List.map_singleton, Mod.crashN_snoc, ← hM', Mod.crashStep, if_neg hks]
        have hke : M'.keepN ks (xi, xk) = min N (M'.pendK xk) := by
          unfold Mod.keepN
          rw [hpk]
          show (max ((ks[xi % ks.length]?).getD 0) 0).toNat % (puts.length + 1) = _
          rw [hkk, Option.getD_some, ← hNe, Nat.min_eq_left hNl]
        rw [hke]; exact hI3
      · rcases hf3 i hi with h5 | h5
        · exact hf i h5
        · exact .inr (by have : W.drew.heap.size = W.heap.size := rfl; omega)
      · rcases hf3 k hi with h5 | h5
        · exact hn' k e h5
        · have := hnl k e
          have : W.drew.heap.size = W.heap.size := rfl
          omega
      · exact (hk3'.block _ hv1.lt (hnot _ (by omega) (fun hi => by have := hlt _ hi; omega))).trans hv1
      · exact (hk3'.block _ hv2.lt (hnot _ (by omega) (fun hi => by have := hlt _ hi; omega))).trans hv2
      · exact hkx.same fun g hgo => hk3'.block g (by have h1 := (HKA.out.1 g hgo).1; have := hkeep.size; omega) (hnot g (by have h1 := (HKA.out.1 g hgo).1; omega) (HKA.out.1 g hgo).2)
      · refine hkeep.trans hk3' (fun i hi => ?_)
        rcases hf i hi with h5 | h5
        · exact .inl h5
        · exact .inr (by omega)
      · exact Nat.le_trans hN' hk3'.size
  case done =>
    rintro D nb ys W hD hys ⟨⟨p', hI, hf, hn'⟩, hv1, hv2, hkx, hkeep, hN'⟩ hK
    obtain ⟨M', hM'⟩ : ∃ M', M' = M.crashN ks (ys.map (·.1)) := ⟨_, rfl⟩
    rw [← hM'] at hI
    have hwM : WF M' := by rw [hM']; exact hpw _
    have d1 := hv1.cell
    have q0 := hI.blkAt.cells.1
    have q1 := hI.blkAt.cells.2.1
    have q2 := hI.blkAt.cells.2.2.1
    have f0 := hI.blkAt.free 0
    have hcl : ∀ wx, Keeps [] W wx → Calls Try.prog 29 #[p'.image M'.image.length] wx (ClonePost 28 1 wx (p'.image M'.image.length) M'.image.length (M'.image.map (Value.int .u64))) := fun wx hk =>
      cloneU64_any (hI.keeps hk (by simp)).image.reads (by simp) (by simp [Value.oneCell']) (by have := hwM.small; rw [hwM.len]; omega)
    have HC := Lib.hid hcl; clear hcl
    have HX := Lib.hid (And.intro hI (And.intro hf (And.intro hn' (And.intro hv1 (And.intro hv2 (And.intro hkx (And.intro hkeep (And.intro hN' (And.intro hK (And.intro hM' hwM)))))))))); clear hI hf hn' hkx hkeep hN' hK hM' hwM
    have HQ : Hid (∀ wx, Keeps [] W wx → (wx.cell? ⟨w.heap.size, 0, none⟩ = some (.pointer (some ⟨b, 0, none⟩)) ∧ wx.cell? ⟨b, 0, none⟩ = some (p'.view M'.view.length) ∧ wx.cell? ⟨b, 1, none⟩ = some (p'.image M'.image.length) ∧ wx.frozen? ⟨b, 0, none⟩ = false ∧ Keeps [] W wx)) := Lib.hid (fun w3 hk3 => by
      have hI := HX.out.1.keeps hk3 (by simp)
      have hv := HX.out.2.2.2.1
      exact ⟨(show Boxed w3 w.heap.size 23 _ from (hk3.block _ hv.lt (by simp)).trans hv).cell, hI.blkAt.cells.1, hI.blkAt.cells.2.1, hI.blkAt.free 0, hk3⟩)
    gi_upto_region 7 with fail
    refine wpIn_wide_normal ?_
    go_region_with (first
      | (go_at_call 29; refine (HC.out _ (Keeps.drew W)).mono ?_; rintro e w3 ⟨v', rfl, r1, k1, n1, _, s1⟩; obtain ⟨g1, o1, cc1, rfl⟩ := s1 _ _ _ rfl; obtain ⟨_, q0', _, f0', _⟩ := HQ.out _ (Keeps.trans (Keeps.drew W) k1 (by simp)))
      | fail)
    all_goals
      simp only [onlyNormal]
      obtain ⟨W4, hW4⟩ : ∃ W4, W4 = w3.setCell ⟨b, 0, none⟩ (.slice (some ⟨g1, o1, none⟩) M'.image.length cc1) := ⟨_, rfl⟩
      rw [← hW4]
      have K1 : Keeps [] W w3 := Keeps.trans (Keeps.drew W) k1 (by simp)
      have K4 : Keeps [b] W W4 := by rw [hW4]; exact (K1.mono (by simp)).trans (Keeps.setCell w3 b 0 _) (fun i hi => .inl hi)
      obtain ⟨hI, hf, hn', hv1, hv2, hkx, hkeep, hN', hK, hM', hwM⟩ := HX.out
      have hsep := hI.sep
      simp only [Pl.foot, List.nodup_cons, List.mem_cons, not_or] at hsep
      obtain ⟨⟨hbv, hbi, hbm, hbL⟩, ⟨hvi, hvm, hvL⟩, ⟨him, hiL⟩, hmL, hLL⟩ := hsep
      have hbw : b < w.heap.size := hlt b (by simp [Pl.foot])
      have hI3 := hI.keeps K1 (by simp)
      have hm4 : MapIs W4 p'.mb p'.L := hI.map.same (K4.block _ hI.map.lt (by simp [Ne.symm hbm]))
      obtain ⟨es, clock, hclr, hm5⟩ := run_clear_map (P := Try.prog) (T := 64) (E := 75) hm4 Try.underlying64
      have e1 : W4.cell? ⟨w.heap.size, 0, none⟩ = some (.pointer (some ⟨b, 0, none⟩)) := (show Boxed W4 w.heap.size 23 _ from (K4.block _ hv1.lt (by simp; omega)).trans hv1).cell
      have e2 : W4.cell? ⟨b, 2, none⟩ = some (.map (some p'.mb)) := by
        rw [hW4, World.cell?_setCell_other _ _ _ _ (by simp)]
        exact hI3.blkAt.cells.2.2.1
      have HZ := Lib.hid (And.intro hW4 (And.intro K4 (And.intro r1 (And.intro n1 (And.intro hm5 (And.intro hI3 K1))))))
      clear hW4 K1 K4 hI hf hn' hv1 hv2 hkx hkeep hN' hK hM' hwM hI3 hm4 hm5 r1 k1 n1 s1 q0' f0' d1 q0 q1 q2 f0 HC HQ
      gi_wp2
      obtain ⟨hI, hf, hn', hv1, hv2, hkx, hkeep, hN', hK, hM', hwM⟩ := HX.out
      obtain ⟨hW4, K4, r1, n1, hm5, hI3, K1⟩ := HZ.out
      obtain ⟨hD5, p2, hI6, hk6, hf6⟩ := crash_end hI hI3 K1 hW4 rfl hm5 r1 (n1 g1 rfl) hK rfl
      refine ⟨by simp, .inl ⟨_, _, rfl, run_takeDeferred hD5, ?_⟩⟩
      refine ⟨_, results_none' rfl, rfl, p2, ?_, ?_, fun i hi => ?_⟩
      · have hce : M.crash ks = { M' with view := M'.image, lines := [] } := by
          unfold Mod.crash
          rw [← hys, ← hM']
        rw [hce]; exact hI6
      · refine hkeep.trans hk6 (fun i hi => ?_)
        rcases List.mem_cons.1 hi with rfl | hi
        · right; omega
        · rcases hf i hi with h5 | h5
          · exact .inl h5
          · exact .inr (by omega)
      · rcases hf6 i hi with h5 | h5
        · rcases hf i h5 with h6 | h6
          · exact .inl h6
          · exact .inr (by omega)
        · exact .inr (by have := hkeep.size; omega)
  case stop =>
    rintro D nb c pre W _ _ h _
    exact h.elim

theorem crash_any {w : World} {b : Nat} {p : Pl} {M : Mod} (h : IsMem w b p M) (hw : WF M) (hN : M.lines.length ≤ 1000000) (hfew : ∀ q ∈ M.lines, q.2.puts.length ≤ 1000000)
    (kv : Value) (ks : List Int) (hk : KeepAt w kv ks) (hku : ∀ k ∈ ks, -9223372036854775808 ≤ k ∧ k ≤ 9223372036854775807) (hkl : ks.length ≤ 1000000) (hka : ∀ g, kv.ownBlock = some g → g < w.heap.size ∧ g ∉ p.foot b) :
    Calls Try.prog 31 #[.pointer (some ⟨b, 0, none⟩), kv] w fun e W' => e = .returned (.tuple #[]) ∧ ∃ p', IsMem W' b p' (M.crash ks) ∧ Keeps (p.foot b) w W' ∧ ∀ i ∈ p'.foot b, i ∈ p.foot b ∨ w.heap.size ≤ i :=
  (callsIn_wide (n := 5)).1 (crash_in 5 (Nat.le_refl _) h hw hN hfew kv ks hk hku hkl hka)
end Go.Proofs.Ytfjjiohclokohaa.pm
