/-
  PROVED HERE: the world between two rounds of the reference's Parse (RB): its variables, the acts so far, and what keeps them. Conditions: none.
-/
import Derived.Test.YtbpbkmhipbchbaaGreatDoorScRP
namespace Go.Proofs.YtbpbkmhipbchbaaGreatDoor.sc
open Go Go.RowKit
set_option linter.unusedVariables false

/-- The acts so far: a row of the call's own; each act's slots in a row that is none of it. -/
def AP (w : World) (B : Nat) (v : Value) (l : List Ac) : Prop :=
  ∃ xs, w.ownsRow B 31 10 v l.length xs ∧ ∀ i a, l[i]? = some a → ∃ kv, (∀ j, j < 10 → xs[i * 10 + j]? = (acC a kv)[j]?) ∧ RowR w kv a.keep.length 1 (a.keep.map (Value.int .i64)) ∧ (0 < a.keep.length → ∀ r, kv.ownBlock = some r → B ≤ r ∧ v.ownBlock ≠ some r)
theorem AP.nil (w : World) (B : Nat) : AP w B (.slice none 0 0) [] := ⟨[], World.ownsRow_nil _ _ _ _, fun i a h => by simp at h⟩
theorem AP.turn {w w' : World} {B : Nat} {v : Value} {l : List Ac} {row : Option Nat} (h : AP w B v l) (hg : w.grownBy w' row) (hr : ∀ r, row = some r → r < B) : AP w' B v l := by
  obtain ⟨xs, h1, h2⟩ := h
  have keep : ∀ (g : Nat) (o : Obj), w.heap[g]? = some o → (row ≠ some g) → w'.heap[g]? = some o := fun g o ho hne => by
    rw [hg.block g (Array.getElem?_eq_some_iff.1 ho).1 (fun e => hne e.symm)]; exact ho
  refine ⟨xs, own_kept h1 fun g cur hv hb ho => keep g _ ho fun e => ?_, fun i a hi => ?_⟩
  · have := hr g e; omega
  · obtain ⟨kv, h3, h4, h5⟩ := h2 i a hi
    refine ⟨kv, h3, rowR_kept h4 hg.size fun hn r e => ?_, h5⟩
    obtain ⟨o, ho, _⟩ := kr_cells h4 hn e
    exact hg.block r (Array.getElem?_eq_some_iff.1 ho).1 (fun e2 => by have := hr r e2.symm; have := (h5 hn r e).1; omega)
theorem AP.acts {w : World} {B : Nat} {v : Value} {l : List Ac} (h : AP w B v l) : ActsR w v l := by
  obtain ⟨xs, h1, h2⟩ := h
  have hx := h1.1
  rcases h1.2 with ⟨rfl, hn⟩ | ⟨g, cap, cur, rfl, hb, h3, h4, h5, h6, h7⟩
  · have : l = [] := List.eq_nil_of_length_eq_zero hn
    subst this
    exact ActsR.nil w
  · refine ⟨_, cap, rfl, h4, fun hn => ⟨g, 0, rfl, (Array.getElem?_eq_some_iff.1 h3).1, fun i a hi => ?_⟩⟩
    obtain ⟨kv, h8, h9, _⟩ := h2 i a hi
    have hl : i < l.length := (List.getElem?_eq_some_iff.1 hi).1
    refine ⟨kv, fun j hj => ?_, h9⟩
    have hj2 : i * 10 + j < xs.length := by omega
    have hc := h1.cells (g := g) rfl (i * 10 + j) _ (List.getElem?_eq_getElem hj2)
    rw [← h8 j hj, List.getElem?_eq_getElem hj2, ← hc, add_plain, Nat.zero_add]
    congr 1
    simp
/-- What is so of a slice's numbers, and stays so while the acts' row is turned. -/
def KR (w : World) (B : Nat) (v kl : Value) (k : List Int) : Prop := RowR w kl k.length 1 (k.map (Value.int .i64)) ∧ (0 < k.length → ∀ r, kl.ownBlock = some r → B ≤ r ∧ v.ownBlock ≠ some r)
theorem KR.turn {w w' : World} {B : Nat} {v kl : Value} {k : List Int} {row : Option Nat} (h : KR w B v kl k) (hg : w.grownBy w' row) (hr : ∀ r, row = some r → r < B) : KR w' B v kl k := by
  refine ⟨rowR_kept h.1 hg.size fun hn r e => ?_, h.2⟩
  obtain ⟨o, ho, _⟩ := kr_cells h.1 hn e
  exact hg.block r (Array.getElem?_eq_some_iff.1 ho).1 (fun e2 => by have := hr r e2.symm; have := (h.2 hn r e).1; omega)
theorem KR.push {w w' : World} {B : Nat} {v v' kl : Value} {k : List Int} (h : KR w B v kl k) (hg : w.grownBy w' v.ownBlock) (hv : v'.ownBlock = v.ownBlock ∨ v'.ownBlock = some w.heap.size) : KR w' B v' kl k := by
  refine ⟨rowR_kept h.1 hg.size fun hn r e => ?_, fun hn r e => ⟨(h.2 hn r e).1, ?_⟩⟩
  · obtain ⟨o, ho, _⟩ := kr_cells h.1 hn e
    exact hg.block r (Array.getElem?_eq_some_iff.1 ho).1 (fun e2 => (h.2 hn r e).2 e2.symm)
  · obtain ⟨o, ho, _⟩ := kr_cells h.1 hn e
    rcases hv with hv | hv
    · rw [hv]; exact (h.2 hn r e).2
    · rw [hv]
      have := (Array.getElem?_eq_some_iff.1 ho).1
      intro e; injection e with e; omega
theorem KR.nil (w : World) (B : Nat) (v : Value) : KR w B v (.slice none 0 0) [] := ⟨RowR.nil _ _, fun hn => absurd hn (by simp)⟩
theorem AP.push {w w' : World} {B : Nat} {v v' kv : Value} {l : List Ac} {a : Ac} {xs : List Value} (h1 : w.ownsRow B 31 10 v l.length xs)
    (h2 : ∀ i a, l[i]? = some a → ∃ kv, (∀ j, j < 10 → xs[i * 10 + j]? = (acC a kv)[j]?) ∧ RowR w kv a.keep.length 1 (a.keep.map (Value.int .i64)) ∧ (0 < a.keep.length → ∀ r, kv.ownBlock = some r → B ≤ r ∧ v.ownBlock ≠ some r))
    (hk : KR w B v kv a.keep) (ho : w'.ownsRow B 31 10 v' (l.length + 1) (xs ++ (acC a kv).toList)) (hg : w.grownBy w' v.ownBlock) (hv : v'.ownBlock = v.ownBlock ∨ v'.ownBlock = some w.heap.size) : AP w' B v' (l ++ [a]) := by
  refine ⟨_, by rw [List.length_append]; exact ho, fun i b hi => ?_⟩
  have hx := h1.1
  by_cases hl : i < l.length
  · rw [List.getElem?_append_left hl] at hi
    obtain ⟨kv2, h3, h4⟩ := h2 i b hi
    refine ⟨kv2, fun j hj => ?_, (KR.push h4 hg hv).1, (KR.push h4 hg hv).2⟩
    rw [List.getElem?_append_left (by omega)]; exact h3 j hj
  · have hl2 : i = l.length := by
      have := (List.getElem?_eq_some_iff.1 hi).1
      simp at this; omega
    subst hl2
    simp at hi
    subst hi
    refine ⟨kv, fun j hj => ?_, (hk.push hg hv).1, (hk.push hg hv).2⟩
    rw [List.getElem?_append_right (by omega), Array.getElem?_toList]
    congr 1; omega

/-- The world between two rounds. -/
structure RB (w : World) (s : Sc) (v : Value) (a : Ac) (kl : Value) (W : World) : Prop where
  r2 : Blk W w.heap.size 58 (scC Sc.zero (.slice none 0 0))
  bs : Blk W (w.heap.size + 1) 58 (scC s v)
  bl : Blk W (w.heap.size + 2) 31 (acC a kl)
  be : Below w.heap.size w W
  ao : AP W (w.heap.size + 3) v s.acts
  kr : KR W (w.heap.size + 3) v kl a.keep
section
variable {w W W' : World} {s : Sc} {v : Value} {a : Ac} {kl : Value}
theorem RB.size (h : RB w s v a kl W) : w.heap.size + 3 ≤ W.heap.size := by have := h.bl.lt; omega
theorem RB.next (h : RB w s v a kl W) (hb : Below W.heap.size W W') : RB w s v a kl W' :=
  ⟨h.r2.below hb h.r2.lt, h.bs.below hb h.bs.lt, h.bl.below hb h.bl.lt, h.be.trans (hb.mono h.be.size), h.ao.turn (Below.grown0 hb) (fun r e => by cases e), h.kr.turn (Below.grown0 hb) (fun r e => by cases e)⟩
theorem RB.first (h : RB w Sc.zero (.slice none 0 0) a kl W) (x y : Int) : RB w ⟨x, y, []⟩ (.slice none 0 0) a kl ((W.setCell ⟨w.heap.size + 1, 0, none⟩ (.int .i64 x)).setCell ⟨w.heap.size + 1, 1, none⟩ (.int .i64 y)) := by
  have hg : W.grownBy ((W.setCell ⟨w.heap.size + 1, 0, none⟩ (.int .i64 x)).setCell ⟨w.heap.size + 1, 1, none⟩ (.int .i64 y)) (some (w.heap.size + 1)) :=
    grown_trans (grown_set W ⟨w.heap.size + 1, 0, none⟩ _) (grown_set _ ⟨w.heap.size + 1, 1, none⟩ _)
  have ne : ∀ {g : Nat}, g ≠ w.heap.size + 1 → some g ≠ some (w.heap.size + 1) := fun h e => h (by injection e)
  exact ⟨h.r2.grown hg (ne (by omega)), (h.bs.set_ 0 (.int .i64 x)).set_ 1 (.int .i64 y), h.bl.grown hg (ne (by omega)), h.be.grown hg h.be.size (fun g e => by injection e with e; omega), AP.nil _ _, h.kr.turn hg (fun r e => by injection e with e; omega)⟩
/-- The last act is set. -/
theorem RB.setLast (h : RB w s v a kl W) (b : Ac) (kv : Value) (hr : KR W (w.heap.size + 3) v kv b.keep) : RB w s v b kv (put10 W (w.heap.size + 2) b kv) := by
  have hg := grown_put10 W (w.heap.size + 2) b kv
  have ne : ∀ {g : Nat}, g ≠ w.heap.size + 2 → some g ≠ some (w.heap.size + 2) := fun h e => h (by injection e)
  exact ⟨h.r2.grown hg (ne (by omega)), h.bs.grown hg (ne (by omega)), put10_blk h.bl rfl b kv, h.be.grown hg h.be.size (fun g e => by injection e with e; omega), h.ao.turn hg (fun r e => by injection e with e; omega), hr.turn hg (fun r e => by injection e with e; omega)⟩
/-- An act is appended (w2: behind the append; then the slice is stored). -/
theorem RB.push (h : RB w s v a kl W) {b : Ac} {kv v' : Value} {xs : List Value} (h1 : W.ownsRow (w.heap.size + 3) 31 10 v s.acts.length xs)
    (h2 : ∀ i a, s.acts[i]? = some a → ∃ kv, (∀ j, j < 10 → xs[i * 10 + j]? = (acC a kv)[j]?) ∧ RowR W kv a.keep.length 1 (a.keep.map (Value.int .i64)) ∧ (0 < a.keep.length → ∀ r, kv.ownBlock = some r → w.heap.size + 3 ≤ r ∧ v.ownBlock ≠ some r))
    (hk : KR W (w.heap.size + 3) v kv b.keep) (ho : W'.ownsRow (w.heap.size + 3) 31 10 v' (s.acts.length + 1) (xs ++ (acC b kv).toList)) (hg : W.grownBy W' v.ownBlock)
    (hv : v'.ownBlock = v.ownBlock ∨ v'.ownBlock = some W.heap.size) :
    RB w ⟨s.slabs, s.clients, s.acts ++ [b]⟩ v' a kl (W'.setCell ⟨w.heap.size + 1, 2, none⟩ v') ∧ KR (W'.setCell ⟨w.heap.size + 1, 2, none⟩ v') (w.heap.size + 3) v' kv b.keep := by
  have lo : ∀ g, g < w.heap.size + 3 → some g ≠ v.ownBlock := fun g hlt e => by have := (h1.lt g e.symm).1; omega
  have hg2 : W'.grownBy (W'.setCell ⟨w.heap.size + 1, 2, none⟩ v') (some (w.heap.size + 1)) := grown_set W' ⟨w.heap.size + 1, 2, none⟩ v'
  have ne : ∀ {g : Nat}, g ≠ w.heap.size + 1 → some g ≠ some (w.heap.size + 1) := fun h e => h (by injection e)
  have lt2 : ∀ r, some (w.heap.size + 1) = some r → r < w.heap.size + 3 := fun r e => by injection e with e; omega
  exact ⟨⟨(h.r2.grown hg (lo _ (by omega))).grown hg2 (ne (by omega)), (h.bs.grown hg (lo _ (by omega))).set_ 2 v', (h.bl.grown hg (lo _ (by omega))).grown hg2 (ne (by omega)),
    (h.be.grown hg h.be.size (fun g e => by have := (h1.lt g e).1; omega)).grown hg2 (Nat.le_trans h.be.size hg.size) (fun g e => by injection e with e; omega),
    (AP.push h1 h2 hk ho hg hv).turn hg2 lt2, (h.kr.push hg hv).turn hg2 lt2⟩, (hk.push hg hv).turn hg2 lt2⟩
/-- The results are set. -/
theorem RB.fin (h : RB w s v a kl W) (x y : Int) (z : Value) {Y : World} (hY : Y = ((W.setCell ⟨w.heap.size, 0, none⟩ (.int .i64 x)).setCell ⟨w.heap.size, 1, none⟩ (.int .i64 y)).setCell ⟨w.heap.size, 2, none⟩ z) :
    Blk Y w.heap.size 58 #[.int .i64 x, .int .i64 y, z] ∧ Below w.heap.size w Y ∧ ActsR Y v s.acts := by
  have hg : W.grownBy Y (some w.heap.size) := by rw [hY]; exact grown_first _ _ _ _ _
  refine ⟨by rw [hY]; exact ((h.r2.set_ 0 _).set_ 1 _).set_ 2 _, h.be.grown hg h.be.size (fun g e => by injection e with e; omega), (h.ao.turn hg (fun r e => by injection e with e; omega)).acts⟩
end
theorem RB.start (w : World) : RB w Sc.zero (.slice none 0 0) Ac.zero (.slice none 0 0) (((w.alloc (.cells (scC Sc.zero (.slice none 0 0)) 58)).alloc (.cells (scC Sc.zero (.slice none 0 0)) 58)).alloc (.cells (acC Ac.zero (.slice none 0 0)) 31)) := by
  have b0 := Blk.new w 58 (scC Sc.zero (.slice none 0 0))
  have b1 := Blk.new (w.alloc (.cells (scC Sc.zero (.slice none 0 0)) 58)) 58 (scC Sc.zero (.slice none 0 0))
  have b2 := Blk.new ((w.alloc (.cells (scC Sc.zero (.slice none 0 0)) 58)).alloc (.cells (scC Sc.zero (.slice none 0 0)) 58)) 31 (acC Ac.zero (.slice none 0 0))
  rw [World.size_alloc] at b1
  rw [World.size_alloc, World.size_alloc] at b2
  exact ⟨(b0.alloc _).alloc _, b1.alloc _, b2, (((Below.refl _ _).alloc (Nat.le_refl _) _).alloc (by simp) _).alloc (by simp; omega) _, AP.nil _ _, KR.nil _ _ _⟩

/-! ### An act appended -/
theorem wpList_app_act {w : World} {ops : Array Oper} {rest : List Oper} {o : Oper} {a : Act} {Q : Exit → Act → World → Prop} (hgd : o.guard = none) (s x : Operand)
    (ho : o.op = .call { callee := .builtin .append, args := #[s, x], argTypes := #[56, 56] }) (base : Nat) (v : Value) (k : Nat) (xs : List Value) (hs : a.eval s = v) (hown : w.ownsRow base 31 10 v k xs)
    (g : Nat) (b : Ac) (kv : Value) (hk : kv.oneCell' = true) (hx : a.eval x = .slice (some ⟨g, 0, none⟩) 1 1) (hb : Blk w g 31 (acC b kv)) (b1 : k ≤ 100000) (b3 : base ≤ w.heap.size)
    (hK : ∀ v' w', w'.ownsRow base 31 10 v' (k + 1) (xs ++ (acC b kv).toList) → w.grownBy w' v.ownBlock → (v'.ownBlock = v.ownBlock ∨ v'.ownBlock = some w.heap.size) → wpList Tryz.prog ops Q rest (a.put o.dst v') w') :
    wpList Tryz.prog ops Q (o :: rest) a w := by
  obtain ⟨i, z, h1, h2, h3, h4, h5⟩ := act_parts
  exact wpList_append_any w hgd s x 56 ho base 31 i z 10 i.bytes Tryz.underlying56 h1 h2 h4 rfl h3 (by decide) v k xs hs hown w.heap.size (some ⟨g, 0, none⟩) 1 1 (acC b kv).toList hx
    ⟨rfl, fun _ => ⟨_, rfl, hb.lt, fun j u hj => by
      rw [add_plain, Nat.zero_add, hb.cell j]
      rw [Array.getElem?_toList] at hj; exact hj⟩⟩
    (fun u hu => by
      simp only [acC, List.mem_cons, List.not_mem_nil, or_false] at hu
      rcases hu with rfl | rfl | rfl | rfl | rfl | rfl | rfl | rfl | rfl | rfl <;> first | rfl | exact hk)
    (by unfold maxLen; omega) (Nat.le_trans (Nat.mul_le_mul (show k + 1 ≤ 100001 by omega) h5) (by decide)) b3 hK
theorem res_rParse {X : World} {b : Nat} {x y n e : Int} {z : Value} {tmps : Array Value} (hB : Blk X b 58 #[.int .i64 x, .int .i64 y, z]) (h2 : tmps[2]? = some (.pointer (some ⟨b, 0, none⟩))) (h3 : tmps[3]? = some (.int .i64 n)) (h4 : tmps[4]? = some (.int .i64 e)) :
    (results Tryz.f26 tmps).run Tryz.prog X = .ok (.tuple #[.agg #[.int .i64 x, .int .i64 y, z], .int .i64 n, .int .i64 e]) X := by
  have e0 : X.cell? ⟨b, 0, none⟩ = some (.int .i64 x) := hB.cell 0
  have e1 : X.cell? ⟨b, 1, none⟩ = some (.int .i64 y) := hB.cell 1
  have e2 : X.cell? ⟨b, 2, none⟩ = some z := hB.cell 2
  simp [results, Tryz.results26, go_sem, h2, h3, h4, e0, e1, e2]
end Go.Proofs.YtbpbkmhipbchbaaGreatDoor.sc
