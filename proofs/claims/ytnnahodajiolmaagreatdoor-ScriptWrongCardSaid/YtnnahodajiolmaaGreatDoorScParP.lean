/-
  PROVED HERE: what script's Parse comes to, in plain words (parseP), and the world between two rounds of its loop (PB): the variables, the acts so far, and what keeps them. Conditions: none.
-/
import Derived.Test.YtnnahodajiolmaaGreatDoorScLns
import Derived.OwnWalkIn
namespace Go.Proofs.YtnnahodajiolmaaGreatDoor.sc
open Go Go.RowKit
set_option linter.unusedVariables false

/-! ### Parse, in plain words -/
def Sc.zero : Sc := ⟨0, 0, []⟩
/-- One line more (k lines stand ahead of it): an error's number, or the script so far and the last act. -/
def stepP (k : Nat) (st : Sc × Ac) (line : Bs) : Except Int (Sc × Ac) :=
  if k = 0 then (match firstP (Go.Lib.trimSuffix line [10]) with
    | none => .error 11
    | some p => if Go.Lib.hasSuffix line [10] then .ok (⟨p.1, p.2, []⟩, Ac.zero) else .error 11)
  else (match lineOf (Go.Lib.trimSuffix line [10]) with
    | none => .error 11
    | some p => if Go.Lib.hasSuffix line [10] = false ∨ (2 ≤ k ∧ again p.1 = true ∧ p.1 = st.2) then .error 11
      else if (100000 : Int) - (st.1.acts.length : Int) < p.2 then .error 10
      else .ok (⟨st.1.slabs, st.1.clients, st.1.acts ++ List.replicate p.2.toNat p.1⟩, p.1))
def foldP : Nat → Sc × Ac → List Bs → Except (Nat × Int) (Sc × Ac)
  | _, st, [] => .ok st
  | k, st, x :: r => match stepP k st x with
    | .error e => .error (k + 1, e)
    | .ok st' => foldP (k + 1) st' r
def parseP (t : Bs) : Sc × Int × Int := if t = [] then (Sc.zero, 1, 11) else match foldP 0 (Sc.zero, Ac.zero) (linesL t) with
  | .error p => (Sc.zero, (p.1 : Int), p.2)
  | .ok st => (st.1, 0, 0)
theorem foldP_ok : ∀ (pre t : List Bs) (k : Nat) (st st' : Sc × Ac), foldP k st pre = .ok st' → foldP k st (pre ++ t) = foldP (k + pre.length) st' t
  | [], t, k, st, st', h => by
    rw [foldP] at h; injection h with h; rw [h]; simp
  | x :: r, t, k, st, st', h => by
    rw [foldP] at h
    rw [List.cons_append, foldP]
    cases hs : stepP k st x with
    | error e => rw [hs] at h; cases h
    | ok s2 =>
      rw [hs] at h
      show foldP (k + 1) s2 (r ++ t) = _
      rw [foldP_ok r t (k + 1) s2 st' h]
      congr 1
      simp; omega
theorem foldP_bad : ∀ (pre t : List Bs) (k : Nat) (st : Sc × Ac) (e : Nat × Int), foldP k st pre = .error e → foldP k st (pre ++ t) = .error e
  | [], t, k, st, e, h => by rw [foldP] at h; cases h
  | x :: r, t, k, st, e, h => by
    rw [foldP] at h
    rw [List.cons_append, foldP]
    cases hs : stepP k st x with
    | error e2 => rw [hs] at h; exact h
    | ok s2 =>
      rw [hs] at h
      exact foldP_bad r t (k + 1) s2 e h
theorem foldP_one (k : Nat) (st : Sc × Ac) (x : Bs) : foldP k st [x] = match stepP k st x with
    | .error e => .error (k + 1, e)
    | .ok st' => .ok st' := by
  rw [foldP]
  cases stepP k st x with
  | error e => rfl
  | ok s => rfl

section
variable {k : Nat} {st : Sc × Ac} {line bd : Bs} {b : Ac} {n : Int}
theorem stepP_none (hk : k ≠ 0) (hb : bd = Go.Lib.trimSuffix line [10]) (h : lineOf bd = none) : stepP k st line = .error 11 := by
  rw [stepP, if_neg hk, ← hb, h]
theorem stepP_same (hk : k ≠ 0) (hb : bd = Go.Lib.trimSuffix line [10]) (h : lineOf bd = some (b, n)) (hd : Go.Lib.hasSuffix line [10] = false ∨ (2 ≤ k ∧ again b = true ∧ b = st.2)) : stepP k st line = .error 11 := by
  rw [stepP, if_neg hk, ← hb, h]; exact if_pos hd
theorem stepP_many (hk : k ≠ 0) (hb : bd = Go.Lib.trimSuffix line [10]) (h : lineOf bd = some (b, n)) (hd : ¬ (Go.Lib.hasSuffix line [10] = false ∨ (2 ≤ k ∧ again b = true ∧ b = st.2))) (hn : (100000 : Int) - (st.1.acts.length : Int) < n) : stepP k st line = .error 10 := by
  rw [stepP, if_neg hk, ← hb, h]
  exact (if_neg hd).trans (if_pos hn)
theorem stepP_go (hk : k ≠ 0) (hb : bd = Go.Lib.trimSuffix line [10]) (h : lineOf bd = some (b, n)) (hd : ¬ (Go.Lib.hasSuffix line [10] = false ∨ (2 ≤ k ∧ again b = true ∧ b = st.2))) (hn : ¬ (100000 : Int) - (st.1.acts.length : Int) < n) :
    stepP k st line = .ok (⟨st.1.slabs, st.1.clients, st.1.acts ++ List.replicate n.toNat b⟩, b) := by
  rw [stepP, if_neg hk, ← hb, h]
  exact (if_neg hd).trans (if_neg hn)
end

/-! ### The acts so far: a row of the call's own, each act's slots in a row of ints of its own -/
theorem own_kept {w w' : World} {B : Nat} {T : TypeId} {size : Nat} {v : Value} {n : Nat} {xs : List Value} (h : w.ownsRow B T size v n xs)
    (hk : ∀ g cur, v.ownBlock = some g → B ≤ g → w.heap[g]? = some (.cells cur T (0, 0)) → w'.heap[g]? = some (.cells cur T (0, 0))) : w'.ownsRow B T size v n xs := by
  refine ⟨h.1, ?_⟩
  rcases h.2 with h2 | ⟨g, cap, cur, rfl, hb, h3, h4⟩
  · exact .inl h2
  · exact .inr ⟨g, cap, cur, rfl, hb, hk g cur rfl hb h3, h4⟩
def AO (w : World) (B : Nat) (v : Value) (l : List Ac) : Prop :=
  ∃ xs, w.ownsRow B 40 10 v l.length xs ∧ ∀ i a, l[i]? = some a → ∃ kv, (∀ j, j < 10 → xs[i * 10 + j]? = (acC a kv)[j]?) ∧ w.ownsRow B 3 1 kv a.keep.length (a.keep.map (Value.int .i64))
theorem AO.nil (w : World) (B : Nat) : AO w B (.slice none 0 0) [] := ⟨[], World.ownsRow_nil _ _ _ _, fun i a h => by simp at h⟩
theorem AO.turn {w w' : World} {B : Nat} {v : Value} {l : List Ac} {row : Option Nat} (h : AO w B v l) (hg : w.grownBy w' row)
    (hr : ∀ r, row = some r → r < B ∨ (v.ownBlock ≠ some r ∧ ∀ cs, w.heap[r]? ≠ some (.cells cs 3 (0, 0)))) : AO w' B v l := by
  obtain ⟨xs, h1, h2⟩ := h
  have keep : ∀ (g : Nat) (o : Obj), w.heap[g]? = some o → (row ≠ some g) → w'.heap[g]? = some o := fun g o ho hne => by
    rw [hg.block g (Array.getElem?_eq_some_iff.1 ho).1 (fun e => hne e.symm)]; exact ho
  refine ⟨xs, own_kept h1 fun g cur hv hb ho => keep g _ ho fun e => ?_, fun i a hi => ?_⟩
  · rcases hr g e with h | h
    · omega
    · exact h.1 hv
  · obtain ⟨kv, h3, h4⟩ := h2 i a hi
    refine ⟨kv, h3, own_kept h4 fun g cur hv hb ho => keep g _ ho fun e => ?_⟩
    rcases hr g e with h | h
    · omega
    · exact h.2 cur ho
theorem AO.push {w w' : World} {B : Nat} {v v' kv : Value} {l : List Ac} {a : Ac} {xs : List Value} (h1 : w.ownsRow B 40 10 v l.length xs)
    (h2 : ∀ i a, l[i]? = some a → ∃ kv, (∀ j, j < 10 → xs[i * 10 + j]? = (acC a kv)[j]?) ∧ w.ownsRow B 3 1 kv a.keep.length (a.keep.map (Value.int .i64)))
    (hk : w.ownsRow B 3 1 kv a.keep.length (a.keep.map (Value.int .i64))) (ho : w'.ownsRow B 40 10 v' (l.length + 1) (xs ++ (acC a kv).toList)) (hg : w.grownBy w' v.ownBlock) : AO w' B v' (l ++ [a]) := by
  have keep : ∀ {kv : Value} {n : Nat} {ys : List Value}, w.ownsRow B 3 1 kv n ys → w'.ownsRow B 3 1 kv n ys := fun h => own_kept h fun g cur hv hb ho => by
    rw [hg.block g (Array.getElem?_eq_some_iff.1 ho).1 ?_]; exact ho
    intro e
    rcases h1.2 with ⟨rfl, _⟩ | ⟨g', cap, cur', rfl, _, h3, _⟩
    · cases e
    · injection e with e
      subst e
      rw [h3] at ho
      injection ho with ho
      injection ho with _ ho
      exact absurd ho (by decide)
  refine ⟨_, by rw [List.length_append]; exact ho, fun i b hi => ?_⟩
  have hx := h1.1
  by_cases hl : i < l.length
  · rw [List.getElem?_append_left hl] at hi
    obtain ⟨kv2, h3, h4⟩ := h2 i b hi
    refine ⟨kv2, fun j hj => ?_, keep h4⟩
    rw [List.getElem?_append_left (by omega)]; exact h3 j hj
  · have hl2 : i = l.length := by
      have := (List.getElem?_eq_some_iff.1 hi).1
      simp at this; omega
    subst hl2
    simp at hi
    subst hi
    refine ⟨kv, fun j hj => ?_, keep hk⟩
    rw [List.getElem?_append_right (by omega), Array.getElem?_toList]
    congr 1; omega
theorem AO.acts {w : World} {B : Nat} {v : Value} {l : List Ac} (h : AO w B v l) : ActsR w v l := by
  obtain ⟨xs, h1, h2⟩ := h
  have hx := h1.1
  rcases h1.2 with ⟨rfl, hn⟩ | ⟨g, cap, cur, rfl, hb, h3, h4, h5, h6, h7⟩
  · have : l = [] := List.eq_nil_of_length_eq_zero hn
    subst this
    exact ActsR.nil w
  · refine ⟨_, cap, rfl, h4, fun hn => ⟨g, 0, rfl, (Array.getElem?_eq_some_iff.1 h3).1, fun i a hi => ?_⟩⟩
    obtain ⟨kv, h8, h9⟩ := h2 i a hi
    have hl : i < l.length := (List.getElem?_eq_some_iff.1 hi).1
    refine ⟨kv, fun j hj => ?_, RowR.of_own h9⟩
    have hj2 : i * 10 + j < xs.length := by omega
    have hc := h1.cells (g := g) rfl (i * 10 + j) _ (List.getElem?_eq_getElem hj2)
    rw [← h8 j hj, List.getElem?_eq_getElem hj2, ← hc, add_plain, Nat.zero_add]
    congr 1
    simp

theorem rowR_kept {w w' : World} {v : Value} {n size : Nat} {cs : List Value} (h : RowR w v n size cs) (hs : w.heap.size ≤ w'.heap.size) (hk : 0 < n → ∀ r, v.ownBlock = some r → w'.heap[r]? = w.heap[r]?) : RowR w' v n size cs := by
  obtain ⟨A, c, rfl, h2, h3, h4⟩ := h
  refine ⟨A, c, rfl, h2, h3, fun hn => ?_⟩
  obtain ⟨b, o, rfl, hlt, hc⟩ := h4 hn
  refine ⟨b, o, rfl, by omega, fun j u hj => ?_⟩
  rw [World.cell?_of_block (hk hn b rfl)]; exact hc j u hj
theorem cells_of_cell {w : World} {p : Addr} {v : Value} (h : w.cell? p = some v) : ∃ o, w.heap[p.block]? = some o ∧ o.isCells = true := by
  cases ho : w.heap[p.block]? with
  | none => simp [World.cell?, ho] at h
  | some o =>
    refine ⟨o, rfl, ?_⟩
    cases o <;> first | rfl | simp [World.cell?, ho] at h

/-! ### The world between two rounds -/
theorem grown_set (W : World) (p : Addr) (u : Value) : W.grownBy (W.setCell p u) (some p.block) :=
  ⟨rfl, rfl, rfl, ((Below.refl 0 W).setCell (Nat.zero_le _) u).size, fun k _ hk => Below.heap_setCell _ _ _ k (fun e => hk (by rw [e]))⟩
structure PB (w : World) (s : Sc) (v : Value) (a : Ac) (kl : Value) (k : Int) (W : World) : Prop where
  r2 : Blk W w.heap.size 25 (scC Sc.zero (.slice none 0 0))
  r3 : Blk W (w.heap.size + 1) 3 #[.int .i64 0]
  r4 : Blk W (w.heap.size + 2) 26 #[.int .i64 0]
  bs : Blk W (w.heap.size + 3) 25 (scC s v)
  bl : Blk W (w.heap.size + 4) 40 (acC a kl)
  bn : Blk W (w.heap.size + 5) 3 #[.int .i64 k]
  bc : ∃ cs, Blk W (w.heap.size + 6) 9 cs
  be : Below w.heap.size w W
  ao : AO W (w.heap.size + 7) v s.acts
  kr : RowR W kl a.keep.length 1 (a.keep.map (Value.int .i64))
  kb : 0 < a.keep.length → ∀ r, kl.ownBlock = some r → w.heap.size + 7 ≤ r ∧ v.ownBlock ≠ some r
theorem kr_cells {W : World} {kl : Value} {k : List Int} (h : RowR W kl k.length 1 (k.map (Value.int .i64))) (hk : 0 < k.length) {r : Nat} (hr : kl.ownBlock = some r) : ∃ o, W.heap[r]? = some o ∧ o.isCells = true := by
  obtain ⟨A, c, rfl, h2, h3, h4⟩ := h
  obtain ⟨b, o, rfl, hlt, hc⟩ := h4 hk
  injection hr with hr
  subst hr
  have h0 : (k.map (Value.int .i64))[0]? = some (.int .i64 (k[0]'hk)) := by simp [hk]
  exact cells_of_cell (p := ⟨b, o + 0, none⟩) (hc 0 _ h0)
section
variable {w W W' : World} {s : Sc} {v : Value} {a : Ac} {kl : Value} {k : Int}
/-- A turn of a block that is none of these. -/
theorem PB.turn (h : PB w s v a kl k W) {row : Option Nat} (hg : W.grownBy W' row)
    (hr : ∀ r, row = some r → w.heap.size + 7 ≤ r ∧ v.ownBlock ≠ some r ∧ (0 < a.keep.length → kl.ownBlock ≠ some r) ∧ (∀ cs, W.heap[r]? ≠ some (.cells cs 3 (0, 0)))) : PB w s v a kl k W' := by
  have lo : ∀ g, g < w.heap.size + 7 → some g ≠ row := fun g hlt e => by have := (hr g e.symm).1; omega
  obtain ⟨cs, hcs⟩ := h.bc
  exact ⟨h.r2.grown hg (lo _ (by omega)), h.r3.grown hg (lo _ (by omega)), h.r4.grown hg (lo _ (by omega)), h.bs.grown hg (lo _ (by omega)), h.bl.grown hg (lo _ (by omega)), h.bn.grown hg (lo _ (by omega)),
    ⟨cs, hcs.grown hg (lo _ (by omega))⟩, h.be.grown hg h.be.size (fun g e => by have := (hr g e).1; omega),
    h.ao.turn hg (fun r e => .inr ⟨(hr r e).2.1, (hr r e).2.2.2⟩),
    rowR_kept h.kr hg.size fun hn r e => by
      obtain ⟨o, ho, _⟩ := kr_cells h.kr hn e
      exact hg.block r (Array.getElem?_eq_some_iff.1 ho).1 (fun e2 => (hr r e2.symm).2.2.1 hn e), h.kb⟩
theorem PB.next (h : PB w s v a kl k W) (hb : Below W.heap.size W W') : PB w s v a kl k W' := h.turn (Below.grown0 hb) fun r e => by cases e
/-- A turn of one of the variables. -/
theorem PB.low (h : PB w s v a kl k W) {r : Nat} (hg : W.grownBy W' (some r)) (hr : r < w.heap.size + 7) (hn : w.heap.size ≤ r) :
    (r ≠ w.heap.size → Blk W' w.heap.size 25 (scC Sc.zero (.slice none 0 0))) ∧ (r ≠ w.heap.size + 1 → Blk W' (w.heap.size + 1) 3 #[.int .i64 0]) ∧ (r ≠ w.heap.size + 2 → Blk W' (w.heap.size + 2) 26 #[.int .i64 0])
      ∧ (r ≠ w.heap.size + 3 → Blk W' (w.heap.size + 3) 25 (scC s v)) ∧ (r ≠ w.heap.size + 4 → Blk W' (w.heap.size + 4) 40 (acC a kl)) ∧ (r ≠ w.heap.size + 5 → Blk W' (w.heap.size + 5) 3 #[.int .i64 k])
      ∧ (r ≠ w.heap.size + 6 → ∃ cs, Blk W' (w.heap.size + 6) 9 cs) ∧ Below w.heap.size w W' ∧ AO W' (w.heap.size + 7) v s.acts ∧ RowR W' kl a.keep.length 1 (a.keep.map (Value.int .i64)) := by
  have ne : ∀ {g : Nat}, r ≠ g → some g ≠ some r := fun h e => h (by injection e with e; exact e.symm)
  obtain ⟨cs, hcs⟩ := h.bc
  exact ⟨fun e => h.r2.grown hg (ne e), fun e => h.r3.grown hg (ne e), fun e => h.r4.grown hg (ne e), fun e => h.bs.grown hg (ne e), fun e => h.bl.grown hg (ne e), fun e => h.bn.grown hg (ne e), fun e => ⟨cs, hcs.grown hg (ne e)⟩,
    h.be.grown hg h.be.size (fun g e => by injection e with e; omega), h.ao.turn hg (fun g e => .inl (by injection e with e; omega)),
    rowR_kept h.kr hg.size fun hn g e => by
      obtain ⟨o, ho, _⟩ := kr_cells h.kr hn e
      have := (h.kb hn g e).1
      exact hg.block g (Array.getElem?_eq_some_iff.1 ho).1 (fun e2 => by injection e2 with e2; omega)⟩
/-- The number of lines is set. -/
theorem PB.setNo (h : PB w s v a kl k W) (k2 : Int) : PB w s v a kl k2 (W.setCell ⟨w.heap.size + 5, 0, none⟩ (.int .i64 k2)) := by
  obtain ⟨h1, h2, h3, h4, h5, _, h7, h8, h9, h10⟩ := h.low (grown_set W ⟨w.heap.size + 5, 0, none⟩ (.int .i64 k2)) (show w.heap.size + 5 < w.heap.size + 7 by omega) (show w.heap.size ≤ w.heap.size + 5 by omega)
  exact ⟨h1 (by simp only; omega), h2 (by simp only; omega), h3 (by simp only; omega), h4 (by simp only; omega), h5 (by simp only; omega), h.bn.set_ 0 _, h7 (by simp only; omega), h8, h9, h10, h.kb⟩
theorem grown_trans {A B C : World} {row : Option Nat} (h : A.grownBy B row) (k : B.grownBy C row) : A.grownBy C row :=
  ⟨k.os.trans h.os, k.tape.trans h.tape, k.output.trans h.output, Nat.le_trans h.size k.size, fun g hg hne => (k.block g (Nat.lt_of_lt_of_le hg h.size) hne).trans (h.block g hg hne)⟩
theorem grown_put10 (W : World) (g : Nat) (a : Ac) (kv : Value) : W.grownBy (put10 W g a kv) (some g) := by
  have one : ∀ (X : World) (i : Nat) (u : Value), X.grownBy (X.setCell ⟨g, i, none⟩ u) (some g) := fun X i u => grown_set X ⟨g, i, none⟩ u
  exact grown_trans (grown_trans (grown_trans (grown_trans (grown_trans (grown_trans (grown_trans (grown_trans (grown_trans (one _ 0 _) (one _ 1 _)) (one _ 2 _)) (one _ 3 _)) (one _ 4 _)) (one _ 5 _)) (one _ 6 _)) (one _ 7 _)) (one _ 8 _)) (one _ 9 _)
/-- The last act is set. -/
theorem PB.setLast (h : PB w s v a kl k W) (b : Ac) (kv : Value) (hr : RowR W kv b.keep.length 1 (b.keep.map (Value.int .i64))) (hb : 0 < b.keep.length → ∀ r, kv.ownBlock = some r → w.heap.size + 7 ≤ r ∧ v.ownBlock ≠ some r) : PB w s v b kv k (put10 W (w.heap.size + 4) b kv) := by
  have hg := grown_put10 W (w.heap.size + 4) b kv
  obtain ⟨h1, h2, h3, h4, _, h6, h7, h8, h9, _⟩ := h.low hg (by omega) (by omega)
  refine ⟨h1 (by omega), h2 (by omega), h3 (by omega), h4 (by omega), put10_blk h.bl rfl b kv, h6 (by omega), h7 (by omega), h8, h9, rowR_kept hr hg.size fun hn r e => ?_, hb⟩
  obtain ⟨o, ho, _⟩ := kr_cells hr hn e
  exact hg.block r (Array.getElem?_eq_some_iff.1 ho).1 (fun e2 => by injection e2 with e2; have := (hb hn r e).1; omega)
/-- The script's numbers are set (the first line), no act yet. -/
theorem PB.setFirst (h : PB w s v a kl k W) (x y : Int) : PB w ⟨x, y, []⟩ (.slice none 0 0) a kl k (((W.setCell ⟨w.heap.size + 3, 0, none⟩ (.int .i64 x)).setCell ⟨w.heap.size + 3, 1, none⟩ (.int .i64 y)).setCell ⟨w.heap.size + 3, 2, none⟩ (.slice none 0 0)) := by
  have hg : W.grownBy (((W.setCell ⟨w.heap.size + 3, 0, none⟩ (.int .i64 x)).setCell ⟨w.heap.size + 3, 1, none⟩ (.int .i64 y)).setCell ⟨w.heap.size + 3, 2, none⟩ (.slice none 0 0)) (some (w.heap.size + 3)) :=
    grown_trans (grown_trans (grown_set W ⟨w.heap.size + 3, 0, none⟩ _) (grown_set _ ⟨w.heap.size + 3, 1, none⟩ _)) (grown_set _ ⟨w.heap.size + 3, 2, none⟩ _)
  obtain ⟨h1, h2, h3, _, h5, h6, h7, h8, h9, h10⟩ := h.low hg (by omega) (by omega)
  exact ⟨h1 (by omega), h2 (by omega), h3 (by omega), ((h.bs.set_ 0 (.int .i64 x)).set_ 1 (.int .i64 y)).set_ 2 (.slice none 0 0), h5 (by omega), h6 (by omega), h7 (by omega), h8, AO.nil _ _, h10, fun hn r e => ⟨(h.kb hn r e).1, fun e2 => by cases e2⟩⟩
/-- The results are set, behind a bad line. -/
theorem PB.bad (h : PB w s v a kl k W) (e : Int) {Y : World} (hY : Y = (((((W.setCell ⟨w.heap.size, 0, none⟩ (.int .i64 0)).setCell ⟨w.heap.size, 1, none⟩ (.int .i64 0)).setCell ⟨w.heap.size, 2, none⟩ (.slice none 0 0)).setCell ⟨w.heap.size + 1, 0, none⟩ (.int .i64 k)).setCell ⟨w.heap.size + 2, 0, none⟩ (.int .i64 e)).drew) :
    Blk Y w.heap.size 25 (scC Sc.zero (.slice none 0 0)) ∧ Blk Y (w.heap.size + 1) 3 #[.int .i64 k] ∧ Blk Y (w.heap.size + 2) 26 #[.int .i64 e] ∧ Below w.heap.size w Y ∧ ∀ B, w.heap.size + 7 ≤ B → KeepsFrom B W Y := by
  subst hY
  have far : ∀ {X : World} {g : Nat} {T : TypeId} {cs : Array Value} (g2 i : Nat) (u : Value), Blk X g T cs → g ≠ g2 → Blk (X.setCell ⟨g2, i, none⟩ u) g T cs := fun g2 i u h hne => h.far (p := ⟨g2, i, none⟩) hne u
  have b1 : Blk (((W.setCell ⟨w.heap.size, 0, none⟩ (.int .i64 0)).setCell ⟨w.heap.size, 1, none⟩ (.int .i64 0)).setCell ⟨w.heap.size, 2, none⟩ (.slice none 0 0)) w.heap.size 25 (scC Sc.zero (.slice none 0 0)) := ((h.r2.set_ 0 (.int .i64 0)).set_ 1 (.int .i64 0)).set_ 2 (.slice none 0 0)
  refine ⟨(far _ _ _ (far _ _ _ b1 (by omega)) (by omega)).drew, ?_, ?_, ?_, fun B hB => ?_⟩
  · exact (far _ _ _ ((far _ _ _ (far _ _ _ (far _ _ _ h.r3 (by omega)) (by omega)) (by omega)).set_ 0 _) (by omega)).drew
  · exact ((far _ _ _ (far _ _ _ (far _ _ _ (far _ _ _ h.r4 (by omega)) (by omega)) (by omega)) (by omega)).set_ 0 _).drew
  · exact (((((h.be.setCell (p := ⟨w.heap.size, 0, none⟩) (Nat.le_refl _) _).setCell (p := ⟨w.heap.size, 1, none⟩) (Nat.le_refl _) _).setCell (p := ⟨w.heap.size, 2, none⟩) (Nat.le_refl _) _).setCell (p := ⟨w.heap.size + 1, 0, none⟩) (by simp only; omega) _).setCell (p := ⟨w.heap.size + 2, 0, none⟩) (by simp only; omega) _).drew
  · have one : ∀ (X : World) (p : Addr) (u : Value), p.block < B → KeepsFrom B X (X.setCell p u) := fun X p u hp => KeepsFrom.of_grownBy (grown_set X p u) (fun j e => by injection e with e; omega)
    have d : ∀ X : World, KeepsFrom B X X.drew := fun X => ⟨Nat.le_refl _, fun g o _ ho _ => ho⟩
    exact (((((one _ ⟨w.heap.size, 0, none⟩ _ (show w.heap.size < B by omega)).trans (one _ ⟨w.heap.size, 1, none⟩ _ (show w.heap.size < B by omega))).trans (one _ ⟨w.heap.size, 2, none⟩ _ (show w.heap.size < B by omega))).trans (one _ ⟨w.heap.size + 1, 0, none⟩ _ (show w.heap.size + 1 < B by omega))).trans (one _ ⟨w.heap.size + 2, 0, none⟩ _ (show w.heap.size + 2 < B by omega))).trans (d _)
/-- An act is appended. -/
theorem PB.push (h : PB w s v a kl k W) {b : Ac} {kv v' : Value} {xs : List Value} (h1 : W.ownsRow (w.heap.size + 7) 40 10 v s.acts.length xs)
    (h2 : ∀ i a, s.acts[i]? = some a → ∃ kv, (∀ j, j < 10 → xs[i * 10 + j]? = (acC a kv)[j]?) ∧ W.ownsRow (w.heap.size + 7) 3 1 kv a.keep.length (a.keep.map (Value.int .i64)))
    (hk : W.ownsRow (w.heap.size + 7) 3 1 kv b.keep.length (b.keep.map (Value.int .i64))) (ho : W'.ownsRow (w.heap.size + 7) 40 10 v' (s.acts.length + 1) (xs ++ (acC b kv).toList)) (hg : W.grownBy W' v.ownBlock)
    (hv : v'.ownBlock = v.ownBlock ∨ v'.ownBlock = some W.heap.size) : PB w ⟨s.slabs, s.clients, s.acts ++ [b]⟩ v' a kl k (W'.setCell ⟨w.heap.size + 3, 2, none⟩ v') := by
  have hao := AO.push h1 h2 hk ho hg
  have lo : ∀ g, g < w.heap.size + 7 → some g ≠ v.ownBlock := fun g hlt e => by have := (h1.lt g e.symm).1; omega
  obtain ⟨cs, hcs⟩ := h.bc
  have hkb : 0 < a.keep.length → ∀ r, kl.ownBlock = some r → w.heap.size + 7 ≤ r ∧ v'.ownBlock ≠ some r := fun hn r e => by
    obtain ⟨o, ho, _⟩ := kr_cells h.kr hn e
    refine ⟨(h.kb hn r e).1, ?_⟩
    rcases hv with hv | hv
    · rw [hv]; exact (h.kb hn r e).2
    · rw [hv]
      have := (Array.getElem?_eq_some_iff.1 ho).1
      intro e; injection e with e; omega
  have hs := h.bs.grown hg (lo _ (by omega))
  have hg2 : W'.grownBy (W'.setCell ⟨w.heap.size + 3, 2, none⟩ v') (some (w.heap.size + 3)) := grown_set W' ⟨w.heap.size + 3, 2, none⟩ v'
  have ne : ∀ {g : Nat}, g ≠ w.heap.size + 3 → some g ≠ some (w.heap.size + 3) := fun h e => h (by injection e)
  refine ⟨(h.r2.grown hg (lo _ (by omega))).grown hg2 (ne (by omega)), (h.r3.grown hg (lo _ (by omega))).grown hg2 (ne (by omega)), (h.r4.grown hg (lo _ (by omega))).grown hg2 (ne (by omega)), hs.set_ 2 v',
    (h.bl.grown hg (lo _ (by omega))).grown hg2 (ne (by omega)), (h.bn.grown hg (lo _ (by omega))).grown hg2 (ne (by omega)), ⟨cs, (hcs.grown hg (lo _ (by omega))).grown hg2 (ne (by omega))⟩,
    (h.be.grown hg h.be.size (fun g e => by have := (h1.lt g e).1; omega)).grown hg2 (Nat.le_trans h.be.size hg.size) (fun g e => by injection e with e; omega),
    hao.turn hg2 (fun g e => .inl (by injection e with e; omega)), ?_, hkb⟩
  refine rowR_kept h.kr (Nat.le_trans hg.size hg2.size) fun hn r e => ?_
  obtain ⟨o, ho, _⟩ := kr_cells h.kr hn e
  have hl := (Array.getElem?_eq_some_iff.1 ho).1
  rw [hg2.block r (Nat.lt_of_lt_of_le hl hg.size) (fun e2 => by injection e2 with e2; have := (h.kb hn r e).1; omega)]
  exact hg.block r hl (fun e2 => (h.kb hn r e).2 e2.symm)
end

/-- What the body of a round keeps. -/
def KQ (n cb B : Nat) (W W' : World) : Prop := KeepsFrom B W W' ∧ KpR n cb W W'
theorem KQ.trans {n cb B : Nat} {A C D : World} (h : KQ n cb B A C) (k : KQ n cb B C D) : KQ n cb B A D :=
  ⟨⟨Nat.le_trans h.1.size k.1.size, fun g o hb ho hc => k.1.same g o hb (h.1.same g o hb ho hc) hc⟩, h.2.trans k.2⟩
theorem KQ.next {n cb B : Nat} {W W' : World} (hn : n ≤ W.heap.size) (hc : cb < W.heap.size) (hb : Below W.heap.size W W') : KQ n cb B W W' :=
  ⟨⟨hb.size, fun g o _ ho _ => (hb.block g (Array.getElem?_eq_some_iff.1 ho).1).trans ho⟩, hb.mono hn, hb.block cb hc⟩
theorem KQ.refl (n cb B : Nat) (W : World) : KQ n cb B W W := ⟨⟨Nat.le_refl _, fun g o _ ho _ => ho⟩, Below.refl _ _, rfl⟩
theorem KQ.turn {n cb B : Nat} {W W' : World} {row : Option Nat} (hg : W.grownBy W' row) (hn : n ≤ W.heap.size) (hc : cb < W.heap.size) (hr : ∀ r, row = some r → n ≤ r ∧ r ≠ cb ∧ ∀ o, W.heap[r]? = some o → o.isCells = true) : KQ n cb B W W' := by
  refine ⟨⟨hg.size, fun g o _ ho hc2 => ?_⟩, (Below.refl n W).grown hg hn (fun r e => (hr r e).1), hg.block cb hc (fun e => (hr cb e.symm).2.1 rfl)⟩
  rw [hg.block g (Array.getElem?_eq_some_iff.1 ho).1 ?_]; exact ho
  intro e
  have := (hr g e.symm).2.2 o ho
  rw [this] at hc2; cases hc2
section
variable {w W W' : World} {s : Sc} {v : Value} {a : Ac} {kl : Value} {k : Int}
theorem PB.cells_at (h : PB w s v a kl k W) {r : Nat} (h1 : w.heap.size ≤ r) (h2 : r < w.heap.size + 6) : ∀ o, W.heap[r]? = some o → o.isCells = true := by
  have one : ∀ {g : Nat} {T : TypeId} {cs : Array Value}, Blk W g T cs → ∀ o, W.heap[g]? = some o → o.isCells = true := fun {g T cs} h o ho => by
    unfold Blk at h; rw [h] at ho; injection ho with ho; rw [← ho]; rfl
  rcases (show r = w.heap.size ∨ r = w.heap.size + 1 ∨ r = w.heap.size + 2 ∨ r = w.heap.size + 3 ∨ r = w.heap.size + 4 ∨ r = w.heap.size + 5 by omega) with rfl | rfl | rfl | rfl | rfl | rfl
  · exact one h.r2
  · exact one h.r3
  · exact one h.r4
  · exact one h.bs
  · exact one h.bl
  · exact one h.bn
theorem PB.kq (h : PB w s v a kl k W) {r : Nat} (hg : W.grownBy W' (some r)) (h1 : w.heap.size ≤ r) (h2 : r < w.heap.size + 6) (B : Nat) : KQ w.heap.size (w.heap.size + 6) B W W' := by
  obtain ⟨cs, hcs⟩ := h.bc
  exact KQ.turn hg h.be.size hcs.lt fun g e => by injection e with e; subst e; exact ⟨h1, by omega, h.cells_at h1 h2⟩
theorem PB.kqNext (h : PB w s v a kl k W) (hb : Below W.heap.size W W') (B : Nat) : KQ w.heap.size (w.heap.size + 6) B W W' := by
  obtain ⟨cs, hcs⟩ := h.bc
  exact KQ.next h.be.size hcs.lt hb
theorem PB.kqHigh (h : PB w s v a kl k W) {r : Nat} {T : TypeId} {cs : Array Value} (hg : W.grownBy W' (some r)) (h1 : w.heap.size + 7 ≤ r) (hb : Blk W r T cs) (B : Nat) : KQ w.heap.size (w.heap.size + 6) B W W' := by
  obtain ⟨cs2, hcs⟩ := h.bc
  exact KQ.turn hg h.be.size hcs.lt fun g e => by
    injection e with e; subst e
    exact ⟨by omega, by omega, fun o ho => by unfold Blk at hb; rw [hb] at ho; injection ho with ho; rw [← ho]; rfl⟩
theorem PB.kqOwn (h : PB w s v a kl k W) {u : Value} {m : Nat} {xs : List Value} (hx : W.ownsRow (w.heap.size + 7) 40 10 u m xs) (hg : W.grownBy W' u.ownBlock) (B : Nat) : KQ w.heap.size (w.heap.size + 6) B W W' := by
  obtain ⟨cs2, hcs⟩ := h.bc
  refine KQ.turn hg h.be.size hcs.lt fun g e => ?_
  have h1 := (hx.lt g e).1
  refine ⟨by omega, by omega, fun o ho => ?_⟩
  rcases hx.2 with ⟨rfl, _⟩ | ⟨g', cap, cur, rfl, _, h3, _⟩
  · cases e
  · injection e with e
    subst e
    rw [h3] at ho; injection ho with ho; rw [← ho]; rfl
theorem grown_first (W : World) (g : Nat) (x y z : Value) : W.grownBy (((W.setCell ⟨g, 0, none⟩ x).setCell ⟨g, 1, none⟩ y).setCell ⟨g, 2, none⟩ z) (some g) :=
  grown_trans (grown_trans (grown_set W ⟨g, 0, none⟩ _) (grown_set _ ⟨g, 1, none⟩ _)) (grown_set _ ⟨g, 2, none⟩ _)

/-- The results are set, and the loop's mark is taken: what the results hold, and the acts as they lie. -/
theorem PB.fin (h : PB w s v a kl k W) {x y z : Value} {k2 e : Int} {Y : World} (hY : Y = ((((W.setCell ⟨w.heap.size, 0, none⟩ x).setCell ⟨w.heap.size, 1, none⟩ y).setCell ⟨w.heap.size, 2, none⟩ z).setCell ⟨w.heap.size + 1, 0, none⟩ (.int .i64 k2)).setCell ⟨w.heap.size + 2, 0, none⟩ (.int .i64 e))
    {D : Nat} {o : Obj} (hD : w.heap.size + 7 ≤ D) (ho : W.heap[D]? = some o) (hoc : o.isCells = false) (o' : Obj) :
    Y.heap[D]? = some o ∧ Blk (Y.putObj D o') w.heap.size 25 #[x, y, z] ∧ Blk (Y.putObj D o') (w.heap.size + 1) 3 #[.int .i64 k2] ∧ Blk (Y.putObj D o') (w.heap.size + 2) 26 #[.int .i64 e] ∧ Below w.heap.size w (Y.putObj D o') ∧ ActsR (Y.putObj D o') v s.acts := by
  have far : ∀ {X : World} {g : Nat} {T : TypeId} {cs : Array Value} (g2 i : Nat) (u : Value), Blk X g T cs → g ≠ g2 → Blk (X.setCell ⟨g2, i, none⟩ u) g T cs := fun g2 i u h hne => h.far (p := ⟨g2, i, none⟩) hne u
  obtain ⟨Y1, hY1⟩ : ∃ Y1, Y1 = ((W.setCell ⟨w.heap.size, 0, none⟩ x).setCell ⟨w.heap.size, 1, none⟩ y).setCell ⟨w.heap.size, 2, none⟩ z := ⟨_, rfl⟩
  obtain ⟨Y2, hY2⟩ : ∃ Y2, Y2 = Y1.setCell ⟨w.heap.size + 1, 0, none⟩ (.int .i64 k2) := ⟨_, rfl⟩
  rw [← hY1, ← hY2] at hY
  have g1 : W.grownBy Y1 (some w.heap.size) := by rw [hY1]; exact grown_first _ _ _ _ _
  have g2 : Y1.grownBy Y2 (some (w.heap.size + 1)) := by rw [hY2]; exact grown_set _ _ _
  have g3 : Y2.grownBy Y (some (w.heap.size + 2)) := by rw [hY]; exact grown_set _ _ _
  have ne : ∀ {g r : Nat}, g ≠ r → some g ≠ some r := fun h e => h (by injection e)
  have hl := (Array.getElem?_eq_some_iff.1 ho).1
  have hd1 : Y1.heap[D]? = some o := (g1.block D hl (ne (by omega))).trans ho
  have hd2 : Y2.heap[D]? = some o := (g2.block D (Nat.lt_of_lt_of_le hl g1.size) (ne (by omega))).trans hd1
  have hd3 : Y.heap[D]? = some o := (g3.block D (Nat.lt_of_lt_of_le hl (Nat.le_trans g1.size g2.size)) (ne (by omega))).trans hd2
  have b1 : Blk Y1 w.heap.size 25 #[x, y, z] := by rw [hY1]; exact ((h.r2.set_ 0 x).set_ 1 y).set_ 2 z
  have b3 : Blk Y w.heap.size 25 #[x, y, z] := (b1.grown g2 (ne (by omega))).grown g3 (ne (by omega))
  have c1 : Blk Y1 (w.heap.size + 1) 3 #[.int .i64 0] := h.r3.grown g1 (ne (by omega))
  have c2 : Blk Y2 (w.heap.size + 1) 3 #[.int .i64 k2] := by rw [hY2]; exact c1.set_ 0 _
  have c3 : Blk Y (w.heap.size + 1) 3 #[.int .i64 k2] := c2.grown g3 (ne (by omega))
  have e2 : Blk Y2 (w.heap.size + 2) 26 #[.int .i64 0] := (h.r4.grown g1 (ne (by omega))).grown g2 (ne (by omega))
  have e3 : Blk Y (w.heap.size + 2) 26 #[.int .i64 e] := by rw [hY]; exact e2.set_ 0 _
  have bb : Below w.heap.size w Y := ((h.be.grown g1 h.be.size (fun g e => by injection e with e; omega)).grown g2 (Nat.le_trans h.be.size g1.size) (fun g e => by injection e with e; omega)).grown g3 (Nat.le_trans h.be.size (Nat.le_trans g1.size g2.size)) (fun g e => by injection e with e; omega)
  have a3 : AO Y (w.heap.size + 7) v s.acts := ((h.ao.turn g1 (fun r e => .inl (by injection e with e; omega))).turn g2 (fun r e => .inl (by injection e with e; omega))).turn g3 (fun r e => .inl (by injection e with e; omega))
  have gp := grownBy_putObj' Y D o'
  refine ⟨hd3, b3.grown gp (ne (by omega)), c3.grown gp (ne (by omega)), e3.grown gp (ne (by omega)), bb.grown gp bb.size (fun g e => by injection e with e; omega), (a3.turn gp fun r e => .inr ?_).acts⟩
  injection e with e
  subst e
  refine ⟨fun e2 => ?_, fun cs e2 => ?_⟩
  · obtain ⟨xs, hx, _⟩ := a3
    rcases hx.2 with ⟨rfl, _⟩ | ⟨g, cap, cur, rfl, _, h4, _⟩
    · cases e2
    · injection e2 with e2
      subst e2
      rw [h4] at hd3; injection hd3 with hd3; rw [← hd3] at hoc; cases hoc
  · rw [e2] at hd3; injection hd3 with hd3; rw [← hd3] at hoc; cases hoc
end

/-! ### An act appended, in a round -/
theorem actInfo : (Tryz.prog.info? 40).map (fun i => (i.zero.map (fun z => z.cells.size), i.size, decide (i.bytes ≤ 1000))) = some (some 10, 10, true) := by kernel_rfl
theorem act_parts : ∃ (i : TypeInfo) (z : Value), Tryz.prog.info? 40 = some i ∧ i.zero = some z ∧ z.cells.size = 10 ∧ i.size = 10 ∧ i.bytes ≤ 1000 := by
  have h := actInfo
  cases hi : Tryz.prog.info? 40 with
  | none => rw [hi] at h; cases h
  | some i =>
    rw [hi] at h
    simp only [Option.map_some] at h
    injection h with h
    injection h with h1 h
    injection h with h2 h3
    cases hz : i.zero with
    | none => rw [hz] at h1; cases h1
    | some z =>
      rw [hz] at h1
      simp only [Option.map_some] at h1
      injection h1 with h1
      exact ⟨i, z, rfl, hz, h1, h2, of_decide_eq_true h3⟩
theorem wpListIn_app_act {F : Fence} {n : Nat} (w : World) {ops : Array Oper} {rest : List Oper} {o : Oper} {a : Act} {Q : Exit → Act → World → Prop} (hg : o.guard = none) (s x : Operand)
    (hop : o.op = .call { callee := .builtin .append, args := #[s, x], argTypes := #[23, 23] }) (base : Nat) (v : Value) (k : Nat) (xs : List Value) (hs : a.eval s = v) (hown : w.ownsRow base 40 10 v k xs)
    (g : Nat) (b : Ac) (kv : Value) (hk : kv.oneCell' = true) (hx : a.eval x = .slice (some ⟨g, 0, none⟩) 1 1) (hb : Blk w g 40 (acC b kv)) (b1 : k ≤ 100000) (b3 : base ≤ w.heap.size)
    (hK : ∀ v' w', w'.ownsRow base 40 10 v' (k + 1) (xs ++ (acC b kv).toList) → w.grownBy w' v.ownBlock → (v'.ownBlock = v.ownBlock ∨ v'.ownBlock = some w.heap.size) → wpListIn F n Tryz.prog ops Q rest (a.put o.dst v') w') :
    wpListIn F n Tryz.prog ops Q (o :: rest) a w := by
  obtain ⟨i, z, h1, h2, h3, h4, h5⟩ := act_parts
  refine wpListIn_plain hg fun K hK' => ?_
  obtain ⟨v', w', hrun, r1, r2, r3⟩ := run_append_any (P := Tryz.prog) w base 23 o.type 40 i z 10 i.bytes Tryz.underlying23 h1 h2 h4 rfl h3 (by decide) v k xs hown w.heap.size (some ⟨g, 0, none⟩) 1 1 (acC b kv).toList
    ⟨rfl, fun _ => ⟨_, rfl, hb.lt, fun j u hj => by
      rw [add_plain, Nat.zero_add, hb.cell j]
      rw [Array.getElem?_toList] at hj; exact hj⟩⟩
    (fun u hu => by
      simp only [acC, List.mem_cons, List.not_mem_nil, or_false] at hu
      rcases hu with rfl | rfl | rfl | rfl | rfl | rfl | rfl | rfl | rfl | rfl <;> first | rfl | exact hk)
    (by unfold maxLen; omega) (Nat.le_trans (Nat.mul_le_mul (show k + 1 ≤ 100001 by omega) h5) (by decide)) b3
  unfold Oper.wpIn
  refine ⟨?_, ?_⟩
  · simp [Oper.about, hop, resolve, Target.leads, Sem.run_pure]
  · rw [Oper.semAt_plain F _ _ (by rw [hop]; intro c hc'; cases hc')]
    simp [execOp, hop, resolve, invoke, builtin, hs, hx, hrun, Result.andThen]
    exact hK' _ _ (hK v' w' r1 r2 r3)
/-- slices.Clone at a slice of ints. -/
theorem clone_any {w : World} (k : List Int) (v : Value) (h : RowR w v k.length 1 (k.map (Value.int .i64))) (hl : k.length ≤ 1000000) :
    Calls Tryz.prog 13 #[v] w fun e w' => ∃ v', e = .returned v' ∧ w'.ownsRow w.heap.size 3 1 v' k.length (k.map (Value.int .i64)) ∧ Below w.heap.size w w' := by
  obtain ⟨A, c, rfl, h2, h3, h4⟩ := h
  rcases Nat.eq_zero_or_pos k.length with h0 | h0
  · have hk : k = [] := List.eq_nil_of_length_eq_zero h0
    subst hk
    cases A with
    | none =>
      refine (Tryz.slices_Clone_int_nil _ c w).mono ?_
      rintro e w' ⟨rfl, rfl⟩
      exact ⟨_, rfl, World.ownsRow_nil _ _ _ _, Below.refl _ _⟩
    | some ad =>
      refine (Tryz.slices_Clone_int_zero ad c w).mono ?_
      rintro e w' ⟨v', rfl, h5, _, h6⟩
      exact ⟨v', rfl, h5, h6⟩
  · obtain ⟨b, o, rfl, hlt, hc⟩ := h4 h0
    refine (Tryz.slices_Clone_int b o k.length c k w (Nat.le_refl _) (by omega) (fun j hj => ?_)).mono ?_
    · exact hc j _ (by simp [hj])
    · rintro e w' ⟨v', rfl, h5, _, h6⟩
      rw [List.take_length] at h5
      exact ⟨v', rfl, h5, h6⟩
end Go.Proofs.YtnnahodajiolmaaGreatDoor.sc
