/-
  PROVED HERE: a slice's cells at any offset of a block ('RowAt'), what is read of it ('Reads'), and append onto it, in place or in a new block. Conditions: at most maxLen elements, 2^47 bytes.
-/
import Derived.Test.YtdbbbaallalhoaaGreatMemA
import Derived.ArgAppend
namespace Go.Proofs.YtdbbbaallalhoaaGreat.pm
open Go.RowKit

/-- What is read of a slice: n elements, the cells xs. -/
def Reads (w : World) (v : Value) (n : Nat) (xs : List Value) : Prop :=
  (v = .slice none 0 0 ∧ n = 0 ∧ xs = []) ∨ ∃ a cap, v = .slice (some a) n cap ∧ a.spot = none ∧ ∀ j u, xs[j]? = some u → w.cell? ⟨a.block, a.off + j, none⟩ = some u

/-- A slice of n elements of type T, of sz cells each, which are xs, in a block that may be written. -/
def RowAt (w : World) (T : TypeId) (sz : Nat) (v : Value) (n : Nat) (xs : List Value) : Prop :=
  xs.length = n * sz ∧ ((v = .slice none 0 0 ∧ n = 0) ∨
    ∃ g off cap cur, v = .slice (some ⟨g, off, none⟩) n cap ∧ w.heap[g]? = some (.cells cur T (0, 0)) ∧ n ≤ cap ∧ cap ≤ maxLen ∧ off + cap * sz ≤ cur.size ∧ (cur.toList.drop off).take (n * sz) = xs)

section
variable {P : Program} {w : World} {T : TypeId} {sz n : Nat} {v : Value} {xs : List Value}

theorem addr_add (g off j : Nat) : (⟨g, off, none⟩ : Addr).add j = ⟨g, off + j, none⟩ := by unfold Addr.add; split <;> simp_all

theorem RowAt.nil (w : World) (T : TypeId) (sz : Nat) : RowAt w T sz (.slice none 0 0) 0 [] := ⟨by simp, .inl ⟨rfl, rfl⟩⟩

theorem RowAt.cell {g off cap : Nat} (h : RowAt w T sz (.slice (some ⟨g, off, none⟩) n cap) n xs) {j : Nat} {u : Value} (hj : xs[j]? = some u) : w.cell? ⟨g, off + j, none⟩ = some u := by
  obtain ⟨hl, ⟨e, _⟩ | ⟨g', off', cap', cur, e, hg, _, _, _, ht⟩⟩ := h
  · cases e
  · cases e
    subst ht
    simp only [List.getElem?_take, List.getElem?_drop] at hj
    split at hj
    · exact cell_of hg (by rw [← Array.getElem?_toList]; exact hj)
    · cases hj

theorem RowAt.free {g off cap : Nat} (h : RowAt w T sz (.slice (some ⟨g, off, none⟩) n cap) n xs) (j : Nat) : w.frozen? ⟨g, j, none⟩ = false := by
  obtain ⟨hl, ⟨e, _⟩ | ⟨g', off', cap', cur, e, hg, _⟩⟩ := h
  · cases e
  · cases e; exact free_of hg

theorem RowAt.reads (h : RowAt w T sz v n xs) : Reads w v n xs := by
  have h0 := h
  obtain ⟨hl, ⟨rfl, rfl⟩ | ⟨g, off, cap, cur, rfl, hg, _⟩⟩ := h
  · exact .inl ⟨rfl, rfl, List.eq_nil_of_length_eq_zero (by simpa using hl)⟩
  · exact .inr ⟨⟨g, off, none⟩, cap, rfl, rfl, fun j u hj => h0.cell hj⟩

theorem RowAt.le (h : RowAt w T sz v n xs) : n ≤ maxLen := by
  obtain ⟨_, ⟨_, rfl⟩ | ⟨_, _, _, _, _, _, h1, h2, _⟩⟩ := h
  · exact Nat.zero_le _
  · exact Nat.le_trans h1 h2

theorem RowAt.lt (h : RowAt w T sz v n xs) {g : Nat} (hg : v.ownBlock = some g) : g < w.heap.size := by
  obtain ⟨_, ⟨rfl, _⟩ | ⟨_, _, _, _, rfl, h1, _⟩⟩ := h
  · cases hg
  · cases hg; exact lt_of h1

theorem RowAt.same {w' : World} (h : RowAt w T sz v n xs) (hs : ∀ g, v.ownBlock = some g → w'.heap[g]? = w.heap[g]?) : RowAt w' T sz v n xs := by
  obtain ⟨hl, ⟨rfl, h0⟩ | ⟨g, off, cap, cur, rfl, hg, r⟩⟩ := h
  · exact ⟨hl, .inl ⟨rfl, h0⟩⟩
  · exact ⟨hl, .inr ⟨g, off, cap, cur, rfl, (hs g rfl).trans hg, r⟩⟩

theorem RowAt.of_own {base : Nat} (h : w.ownsRow base T sz v n xs) : RowAt w T sz v n xs := by
  obtain ⟨hl, h0 | ⟨g, cap, cur, rfl, _, hg, h1, h2, h3, h4⟩⟩ := h
  · exact ⟨hl, .inl h0⟩
  · exact ⟨hl, .inr ⟨g, 0, cap, cur, rfl, hg, h1, h2, by omega, by simpa using h4⟩⟩

/-- One cell of it is turned. -/
theorem RowAt.set {g off cap : Nat} (h : RowAt w T sz (.slice (some ⟨g, off, none⟩) n cap) n xs) (j : Nat) (hj : j < xs.length) (u : Value) :
    RowAt (w.setCell ⟨g, off + j, none⟩ u) T sz (.slice (some ⟨g, off, none⟩) n cap) n (xs.set j u) := by
  obtain ⟨hl, ⟨e, _⟩ | ⟨g', off', cap', cur, e, hg, h1, h2, h3, h4⟩⟩ := h
  · cases e
  · cases e
    refine ⟨by simpa using hl, .inr ⟨g, off, cap, cur.setIfInBounds (off + j) u, rfl, set_same hg, h1, h2, by simpa using h3, ?_⟩⟩
    apply List.ext_getElem?
    intro i
    have h4' := congrArg (fun l => l[i]?) h4
    simp only [List.getElem?_take, List.getElem?_drop, Array.getElem?_toList] at h4'
    simp only [List.getElem?_take, List.getElem?_drop, Array.getElem?_toList, List.getElem?_set, Array.getElem?_setIfInBounds, ← h4']
    have hb : n * sz ≤ cap * sz := Nat.mul_le_mul_right _ h1
    by_cases q : j = i
    · subst q
      have a1 : off + j < cur.size := by omega
      have a2 : j < n * sz := by omega
      simp [a1, a2, hj]
    · have : ¬ off + j = off + i := by omega
      simp [q]

theorem reads_first (h : Reads w v n xs) (hl : xs.length = n * sz) : (Builtin.firstCells sz n v).run P w = .ok xs.toArray w := by
  rcases h with ⟨rfl, rfl, rfl⟩ | ⟨a, cap, rfl, ha, hc⟩
  · simp [Builtin.firstCells]
  · exact run_firstCells_some (P := P) w sz n a n cap xs hl (fun j u hj => by
      obtain ⟨b, o, s⟩ := a
      cases ha
      rw [addr_add]; exact hc j u hj)

theorem rows_same_block {w' : World} (hg : w.grownBy w' v.ownBlock) {i : Nat} (hi : i < w.heap.size) (hne : v.ownBlock ≠ some i) : w'.heap[i]? = w.heap[i]? :=
  hg.block i hi (fun e => hne e.symm)

/-- 'append', onto a slice that may be written, of what is read of another one. -/
theorem run_append_row (t ty e : TypeId) (i : TypeInfo) (z : Value) (size bytes : Nat) (ht : P.underlying t = some (.slice e)) (hi : P.info? e = some i) (hz : i.zero = some z)
    (hsize : i.size = size) (hby : i.bytes = bytes) (hzs : z.cells.size = size)
    (h : RowAt w e size v n xs) {xv : Value} {m : Nat} {news : List Value} (hr : Reads w xv m news) (hl : news.length = m * size) (h1 : ∀ u ∈ news, u.oneCell' = true)
    (h63 : n + m ≤ maxLen) (hbytes : (n + m) * bytes ≤ 140737488355328) :
    ∃ v' w', (Builtin.append_ #[t, t] ty #[v, xv]).run P w = .ok v' w' ∧ RowAt w' e size v' (n + m) (xs ++ news) ∧ w.grownBy w' v.ownBlock
      ∧ (v'.ownBlock = v.ownBlock ∨ ∃ g, v'.ownBlock = some g ∧ w.heap.size ≤ g) ∧ (0 < m → ∃ g off cap, v' = .slice (some ⟨g, off, none⟩) (n + m) cap) := by
  subst hsize
  subst hby
  have hsmall : n + m ≤ 9223372036854775807 := by simp only [maxLen] at h63; omega
  have hlen : (xs ++ news).length = (n + m) * i.size := by rw [List.length_append, h.1, hl, Nat.add_mul]
  have grown : ∀ (old : Nat), old < n + m → ∀ (row : Option Nat),
      RowAt (w.drew.alloc (.cells (xs.toArray ++ news.toArray ++ Builtin.zeroCells z.cells (grownCap w (n + m) old e - (n + m))) e)) e i.size
        (.slice (some ⟨w.heap.size, 0, none⟩) (n + m) (grownCap w (n + m) old e)) (n + m) (xs ++ news) ∧
      w.grownBy (w.drew.alloc (.cells (xs.toArray ++ news.toArray ++ Builtin.zeroCells z.cells (grownCap w (n + m) old e - (n + m))) e)) row := by
    intro old ho row
    have hge := grownCap_ge w (n + m) old e
    have hcm : grownCap w (n + m) old e ≤ maxLen := grownCap_le_maxLen w (n + m) old e h63
    refine ⟨⟨hlen, .inr ⟨w.heap.size, 0, _, _, rfl, heap_alloc_new w.drew _, hge, hcm, ?_, ?_⟩⟩, ⟨rfl, rfl, rfl, by simp, fun k hk _ => heap_alloc_old w.drew _ hk⟩⟩
    · simp only [Array.size_append, List.size_toArray, size_zeroCells, hzs, h.1, hl, ← Nat.add_mul]
      rw [Nat.zero_add]
      apply Nat.le_of_eq
      congr 1
      omega
    · simp only [Array.toList_append, List.append_assoc, List.drop_zero]
      rw [← List.append_assoc, ← hlen]
      exact List.take_left
  have hfx := reads_first (P := P) hr hl
  have hlenx : (Builtin.lenOf xv).run P w = .ok m w := by
    rcases hr with ⟨rfl, rfl, _⟩ | ⟨_, _, rfl, _⟩ <;> simp [Builtin.lenOf]
  rcases h.2 with ⟨rfl, rfl⟩ | ⟨g, off, cap, cur, rfl, hg, hnc, hcm, hcs, htake⟩
  · have hx : xs = [] := List.eq_nil_of_length_eq_zero (by simpa using h.1)
    subst hx
    by_cases hm : m = 0
    · subst hm
      have hn : news = [] := List.eq_nil_of_length_eq_zero (by simpa using hl)
      subst hn
      refine ⟨.slice none 0 0, w, ?_, RowAt.nil w e i.size, ⟨rfl, rfl, rfl, Nat.le_refl _, fun _ _ _ => rfl⟩, .inl rfl, fun h => absurd h (by omega)⟩
      simp [Builtin.append_, run_underlying ht, sizeOf, typeInfo, hi, hlenx, hfx]
    · obtain ⟨a, c, rfl, ha, hc⟩ : ∃ a c, xv = .slice (some a) m c ∧ a.spot = none ∧ ∀ j u, news[j]? = some u → w.cell? ⟨a.block, a.off + j, none⟩ = some u := by
        rcases hr with ⟨_, h0, _⟩ | ⟨a, c, h2, h3, h4⟩
        · exact absurd h0 hm
        · exact ⟨a, c, h2, h3, h4⟩
      obtain ⟨ab, ao, sp⟩ := a
      cases ha
      have hr' := run_append_nil (P := P) w t ty e i z ht hi hz ⟨ab, ao, none⟩ m c news hl (fun j u hj => by rw [addr_add]; exact hc j u hj) (by omega) (by omega) (by have hb := hbytes; simp only [Nat.zero_add] at hb; omega)
      have hgr := grown 0 (by omega) (Value.ownBlock (.slice none 0 0))
      simp only [Nat.zero_add, List.nil_append, Array.empty_append] at hgr ⊢
      exact ⟨_, _, hr', hgr.1, hgr.2, .inr ⟨_, rfl, Nat.le_refl _⟩, fun _ => ⟨_, _, _, rfl⟩⟩
  · by_cases hroom : n + m ≤ cap
    · have hmul : (n + m) * i.size ≤ cap * i.size := Nat.mul_le_mul_right _ hroom
      rw [Nat.add_mul] at hmul
      have hfit : off + n * i.size + 0 + news.length ≤ cur.size := by omega
      have hst := run_storeCells_at (P := P) g (off + n * i.size) e news 0 cur w hg hfit h1
      refine ⟨.slice (some ⟨g, off, none⟩) (n + m) cap, w.setRow g (cur.toList.take (off + n * i.size + 0) ++ news ++ cur.toList.drop (off + n * i.size + 0 + news.length)).toArray, ?_, ⟨hlen, .inr ⟨g, off, cap, _, rfl, setRow_heap w g cur _ e _ hg, hroom, hcm, ?_, ?_⟩⟩, ⟨rfl, rfl, rfl, by simp, fun k _ hk => setRow_other w g k _ (fun e => hk (by simp [Value.ownBlock, e]))⟩, .inl rfl, fun _ => ⟨_, _, _, rfl⟩⟩
      · simp [Builtin.append_, run_underlying ht, sizeOf, typeInfo, hi, hlenx, hroom, hfx, addr_add, hst]
      · simp only [List.size_toArray, List.length_append, List.length_take, List.length_drop, Array.length_toList]
        omega
      · simp only [Nat.add_zero]
        have e1 : (cur.toList.take (off + n * i.size)).drop off = xs := by rw [List.drop_take, Nat.add_sub_cancel_left]; exact htake
        have e2 : off ≤ (cur.toList.take (off + n * i.size)).length := by simp; omega
        rw [List.append_assoc, List.drop_append_of_le_length e2, e1, ← List.append_assoc, ← hlen]
        exact List.take_left
    · by_cases hm : m = 0
      · omega
      obtain ⟨a, c, rfl, ha, hc⟩ : ∃ a c, xv = .slice (some a) m c ∧ a.spot = none ∧ ∀ j u, news[j]? = some u → w.cell? ⟨a.block, a.off + j, none⟩ = some u := by
        rcases hr with ⟨_, h0, _⟩ | ⟨a, c, h2, h3, h4⟩
        · exact absurd h0 hm
        · exact ⟨a, c, h2, h3, h4⟩
      obtain ⟨ab, ao, sp⟩ := a
      cases ha
      have hr' := run_append_grow (P := P) w t ty e i z ht hi hz ⟨g, off, none⟩ n cap xs h.1 (fun j u hj => by rw [addr_add]; exact h.cell hj) ⟨ab, ao, none⟩ m c news hl (fun j u hj => by rw [addr_add]; exact hc j u hj) (by omega) (by omega) (growslice_fits (by omega) hbytes)
      have hgr := grown cap (by omega) (Value.ownBlock (.slice (some ⟨g, off, none⟩) n cap))
      exact ⟨_, _, hr', hgr.1, hgr.2, .inr ⟨_, rfl, Nat.le_refl _⟩, fun _ => ⟨_, _, _, rfl⟩⟩

end

/-- .. at the operation, for the walk. -/
theorem wpList_append_row {P : Program} (w : World) {ops : Array Oper} {rest : List Oper} {o : Oper} {a : Act} {Q : Exit → Act → World → Prop}
    (hg : o.guard = none) (s x : Operand) (t : TypeId) (hop : o.op = Op.call { callee := Callee.builtin Builtin.append, args := #[s, x], argTypes := #[t, t] })
    (e : TypeId) (i : TypeInfo) (z : Value) (size bytes : Nat) (ht : P.underlying t = some (.slice e)) (hi : P.info? e = some i) (hz : i.zero = some z)
    (hsize : i.size = size) (hby : i.bytes = bytes) (hzs : z.cells.size = size) (v xv : Value) (hs : a.eval s = v) (hx : a.eval x = xv) (n : Nat) (xs : List Value)
    (h : RowAt w e size v n xs) (m : Nat) (news : List Value) (hr : Reads w xv m news) (hl : news.length = m * size) (h1 : ∀ u ∈ news, u.oneCell' = true)
    (h63 : n + m ≤ maxLen) (hbytes : (n + m) * bytes ≤ 140737488355328)
    (hK : ∀ v' w', RowAt w' e size v' (n + m) (xs ++ news) → w.grownBy w' v.ownBlock → (v'.ownBlock = v.ownBlock ∨ ∃ g, v'.ownBlock = some g ∧ w.heap.size ≤ g) → (0 < m → ∃ g off cap, v' = .slice (some ⟨g, off, none⟩) (n + m) cap) →
      wpList P ops Q rest (a.put o.dst v') w') :
    wpList P ops Q (o :: rest) a w := by
  refine wpList_plain hg fun K hK' => ?_
  obtain ⟨v', w', hrun, r1, r2, r3, r4⟩ := run_append_row (P := P) t o.type e i z size bytes ht hi hz hsize hby hzs h hr hl h1 h63 hbytes
  unfold Oper.wp
  simp [execOp, hop, resolve, invoke, builtin, hs, hx, hrun, Result.andThen]
  exact hK' _ _ (hK v' w' r1 r2 r3 r4)

end Go.Proofs.YtdbbbaallalhoaaGreat.pm
