/-
  PROVED HERE: plain laws on lists of keys and what stands under them; how a map's lines and its blocks turn when one is put or struck. No condition.
-/
import Derived.Test.YtfjjiohclokohaaMod
namespace Go.Proofs.Ytfjjiohclokohaa.pm
open Go.RowKit

section
variable {α β : Type}

/-- Is the key there, where, and what put, get and del make of it. -/
theorem idx_cases (L : List (Int × α)) (k : Int) :
    (∃ L1 L2 v0, L = L1 ++ (k, v0) :: L2 ∧ idx L k = some L1.length ∧ get L k = some v0 ∧ (∀ v, put L k v = L1 ++ (k, v) :: L2) ∧ del L k = L1 ++ L2 ∧ ∀ q ∈ L1, q.1 ≠ k) ∨
    (idx L k = none ∧ get L k = none ∧ (∀ v, put L k v = L ++ [(k, v)]) ∧ del L k = L ∧ ∀ q ∈ L, q.1 ≠ k) := by
  cases c : idx L k with
  | none =>
    refine .inr ⟨rfl, ?_, fun v => by simp [put, c], by simp [del, c], ?_⟩
    · have := List.findIdx?_eq_none_iff.1 c
      simp only [get]
      rw [List.find?_eq_none.2 (fun x hx => by simpa using this x hx)]
      rfl
    · intro q hq
      have := List.findIdx?_eq_none_iff.1 c q hq
      simpa using this
  | some i =>
    obtain ⟨hi, hp, hb⟩ := List.findIdx?_eq_some_iff_getElem.1 c
    simp only [beq_iff_eq] at hp
    have hd : L.drop i = L[i] :: L.drop (i + 1) := List.drop_eq_getElem_cons hi
    have hL : L = L.take i ++ (k, L[i].2) :: L.drop (i + 1) := by
      conv => lhs; rw [← List.take_append_drop i L, hd]
      rw [← hp]
    have hne : ∀ q ∈ L.take i, q.1 ≠ k := by
      intro q hq
      obtain ⟨j, hj, rfl⟩ := List.getElem_of_mem hq
      simp only [List.length_take] at hj
      have := hb j (by omega)
      simpa [List.getElem_take] using this
    have hlen : (L.take i).length = i := by simp; omega
    refine .inl ⟨L.take i, L.drop (i + 1), L[i].2, hL, by rw [hlen], ?_, fun v => ?_, ?_, hne⟩
    · simp only [get]
      conv => lhs; rw [hL]
      rw [List.find?_append, List.find?_eq_none.2 (fun x hx => by simpa using hne x hx)]
      simp
    · simp only [put, c]
      conv => lhs; rw [hL]
      rw [List.set_append_right _ _ (by simp; omega)]
      simp [Nat.min_eq_left (Nat.le_of_lt hi)]
    · simp only [del, c]
      exact List.eraseIdx_eq_take_drop_succ ..

theorem get_put_same (L : List (Int × α)) (k : Int) (v : α) : get (put L k v) k = some v := by
  rcases idx_cases L k with ⟨L1, L2, v0, _, _, _, hp, _, hne⟩ | ⟨_, _, hp, _, hne⟩
  · rw [hp]; simp only [get]
    rw [List.find?_append, List.find?_eq_none.2 (fun x hx => by simpa using hne x hx)]; simp
  · rw [hp]; simp only [get]
    rw [List.find?_append, List.find?_eq_none.2 (fun x hx => by simpa using hne x hx)]; simp
theorem get_put_other (L : List (Int × α)) (k k' : Int) (v : α) (h : k' ≠ k) : get (put L k v) k' = get L k' := by
  rcases idx_cases L k with ⟨L1, L2, v0, hL, _, _, hp, _, hne⟩ | ⟨_, _, hp, _, hne⟩
  · rw [hp, hL]; simp only [get, List.find?_append, List.find?_cons]
    rw [show (k == k') = false by simpa using Ne.symm h]
  · rw [hp]; simp only [get, List.find?_append, List.find?_cons, List.find?_nil]
    rw [show (k == k') = false by simpa using Ne.symm h]; simp
theorem mem_put {L : List (Int × α)} {k : Int} {v : α} {q : Int × α} (h : q ∈ put L k v) : q ∈ L ∨ q = (k, v) := by
  rcases idx_cases L k with ⟨L1, L2, v0, hL, _, _, hp, _, hne⟩ | ⟨_, _, hp, _, hne⟩
  · rw [hp] at h; rw [hL]; simp only [List.mem_append, List.mem_cons] at h ⊢
    rcases h with h | h | h
    · exact .inl (.inl h)
    · exact .inr h
    · exact .inl (.inr (.inr h))
  · rw [hp] at h; simpa using h
theorem mem_del {L : List (Int × α)} {k : Int} {q : Int × α} (h : q ∈ del L k) : q ∈ L := by
  rcases idx_cases L k with ⟨L1, L2, v0, hL, _, _, _, hd, _⟩ | ⟨_, _, _, hd, _⟩
  · rw [hd] at h; rw [hL]; simp only [List.mem_append, List.mem_cons] at h ⊢
    rcases h with h | h
    · exact .inl h
    · exact .inr (.inr h)
  · rw [hd] at h; exact h
theorem uniq_put {L : List (Int × α)} (h : Uniq L) (k : Int) (v : α) : Uniq (put L k v) := by
  unfold Uniq at h ⊢
  rcases idx_cases L k with ⟨L1, L2, v0, hL, _, _, hp, _, _⟩ | ⟨_, _, hp, _, hne⟩
  · rw [hp]; rw [hL] at h; simpa using h
  · rw [hp, List.map_append, List.nodup_append]
    refine ⟨h, by simp, ?_⟩
    intro a ha b hb hab
    simp only [List.map_cons, List.map_nil, List.mem_singleton] at hb
    obtain ⟨q, hq, rfl⟩ := List.mem_map.1 ha
    exact hne q hq (hab.trans hb)
theorem uniq_del {L : List (Int × α)} (h : Uniq L) (k : Int) : Uniq (del L k) := by
  unfold Uniq at h ⊢
  rcases idx_cases L k with ⟨L1, L2, v0, hL, _, _, _, hd, _⟩ | ⟨_, _, _, hd, _⟩
  · rw [hd]; rw [hL] at h
    exact h.sublist (by simp)
  · rw [hd]; exact h
theorem get_mem {L : List (Int × α)} {k : Int} {v : α} (h : get L k = some v) : (k, v) ∈ L := by
  rcases idx_cases L k with ⟨L1, L2, v0, hL, _, hg, _⟩ | ⟨_, hg, _⟩
  · rw [hg] at h; cases h; rw [hL]; simp
  · rw [hg] at h; cases h
theorem mem_get {L : List (Int × α)} (hu : Uniq L) {k : Int} {v : α} (h : (k, v) ∈ L) : get L k = some v := by
  unfold Uniq at hu
  rcases idx_cases L k with ⟨L1, L2, v0, hL, _, hg, _, _, hne⟩ | ⟨_, _, _, _, hne⟩
  · rw [hg]
    rw [hL] at h hu
    simp only [List.mem_append, List.mem_cons, Prod.mk.injEq, true_and] at h
    rcases h with h | rfl | h
    · exact absurd rfl (hne _ h)
    · rfl
    · simp only [List.map_append, List.map_cons, List.nodup_append, List.nodup_cons, List.mem_map, not_exists, not_and] at hu
      exact absurd rfl (hu.2.1.1 _ h)
  · exact absurd rfl (hne _ h)
end

/-! ### lines -/
variable {w : World} {L : List (Int × Value)} {M : List (Int × Line)}

theorem LinesAt.keys (h : LinesAt w L M) : L.map (·.1) = M.map (·.1) := by
  apply List.ext_getElem
  · simp [h.1]
  · intro i h1 h2
    simp only [List.length_map] at h1 h2
    obtain ⟨l, hl, _⟩ := h.2 i L[i].1 L[i].2 (by rw [List.getElem?_eq_getElem h1])
    rw [List.getElem?_eq_getElem h2] at hl
    simp only [Option.some.injEq] at hl
    simp [hl]

theorem findIdx_keys {α β : Type} (k : Int) : ∀ (L : List (Int × α)) (M : List (Int × β)), L.map (·.1) = M.map (·.1) → idx L k = idx M k
  | [], [], _ => rfl
  | [], _ :: _, h => by simp at h
  | _ :: _, [], h => by simp at h
  | p :: L, q :: M, h => by
    simp only [List.map_cons, List.cons.injEq] at h
    have ih := findIdx_keys k L M h.2
    simp only [idx, List.findIdx?_cons, h.1] at ih ⊢
    rw [ih]
theorem LinesAt.idx (h : LinesAt w L M) (k : Int) : idx L k = idx M k := findIdx_keys k L M h.keys

theorem LinesAt.get_some (h : LinesAt w L M) {k : Int} {v : Value} (hv : get L k = some v) : ∃ l, get M k = some l ∧ LineAt w v l := by
  have hi := h.idx k
  rcases idx_cases L k with ⟨L1, L2, v0, hL, hx, hg, _⟩ | ⟨_, hg, _⟩
  · rw [hg] at hv; cases hv
    obtain ⟨l, hl, hla⟩ := h.2 L1.length k v (by rw [hL]; simp)
    rcases idx_cases M k with ⟨M1, M2, l0, hM, hy, hgm, _⟩ | ⟨hy, _⟩
    · rw [hx, hy] at hi
      simp only [Option.some.injEq] at hi
      rw [hM, hi] at hl
      simp at hl
      subst hl
      exact ⟨l0, hgm, hla⟩
    · rw [hx, hy] at hi; cases hi
  · rw [hg] at hv; cases hv
theorem LinesAt.get_none (h : LinesAt w L M) {k : Int} (hv : get L k = none) : get M k = none := by
  have hi := h.idx k
  rcases idx_cases L k with ⟨L1, L2, v0, hL, hx, hg, _⟩ | ⟨hx, hg, _⟩
  · rw [hg] at hv; cases hv
  · rcases idx_cases M k with ⟨M1, M2, l0, hM, hy, hgm, _⟩ | ⟨hy, hgm, _⟩
    · rw [hx, hy] at hi; cases hi
    · exact hgm

theorem LinesAt.put (h : LinesAt w L M) (k : Int) {v : Value} {l : Line} (hv : LineAt w v l) : LinesAt w (put L k v) (put M k l) := by
  have hi := h.idx k
  simp only [pm.put, ← hi]
  cases pm.idx L k with
  | none =>
    refine ⟨by simp [h.1], fun i k' v' hq => ?_⟩
    by_cases c : i < L.length
    · rw [List.getElem?_append_left c] at hq
      rw [List.getElem?_append_left (by rw [← h.1]; exact c)]
      exact h.2 i k' v' hq
    · rw [List.getElem?_append_right (by omega)] at hq
      rw [List.getElem?_append_right (by rw [← h.1]; omega), ← h.1]
      cases e : i - L.length with
      | zero => rw [e] at hq; simp at hq; obtain ⟨rfl, rfl⟩ := hq; exact ⟨l, rfl, hv⟩
      | succ m => rw [e] at hq; simp at hq
  | some j =>
    refine ⟨by simp [h.1], fun i k' v' hq => ?_⟩
    simp only [List.getElem?_set] at hq ⊢
    split at hq
    · rename_i e; subst e
      split at hq
      · rename_i hlt
        simp at hq; obtain ⟨rfl, rfl⟩ := hq
        exact ⟨l, by simp [← h.1, hlt], hv⟩
      · cases hq
    · rename_i e
      simp only [e, if_false]
      exact h.2 i k' v' hq

theorem LinesAt.del (h : LinesAt w L M) (k : Int) : LinesAt w (del L k) (del M k) := by
  have hi := h.idx k
  simp only [pm.del, ← hi]
  cases pm.idx L k with
  | none => exact h
  | some j =>
    refine ⟨by simp [List.length_eraseIdx, h.1], fun i k' v' hq => ?_⟩
    simp only [List.getElem?_eraseIdx] at hq ⊢
    split at hq
    · rename_i e; simp only [e, if_true]; exact h.2 _ k' v' hq
    · rename_i e; simp only [e, if_false]; exact h.2 _ k' v' hq

theorem LinesAt.same {w' : World} (h : LinesAt w L M) (hs : ∀ g ∈ blks L, w'.heap[g]? = w.heap[g]?) : LinesAt w' L M :=
  ⟨h.1, fun i k v hi => by
    obtain ⟨l, h1, h2⟩ := h.2 i k v hi
    exact ⟨l, h1, h2.same fun g hg => hs g (mem_blks.2 ⟨(k, v), List.mem_of_getElem? hi, hg⟩)⟩⟩

/-! ### the blocks -/
theorem blks_append (L R : List (Int × Value)) : blks (L ++ R) = blks L ++ blks R := by simp [blks]
theorem blks_cons (k : Int) (v : Value) (R : List (Int × Value)) : blks ((k, v) :: R) = (blk v).toList ++ blks R := by
  simp only [blks, List.filterMap_cons]
  cases blk v <;> rfl

theorem mem_blks_put {k : Int} {v : Value} {i : Nat} (h : i ∈ blks (put L k v)) : i ∈ blks L ∨ blk v = some i := by
  obtain ⟨q, hq, hb⟩ := mem_blks.1 h
  rcases mem_put hq with h1 | rfl
  · exact .inl (mem_blks.2 ⟨q, h1, hb⟩)
  · exact .inr hb
theorem mem_blks_del {k : Int} {i : Nat} (h : i ∈ blks (del L k)) : i ∈ blks L := by
  obtain ⟨q, hq, hb⟩ := mem_blks.1 h
  exact mem_blks.2 ⟨q, mem_del hq, hb⟩

/-- The blocks stay apart, if the new value's block is the old one's, or a new one. -/
theorem sep_put {b : Nat} {p : Pl} (h : (p.foot b).Nodup) (k : Int) (v : Value) (hv : ∀ g, blk v = some g → (∃ v0, get p.L k = some v0 ∧ blk v0 = some g) ∨ g ∉ p.foot b) :
    (({ p with L := put p.L k v } : Pl).foot b).Nodup := by
  have key : ∀ (A : List Nat), (A ++ blks p.L).Nodup → (∀ g, blk v = some g → (∃ v0, get p.L k = some v0 ∧ blk v0 = some g) ∨ g ∉ A ++ blks p.L) → (A ++ blks (put p.L k v)).Nodup := by
    intro A hA hg
    rcases idx_cases p.L k with ⟨L1, L2, v0, hL, _, hgt, hp, _, _⟩ | ⟨_, hgt, hp, _, _⟩
    · rw [hp, blks_append, blks_cons]
      cases c : blk v with
      | none =>
        refine hA.sublist ?_
        rw [hL, blks_append, blks_cons]
        simp
      | some g =>
        rcases hg g c with ⟨v1, h1, h2⟩ | h3
        · rw [hgt] at h1; cases h1
          rw [hL, blks_append, blks_cons, h2] at hA
          exact hA
        · have hs : (A ++ (blks L1 ++ blks L2)).Nodup := by
            refine hA.sublist ?_
            rw [hL, blks_append, blks_cons]; simp
          have hn : g ∉ A ++ (blks L1 ++ blks L2) := by
            intro hm; apply h3
            rw [hL, blks_append, blks_cons]
            simp only [List.mem_append] at hm ⊢
            rcases hm with hm | hm | hm
            · exact .inl hm
            · exact .inr (.inl hm)
            · exact .inr (.inr (.inr hm))
          have hc : (g :: (A ++ (blks L1 ++ blks L2))).Nodup := List.nodup_cons.2 ⟨hn, hs⟩
          have hp2 : (g :: (A ++ (blks L1 ++ blks L2))).Perm (A ++ (blks L1 ++ (g :: blks L2))) := by
            have := (List.perm_middle (a := g) (l₁ := A ++ blks L1) (l₂ := blks L2)).symm
            simpa only [List.append_assoc] using this
          show (A ++ (blks L1 ++ (g :: blks L2))).Nodup
          exact (List.Perm.nodup_iff hp2).1 hc
    · rw [hp, blks_append, blks_cons]
      cases c : blk v with
      | none => simpa [blks] using hA
      | some g =>
        rcases hg g c with ⟨v1, h1, h2⟩ | h3
        · rw [hgt] at h1; cases h1
        · rw [← List.append_assoc, List.nodup_append]
          refine ⟨hA, by simp [blks], ?_⟩
          intro a ha b' hb' hab
          simp [blks] at hb'
          subst hb'; subst hab
          exact h3 ha
  exact key [b, p.vb, p.ib, p.mb] h hv

theorem sep_del {b : Nat} {p : Pl} (h : (p.foot b).Nodup) (k : Int) : (({ p with L := del p.L k } : Pl).foot b).Nodup := by
  refine h.sublist ?_
  simp only [Pl.foot]
  refine .cons_cons _ (.cons_cons _ (.cons_cons _ (.cons_cons _ ?_)))
  rcases idx_cases p.L k with ⟨L1, L2, v0, hL, _, _, _, hd, _⟩ | ⟨_, _, _, hd, _⟩
  · rw [hd]; conv => rhs; rw [hL]
    rw [blks_append, blks_append, blks_cons]
    simp
  · rw [hd]; exact List.Sublist.refl _

theorem blks_inj {L : List (Int × Value)} (h : (blks L).Nodup) {q q' : Int × Value} (hq : q ∈ L) (hq' : q' ∈ L) {g : Nat} (hg : blk q.2 = some g) (hg' : blk q'.2 = some g) : q = q' := by
  induction L with
  | nil => cases hq
  | cons p R ih =>
    obtain ⟨k, v⟩ := p
    rw [blks_cons, List.nodup_append] at h
    rcases List.mem_cons.1 hq with rfl | h1 <;> rcases List.mem_cons.1 hq' with rfl | h2
    · rfl
    · exact absurd rfl (h.2.2 g (by simp only [] at hg; rw [hg]; simp) g (mem_blks.2 ⟨q', h2, hg'⟩))
    · exact absurd rfl (h.2.2 g (by simp only [] at hg'; rw [hg']; simp) g (mem_blks.2 ⟨q, h1, hg⟩))
    · exact ih h.2.1 h1 h2

theorem LinesAt.putIn {w w' : World} {L : List (Int × Value)} {M : List (Int × Line)} (h : LinesAt w L M) (hu : Uniq L) (k : Int) {v : Value} {l : Line} (hv : LineAt w' v l)
    (hs : ∀ q ∈ L, q.1 ≠ k → ∀ g, blk q.2 = some g → w'.heap[g]? = w.heap[g]?) : LinesAt w' (pm.put L k v) (pm.put M k l) := by
  have hi := h.idx k
  simp only [pm.put, ← hi]
  cases c : pm.idx L k with
  | none =>
    have hnk : ∀ q ∈ L, q.1 ≠ k := by
      rcases idx_cases L k with ⟨L1, L2, v0, hL, hx, _⟩ | ⟨_, _, _, _, hne⟩
      · rw [c] at hx; cases hx
      · exact hne
    refine ⟨by simp [h.1], fun i k' v' hq => ?_⟩
    by_cases c : i < L.length
    · rw [List.getElem?_append_left c] at hq
      rw [List.getElem?_append_left (by rw [← h.1]; exact c)]
      obtain ⟨l', h1, h2⟩ := h.2 i k' v' hq
      have hm := List.mem_of_getElem? hq
      exact ⟨l', h1, h2.same (hs _ hm (hnk _ hm))⟩
    · rw [List.getElem?_append_right (by omega)] at hq
      rw [List.getElem?_append_right (by rw [← h.1]; omega), ← h.1]
      cases e : i - L.length with
      | zero => rw [e] at hq; simp at hq; obtain ⟨rfl, rfl⟩ := hq; exact ⟨l, rfl, hv⟩
      | succ m => rw [e] at hq; simp at hq
  | some j =>
    obtain ⟨hj, v0, hv0⟩ := idx_some c
    refine ⟨by simp [h.1], fun i k' v' hq => ?_⟩
    simp only [List.getElem?_set] at hq ⊢
    split at hq
    · rename_i e; subst e
      simp at hq
      obtain ⟨rfl, rfl⟩ := hq
      exact ⟨l, by simp [← h.1, hj], hv⟩
    · rename_i e
      simp only [e, if_false]
      obtain ⟨l', h1, h2⟩ := h.2 i k' v' hq
      refine ⟨l', h1, h2.same (hs _ (List.mem_of_getElem? hq) ?_)⟩
      rintro rfl
      apply e
      obtain ⟨hi1, he1⟩ := List.getElem?_eq_some_iff.1 hq
      have hj1 := (List.getElem?_eq_some_iff.1 hv0).2
      have hu' : (L.map (fun q => q.1)).Nodup := hu
      refine (List.getElem_inj (h₀ := by simpa using hj) (h₁ := by simpa using hi1) hu').1 ?_
      simp [he1, hj1]

end Go.Proofs.Ytfjjiohclokohaa.pm
