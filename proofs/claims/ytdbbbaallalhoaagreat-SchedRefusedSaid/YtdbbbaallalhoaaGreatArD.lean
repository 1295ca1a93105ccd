/-
  PROVED HERE: rows of nodes and where they stand, as cells. Conditions: the nodes' numbers are within their types.
-/
import Derived.Test.YtdbbbaallalhoaaGreatArC
import Derived.Test.YtdbbbaallalhoaaGreatArN
namespace Go.Proofs.YtdbbbaallalhoaaGreat.ar
open Go.RowKit Go.Proofs.YtdbbbaallalhoaaGreat.pm
set_option linter.unusedVariables false

/-- A node and where it stands. -/
def atList (x : Nat × Nd) : List Value := .int .u64 x.1 :: x.2.list
def flatR (R : List (Nat × Nd)) : List Value := R.flatMap atList
theorem Nd.Ok.list_length {N : Nd} (h : N.Ok) : N.list.length = 21 := by have := h.size; simpa [Nd.arr] using this
theorem atList_length {x : Nat × Nd} (h : x.2.Ok) : (atList x).length = 22 := by simp [atList, h.list_length]
theorem flatR_length : ∀ (R : List (Nat × Nd)), (∀ x ∈ R, x.2.Ok) → (flatR R).length = 22 * R.length
  | [], _ => rfl
  | x :: R, h => by
    have h1 := atList_length (h x (by simp))
    have h2 := flatR_length R fun y hy => h y (by simp [hy])
    simp only [flatR, List.flatMap_cons, List.length_append, List.length_cons] at h2 ⊢
    omega
theorem flatR_append (R S : List (Nat × Nd)) : flatR (R ++ S) = flatR R ++ flatR S := by simp [flatR]
theorem flatR_get : ∀ (R : List (Nat × Nd)) (i c : Nat) (x : Nat × Nd), (∀ x ∈ R, x.2.Ok) → R[i]? = some x → c < 22 → (flatR R)[22 * i + c]? = (atList x)[c]?
  | [], i, c, x, _, h, _ => by simp at h
  | y :: R, 0, c, x, hok, h, hc => by
    simp at h; subst h
    have h1 := atList_length (hok y (by simp))
    simp only [flatR, List.flatMap_cons]
    rw [List.getElem?_append_left (by omega)]; simp
  | y :: R, i + 1, c, x, hok, h, hc => by
    have h1 := atList_length (hok y (by simp))
    have h2 := flatR_get R i c x (fun z hz => hok z (by simp [hz])) (by simpa using h) hc
    simp only [flatR, List.flatMap_cons] at h2 ⊢
    rw [List.getElem?_append_right (by omega), show 22 * (i + 1) + c - (atList y).length = 22 * i + c by omega]
    exact h2
theorem atList_set3 (p : Nat) (N : Nd) (y : Int) : (atList (p, N)).set 3 (.int .u64 y) = atList (p, { N with nx := y }) := rfl
theorem flatR_set : ∀ (R : List (Nat × Nd)) (i : Nat) (p : Nat) (N : Nd) (y : Int), (∀ x ∈ R, x.2.Ok) → R[i]? = some (p, N) → (flatR R).set (22 * i + 3) (.int .u64 y) = flatR (R.set i (p, { N with nx := y }))
  | [], i, _, _, _, _, h => by simp at h
  | x :: R, 0, p, N, y, hok, h => by
    simp at h; subst h
    have h1 := atList_length (hok (p, N) (by simp))
    simp only [flatR, List.flatMap_cons, List.set_cons_zero, Nat.mul_zero, Nat.zero_add]
    rw [List.set_append_left _ _ (by omega), atList_set3]
  | x :: R, i + 1, p, N, y, hok, h => by
    have h1 := atList_length (hok x (by simp))
    have h2 := flatR_set R i p N y (fun z hz => hok z (by simp [hz])) (by simpa using h)
    simp only [flatR, List.flatMap_cons, List.set_cons_succ] at h2 ⊢
    rw [List.set_append_right _ _ (by omega), show 22 * (i + 1) + 3 - (atList x).length = 22 * i + 3 by omega, h2]
theorem flatR_one {R : List (Nat × Nd)} (h : ∀ x ∈ R, x.2.Ok) : ∀ v ∈ flatR R, v.oneCell' = true := by
  intro v hv
  obtain ⟨x, hx, hv⟩ := List.mem_flatMap.1 hv
  simp only [atList, Nd.list, List.mem_cons, List.mem_append, List.mem_map, List.not_mem_nil, or_false] at hv
  rcases hv with rfl | (rfl | rfl | rfl | rfl | rfl) | ⟨y, _, rfl⟩ | ⟨y, _, rfl⟩ <;> rfl

/-- A whole node is loaded out of a row. -/
theorem load_nd {w : World} {ty : TypeId} {g off : Nat} {d : TypeDesc} {l : List Value} (hc : ∀ j v, l[j]? = some v → w.cell? ⟨g, off + j, none⟩ = some v)
    (hu : Tryz.prog.underlying ty = some d) (hd : (match d with | .struct _ | .array _ _ => true | _ => false) = true) (hi : (Tryz.prog.info? ty).map (·.size) = some l.length) :
    (loadVar ty ⟨g, off, none⟩).run Tryz.prog w = .ok (.agg l.toArray) w := by
  have hl : (loadCells ⟨g, off, none⟩ l.length).run Tryz.prog w = .ok l.toArray w :=
    run_loadCells_list (P := Tryz.prog) w ⟨g, off, none⟩ l (fun j v hv => by
      rw [show (⟨g, off, none⟩ : Addr).add j = ⟨g, off + j, none⟩ from by simp [addr_add]]
      exact hc j v hv)
  cases hq : Tryz.prog.info? ty with
  | none => simp [hq] at hi
  | some i =>
    have hs : i.size = l.length := by simpa [hq] using hi
    have hagg : (isAgg ty).run Tryz.prog w = .ok true w := by
      unfold isAgg
      rw [Sem.run_bind, run_underlying hu w]
      cases d <;> simp_all
    simp [loadVar, Sem.run_bind, hagg, sizeOf, typeInfo, hq, hs, hl]
set_option maxRecDepth 1000000 in
theorem atInfo : (Tryz.prog.info? 115).map (·.size) = some 22 := by kernel_rfl
end Go.Proofs.YtdbbbaallalhoaaGreat.ar
