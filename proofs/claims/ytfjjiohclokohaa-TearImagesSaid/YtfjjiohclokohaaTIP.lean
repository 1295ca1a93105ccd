/-
  PROVED HERE: plain laws of tears' images: a crash that keeps the fronts t leaves the image of evicting these fronts one by one; the order of the lines says nothing. No condition.
-/
import Derived.Test.YtfjjiohclokohaaTTop
import Derived.Test.YtfjjiohclokohaaCrash
import Derived.Test.YtfjjiohclokohaaSame2
namespace Go.Proofs.Ytfjjiohclokohaa.pm
open Go.RowKit
set_option linter.unusedVariables false

theorem get_del_other {α : Type} (L : List (Int × α)) (k k' : Int) (h : k' ≠ k) : get (del L k) k' = get L k' := by
  rcases idx_cases L k with ⟨L1, L2, v0, hL, _, _, _, hd, hne⟩ | ⟨_, _, _, hd, hne⟩
  · rw [hd, hL]; simp only [get, List.find?_append, List.find?_cons]
    rw [show (k == k') = false by simpa using Ne.symm h]
  · rw [hd]

/-- The pending stores of a line. -/
def Mod.pn (M : Mod) (k : Int) : List (Int × Int) := ((get M.lines k).getD noLine).puts
theorem Mod.pendK_eq (M : Mod) (k : Int) : M.pendK k = (M.pn k).length := rfl
theorem Mod.last_image (M : Mod) (k : Int) (n : Nat) : (M.last k n).image = lasts M.image ((M.pn k).take n) := rfl
theorem Mod.last_other (M : Mod) (k : Int) (n : Nat) (k' : Int) (h : k' ≠ k) : (M.last k n).pn k' = M.pn k' := by
  unfold Mod.pn
  congr 2
  unfold Mod.last
  dsimp only
  split
  · exact get_del_other _ _ _ h
  · exact get_put_other _ _ _ _ h

/-- Fronts of lines last, one behind the other. -/
def evN (M : Mod) (l : List (Int × Nat)) : Mod := l.foldl (fun M x => M.last x.1 x.2) M
theorem evN_snoc (M : Mod) (l : List (Int × Nat)) (x : Int × Nat) : evN M (l ++ [x]) = (evN M l).last x.1 x.2 := by simp [evN]
theorem WF.evN : ∀ (l : List (Int × Nat)) {M : Mod}, WF M → WF (evN M l)
  | [], _, h => h
  | x :: l, _, h => WF.evN l (h.last)
theorem evN_view : ∀ (l : List (Int × Nat)) (M : Mod), (evN M l).view = M.view
  | [], _ => rfl
  | x :: l, M => (evN_view l (M.last x.1 x.2)).trans rfl
theorem evN_other : ∀ (l : List (Int × Nat)) (M : Mod) (k : Int), k ∉ l.map (·.1) → (evN M l).pn k = M.pn k
  | [], _, _, _ => rfl
  | x :: l, M, k, h => by
    simp only [List.map_cons, List.mem_cons, not_or] at h
    exact (evN_other l (M.last x.1 x.2) k h.2).trans (M.last_other x.1 x.2 k h.1)

/-- What the image is then. -/
def front (G : Int → List (Int × Int)) (V : List Int) (l : List (Int × Nat)) : List Int := l.foldl (fun V x => lasts V ((G x.1).take x.2)) V
theorem front_congr {G G' : Int → List (Int × Int)} : ∀ (l : List (Int × Nat)) (V : List Int), (∀ x ∈ l, G x.1 = G' x.1) → front G V l = front G' V l
  | [], _, _ => rfl
  | x :: l, V, h => by
    show front G (lasts V ((G x.1).take x.2)) l = front G' (lasts V ((G' x.1).take x.2)) l
    rw [h x (by simp)]
    exact front_congr l _ fun y hy => h y (by simp [hy])
theorem evN_image : ∀ (l : List (Int × Nat)) (M : Mod), (l.map (·.1)).Nodup → (evN M l).image = front M.pn M.image l
  | [], _, _ => rfl
  | x :: l, M, h => by
    simp only [List.map_cons, List.nodup_cons] at h
    show (evN (M.last x.1 x.2) l).image = front M.pn (lasts M.image ((M.pn x.1).take x.2)) l
    rw [evN_image l (M.last x.1 x.2) h.2, Mod.last_image]
    exact front_congr l _ fun y hy => M.last_other _ _ _ fun e => h.1 (e ▸ List.mem_map_of_mem hy)

/-- A crash that keeps t is these evictions. -/
theorem crash_front (ts : List Nat) : ∀ (K : List Int) (s : Nat) (M : Mod), K.Nodup → s + K.length = ts.length → (∀ (i : Nat) (k : Int) (t : Nat), K[i]? = some k → ts[s + i]? = some t → t ≤ M.pendK k) →
    M.crashN (ts.map fun t : Nat => (t : Int)) (K.mapIdx fun i k => (s + i, k)) = evN M (K.zip (ts.drop s))
  | [], s, M, _, _, _ => by simp [Mod.crashN, evN]
  | k :: K, s, M, hn, hl, ht => by
    simp only [List.nodup_cons] at hn
    simp only [List.length_cons] at hl
    obtain ⟨t, hts⟩ : ∃ t, ts[s]? = some t := ⟨_, List.getElem?_eq_getElem (by omega)⟩
    have hd : ts.drop s = t :: ts.drop (s + 1) := by
      rw [← (List.getElem?_eq_some_iff.1 hts).2]; exact List.drop_eq_getElem_cons (List.getElem?_eq_some_iff.1 hts).1
    have htk := ht 0 k t rfl hts
    have hkeep : M.keepN (ts.map fun t : Nat => (t : Int)) (s, k) = t := by
      unfold Mod.keepN
      have e1 : s % ts.length = s := Nat.mod_eq_of_lt (by omega)
      simp only [List.length_map, e1, List.getElem?_map, hts, Option.map_some, Option.getD_some]
      have e2 : (max (t : Int) 0).toNat = t := by omega
      rw [e2]
      exact Nat.mod_eq_of_lt (by omega)
    have hne : ¬ (ts.map (fun t : Nat => (t : Int)) = []) := by
      intro e
      have := congrArg List.length e
      simp at this
      subst this; simp at hts
    have hst : M.crashStep (ts.map fun t : Nat => (t : Int)) (s, k) = M.last k t := by
      unfold Mod.crashStep
      rw [if_neg hne, hkeep]
    rw [List.mapIdx_cons, hd, List.zip_cons_cons]
    show Mod.crashN (M.crashStep _ (s + 0, k)) _ _ = evN (M.last k t) _
    rw [Nat.add_zero, hst]
    have hfun : (fun i (k : Int) => (s + (i + 1), k)) = fun i k => (s + 1 + i, k) := by funext i k; congr 1; omega
    rw [hfun]
    refine crash_front ts K (s + 1) (M.last k t) hn.2 (by omega) fun i k' t' hk ht' => ?_
    have hk' : k' ≠ k := fun e => hn.1 (e ▸ List.mem_of_getElem? hk)
    rw [Mod.pendK_eq, M.last_other _ _ _ hk', ← Mod.pendK_eq]
    exact ht (i + 1) k' t' hk (by rw [show s + (i + 1) = s + 1 + i by omega]; exact ht')

theorem keys_nodup {M : Mod} (h : Uniq M.lines) : M.keys.Nodup := (ksort_perm _).nodup_iff.2 h

theorem crash_image {M : Mod} {ts : List Nat} (hu : Uniq M.lines) (hl : M.keys.length = ts.length) (ht : ∀ (i : Nat) (k : Int) (t : Nat), M.keys[i]? = some k → ts[i]? = some t → t ≤ M.pendK k) :
    (M.crash (ts.map fun t : Nat => (t : Int))).image = front M.pn M.image (M.keys.zip ts) := by
  have h := crash_front ts M.keys 0 M (keys_nodup hu) (by omega) (fun i k t hk (h2 : ts[0 + i]? = some t) => ht i k t hk (by rw [Nat.zero_add] at h2; exact h2))
  have hf : (fun i (k : Int) => (0 + i, k)) = Prod.mk := by funext i k; rw [Nat.zero_add]
  rw [hf, List.drop_zero] at h
  show (M.crashN _ (M.keys.mapIdx Prod.mk)).image = _
  rw [h]
  refine evN_image _ _ ?_
  rw [List.map_fst_zip (by omega)]
  exact keys_nodup hu

/-! the order of the lines says nothing -/
theorem get_perm {α : Type} {L L' : List (Int × α)} (hu : Uniq L) (hp : L.Perm L') (k : Int) : get L k = get L' k := by
  have hu' : Uniq L' := (hp.map (fun q : Int × α => q.1)).nodup_iff.1 hu
  cases c : get L' k with
  | some v => exact mem_get hu (hp.mem_iff.2 (get_mem c))
  | none =>
    cases c2 : get L k with
    | none => rfl
    | some v => rw [mem_get hu' (hp.mem_iff.1 (get_mem c2))] at c; cases c
theorem Alike.pn {M M' : Mod} (h : Alike M M') (hu : Uniq M.lines) (k : Int) : M'.pn k = M.pn k := by
  unfold Mod.pn; rw [get_perm hu h.lines k]
theorem Alike.keys {M M' : Mod} (h : Alike M M') : M'.keys = M.keys := ksort_of_perm (h.lines.map (fun q : Int × Line => q.1)).symm
theorem Alike.uniq {M M' : Mod} (h : Alike M M') (hu : Uniq M.lines) : Uniq M'.lines := (h.lines.map (fun q : Int × Line => q.1)).nodup_iff.1 hu
theorem Alike.front {M M' : Mod} (h : Alike M M') (hu : Uniq M.lines) (l : List (Int × Nat)) : front M'.pn M'.image l = front M.pn M.image l := by
  rw [h.image]; exact front_congr l _ fun x _ => h.pn hu x.1
theorem Alike.of_perm {M : Mod} {qs : List (Int × Line)} (h : qs.Perm M.lines) : Alike M { M with lines := qs } := ⟨rfl, rfl, h.symm⟩
theorem WF.of_perm {M : Mod} {qs : List (Int × Line)} (h : WF M) (hp : qs.Perm M.lines) : WF { M with lines := qs } := ⟨h.len, h.pos, h.small, fun q hq => h.lines q (hp.mem_iff.1 hq), h.view, h.image⟩
theorem IsMem.uniqM {w : World} {b : Nat} {p : Pl} {M : Mod} (h : IsMem w b p M) : Uniq M.lines := by
  have := h.uniq
  unfold Uniq at this ⊢
  rw [← h.lines.keys]; exact this

/-- A tear that is one. -/
def Good (M : Mod) (ks : List Int) : Prop := ks.length = M.keys.length ∧ ∀ (i : Nat) (k t : Int), M.keys[i]? = some k → ks[i]? = some t → 0 ≤ t ∧ t ≤ M.pendK k
theorem Good.nat {M : Mod} {ks : List Int} (h : Good M ks) : ∃ ts : List Nat, ks = ts.map (fun t : Nat => (t : Int)) ∧ M.keys.length = ts.length ∧ ∀ (i : Nat) (k : Int) (t : Nat), M.keys[i]? = some k → ts[i]? = some t → t ≤ M.pendK k := by
  have hp : ∀ x ∈ ks, 0 ≤ x := by
    intro x hx
    obtain ⟨i, hi, rfl⟩ := List.getElem_of_mem hx
    exact (h.2 i (M.keys[i]'(by have := h.1; omega)) ks[i] (List.getElem?_eq_getElem _) (List.getElem?_eq_getElem _)).1
  refine ⟨ks.map Int.toNat, ?_, by rw [List.length_map]; exact h.1.symm, fun i k t hk ht => ?_⟩
  · rw [List.map_map]
    symm
    conv => rhs; rw [← List.map_id ks]
    refine List.map_congr_left fun x hx => ?_
    have := hp x hx
    simp only [Function.comp, id]; omega
  · rw [List.getElem?_map] at ht
    cases hx : ks[i]? with
    | none => rw [hx] at ht; cases ht
    | some x =>
      rw [hx] at ht
      simp only [Option.map_some, Option.some.injEq] at ht
      have := h.2 i k x hk hx
      omega
/-- An image of a tear, of a memory and of one like it. -/
def timg (M : Mod) (ks : List Int) : List Int := front M.pn M.image (M.keys.zip (ks.map Int.toNat))
theorem timg_nat (M : Mod) (ts : List Nat) : timg M (ts.map fun t : Nat => (t : Int)) = front M.pn M.image (M.keys.zip ts) := by
  unfold timg; rw [List.map_map]
  congr 2
  conv => rhs; rw [← List.map_id ts]
  exact List.map_congr_left fun x _ => by simp
theorem Alike.timg {M M' : Mod} (h : Alike M M') (hu : Uniq M.lines) (ks : List Int) : pm.timg M' ks = pm.timg M ks := by
  unfold pm.timg; rw [h.keys]; exact h.front hu _
theorem Alike.good {M M' : Mod} (h : Alike M M') (hu : Uniq M.lines) {ks : List Int} (hg : Good M ks) : Good M' ks := by
  refine ⟨by rw [h.keys]; exact hg.1, fun i k t hk ht => ?_⟩
  rw [h.keys] at hk
  rw [Mod.pendK_eq, h.pn hu, ← Mod.pendK_eq]
  exact hg.2 i k t hk ht
theorem Good.crash {M : Mod} {ks : List Int} (h : Good M ks) (hu : Uniq M.lines) : (M.crash ks).image = timg M ks := by
  obtain ⟨ts, rfl, hl, ht⟩ := h.nat
  rw [crash_image hu hl ht, timg_nat]
theorem Good.ev {M : Mod} {ts : List Nat} (h : Good M (ts.map fun t : Nat => (t : Int))) (hu : Uniq M.lines) : (evN M (M.keys.zip ts)).image = timg M (ts.map fun t : Nat => (t : Int)) := by
  have hl : M.keys.length = ts.length := by have := h.1; rw [List.length_map] at this; exact this.symm
  rw [evN_image _ _ (by rw [List.map_fst_zip (by omega)]; exact keys_nodup hu), timg_nat]
end Go.Proofs.Ytfjjiohclokohaa.pm
