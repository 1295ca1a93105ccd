/-
  PROVED HERE: the reference's Next: the tear behind one. Conditions: both slices are read; few.
-/
import Derived.Test.YtfjjiohclokohaaTRef
import Derived.Test.YtfjjiohclokohaaClone
namespace Go.Proofs.Ytfjjiohclokohaa.pm
open Go.RowKit Go.Proofs.Ytfjjiohclokohaa.tp
set_option linter.unusedVariables false

theorem nv_one (l : List Nat) : ∀ u ∈ l.map nv, u.oneCell' = true := by
  intro u hu; obtain ⟨x, _, rfl⟩ := List.mem_map.1 hu; rfl
theorem set_up (l : List Nat) (i k n : Nat) (h : l[i]? = some n) (m : Nat) : (l.take (i + 1) ++ List.replicate k 0).set i m = (l.take i ++ [m]) ++ List.replicate k 0 := by
  have hi := (List.getElem?_eq_some_iff.1 h).1
  rw [List.take_add_one, h, Option.toList_some, List.set_append_left _ _ (by simp; omega), List.set_append_right _ _ (by simp; omega)]
  simp [Nat.min_eq_left (Nat.le_of_lt hi)]
theorem set_zero (l : List Nat) (i k : Nat) (h : i < l.length) : (l.take (i + 1) ++ List.replicate k 0).set i 0 = l.take i ++ List.replicate (k + 1) 0 := by
  rw [set_up l i k _ (List.getElem?_eq_getElem h) 0, List.replicate_succ]
  simp

set_option maxRecDepth 100000 in
set_option maxHeartbeats 2000000 in
theorem refNext_any {w : World} {tv v : Value} {ts ns : List Nat} (ht : Reads w tv ts.length (ts.map nv)) (hn : Reads w v ts.length (ns.map nv)) (hT : isT ts ns) (hlen : ts.length ≤ 1000) (hts : ∀ t ∈ ts, t ≤ 1000) :
    Calls Try.prog 12 #[tv, v] w fun e w' => ∃ v', e = .returned (.tuple #[v', .bool (nextT ts ns).2]) ∧ RowAt w' 3 1 v' ts.length ((nextT ts ns).1.map nv) ∧ Keeps [] w w' ∧ ∀ g, v'.ownBlock = some g → w.heap.size ≤ g := by
  obtain ⟨i0, hi0, hz0, hz1, hz2⟩ := info_parts intInfo
  have hnl := hT.length
  obtain ⟨ao, cp, rfl⟩ := reads_shape ht
  obtain ⟨ao', cp', rfl⟩ := reads_shape hn
  obtain ⟨L, hL⟩ : ∃ L, L = ts.length := ⟨_, rfl⟩
  rw [← hL] at ht hn hlen hnl ⊢
  have HT := Lib.hid (And.intro ht (And.intro hT (And.intro hL (And.intro hnl hts)))); clear ht hT hL hnl hts
  have hgt := hn.keeps (Keeps.refl [] w)
  go_enter Try.func12, Try.ntmps12
  go_wp2_with (at_builtin; refine wpList_append_row _ rfl _ _ 26 rfl 3 i0 (.int .i64 0) 1 8 Try.underlying26 hi0 hz0 hz1 hz2 rfl (.slice none 0 0) (.slice ao' L cp') rfl rfl 0 [] (RowAt.nil _ _ _) L (ns.map nv) hn (by have := HT.out.2.2.2.1; simp; omega) (nv_one ns) (by unfold maxLen; omega) (by omega) ?_; intro v1 w1 hrow hgrow hblk hsl)
  rw [Nat.zero_add, List.nil_append] at hrow
  simp only [Nat.zero_add] at hsl
  clear hn hgt
  have hk1 : Keeps [] w w1 := (Keeps.grown hgrow).mono (by simp [Value.ownBlock])
  have hg1 : ∀ g, v1.ownBlock = some g → w.heap.size ≤ g := fun g hg => by
    rcases hblk with h | ⟨q, h, hq⟩
    · rw [h] at hg; cases hg
    · rw [h] at hg; cases hg; exact hq
  obtain ⟨ao1, cp1, rfl⟩ : ∃ ao1 cp1, v1 = .slice ao1 L cp1 := reads_shape hrow.reads
  have HR := Lib.hid (And.intro hrow (And.intro hk1 hg1)); clear hrow hk1 hg1 hblk hgrow hsl
  have e0 : IntKind.i64.wrap ((L : Int) - 1) = (L : Int) - 1 := IntWalk.i64_in _ (by omega)
  go_wp2_with fail
  simp [go_sem]
  go_wp2_with fail
  go_loopw [7] (fun s7 wr => ∃ j : Nat, j ≤ L ∧ s7 = .int .i64 ((j : Int) - 1) ∧ RowAt wr 3 1 (.slice ao1 L cp1) L ((ns.take j ++ List.replicate (L - j) 0).map nv) ∧ Keeps [] w wr ∧ nextT ts ns = ((nextT (ts.take j) (ns.take j)).1 ++ List.replicate (L - j) 0, (nextT (ts.take j) (ns.take j)).2)) (fun s7 _ => (intOf s7 + 1).toNat)
  case atStart =>
    obtain ⟨ht, hT, hL, hnl, hts⟩ := HT.out
    obtain ⟨hrow, hk1, hg1⟩ := HR.out
    refine ⟨L, Nat.le_refl _, rfl, ?_, hk1, ?_⟩
    · rw [Nat.sub_self, List.take_of_length_le (by omega)]; simpa using hrow
    · rw [Nat.sub_self, List.take_of_length_le (by omega), List.take_of_length_le (by omega)]; simp
  case round =>
    obtain ⟨j, hj, rfl, hrow, hk, hnx⟩ := hrel
    by_cases hlt : 0 < j
    · obtain ⟨i, rfl⟩ : ∃ i, j = i + 1 := ⟨j - 1, by omega⟩
      have e1 : (((i + 1 : Nat) : Int) - 1) = (i : Int) := by omega
      rw [e1]
      obtain ⟨ht, hT, hL, hnl, hts⟩ := HT.out
      obtain ⟨t, hti⟩ : ∃ t, ts[i]? = some t := ⟨_, List.getElem?_eq_getElem (by omega)⟩
      obtain ⟨n, hni⟩ : ∃ n, ns[i]? = some n := ⟨_, List.getElem?_eq_getElem (by omega)⟩
      have htb := hts t (List.mem_of_getElem? hti)
      have hnb := isT_get hT hti hni
      rw [nextT_at (by omega) hti hni] at hnx
      obtain ⟨g, off, rfl⟩ : ∃ g off, ao1 = some ⟨g, off, none⟩ := by
        rcases hrow.2 with ⟨_, h2⟩ | ⟨q, off, cap, cur, e, _⟩
        · omega
        · cases e; exact ⟨q, off, rfl⟩
      have c1 : wr.cell? ⟨g, off + i, none⟩ = some (.int .i64 n) := by
        refine hrow.cell (j := i) ?_
        rw [List.getElem?_map, List.getElem?_append_left (by simp; omega), List.getElem?_take, if_pos (by omega), hni]; rfl
      have f1 : wr.frozen? ⟨g, off + i, none⟩ = false := hrow.free _
      obtain ⟨b, of2, rfl, c2⟩ := reads_cell (wr := wr) ht (fun q _ hq => hk.block q hq (by simp)) (j := i) (u := .int .i64 t) (by simp [hti, nv])
      have hiL : (i : Int) < (L : Int) := by omega
      have c1' : wr.drew.cell? ⟨g, off + i, none⟩ = some (.int .i64 n) := c1
      have c2' : wr.drew.cell? ⟨b, of2 + i, none⟩ = some (.int .i64 t) := c2
      have f1' : wr.drew.frozen? ⟨g, off + i, none⟩ = false := f1
      have hrd := hrow.same (w' := wr.drew) (fun _ _ => rfl)
      have hgw := HR.out.2.2 g rfl
      have hii : i < L := by omega
      have HX := Lib.hid (And.intro hni (And.intro hnx (And.intro hrd (And.intro hk (And.intro hL hnl))))); clear hni hnx hrow hrd hk ht hT hL hnl hts hti c1 c2 f1
      by_cases hb : n < t
      · have hbI : (n : Int) < (t : Int) := by omega
        have e3 : IntKind.i64.wrap ((n : Int) + 1) = (n : Int) + 1 := IntWalk.i64_in _ (by omega)
        go_wp2_with fail
        refine wp_region_still_lit (by kernel_rfl) (by kernel_rfl) ?_
        iterate 9 still_step
        refine wpStill_nil ?_
        go_wp2_with fail
        go_ret2
        obtain ⟨hni, hnx, hrd, hk, hL, hnl⟩ := HX.out
        rw [if_pos hb] at hnx
        refine ⟨_, by rw [hnx]; rfl, ?_, (hk.trans (Keeps.drew wr) (by simp)).trans ((Keeps.setCell wr.drew g (off + i) _)) (fun q hq => .inr (by simp only [List.mem_singleton] at hq; omega)), HR.out.2.2⟩
        have := hrd.set i (by simp; omega) (nv (n + 1))
        rw [← List.map_set, set_up _ _ _ _ hni] at this
        rw [hnx]
        exact this
      · have hbI : (t : Int) ≤ (n : Int) := by omega
        have e5 : IntKind.i64.wrap ((i : Int) - 1) = (i : Int) - 1 := IntWalk.i64_in _ (by omega)
        go_wp2_with fail
        refine wp_region_still_lit (by kernel_rfl) (by kernel_rfl) ?_
        iterate 9 still_step
        refine wpStill_nil ?_
        go_wp2_with fail
        go_roundw
        case rel =>
          obtain ⟨hni, hnx, hrd, hk, hL, hnl⟩ := HX.out
          rw [if_neg hb] at hnx
          have hgo : ∃ j : Nat, j ≤ L ∧ Value.int .i64 ((i : Int) - 1) = .int .i64 ((j : Int) - 1) ∧ RowAt (wr.drew.setCell ⟨g, off + i, none⟩ (.int .i64 0)) 3 1 (.slice (some ⟨g, off, none⟩) L cp1) L ((ns.take j ++ List.replicate (L - j) 0).map nv) ∧ Keeps [] w (wr.drew.setCell ⟨g, off + i, none⟩ (.int .i64 0)) ∧ nextT ts ns = ((nextT (ts.take j) (ns.take j)).1 ++ List.replicate (L - j) 0, (nextT (ts.take j) (ns.take j)).2) := by
            refine ⟨i, by omega, rfl, ?_, (hk.trans (Keeps.drew wr) (by simp)).trans ((Keeps.setCell wr.drew g (off + i) _)) (fun q hq => .inr (by simp only [List.mem_singleton] at hq; omega)), ?_⟩
            · have := hrd.set i (by simp; omega) (nv 0)
              rw [← List.map_set, set_zero _ _ _ (by omega)] at this
              rw [show L - i = L - (i + 1) + 1 by omega]
              exact this
            · rw [hnx, show L - i = L - (i + 1) + 1 by omega, List.replicate_succ]; simp
          first | exact hgo | ((repeat apply Exists.intro); exact ⟨hgo, rfl⟩)
        case measure => simp [intOf]
    · obtain rfl : j = 0 := by omega
      have HX := Lib.hid (And.intro hrow (And.intro hk hnx)); clear hrow hk hnx
      go_wp2_with fail
      go_ret2
      obtain ⟨hrow, hk, hnx⟩ := HX.out
      refine ⟨_, by rw [hnx]; rfl, ?_, hk, HR.out.2.2⟩
      rw [hnx]
      simpa [nextT] using hrow
end Go.Proofs.Ytfjjiohclokohaa.pm
