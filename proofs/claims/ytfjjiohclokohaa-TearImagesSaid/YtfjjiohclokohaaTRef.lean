/-
  PROVED HERE: the reference's Count, Same, Next of tears. Conditions: the slices are read; few.
-/
import Derived.Test.YtfjjiohclokohaaCrash
import Derived.Test.YtfjjiohclokohaaTearP
import Derived.BigQuiet
namespace Go.Proofs.Ytfjjiohclokohaa.pm
open Go.RowKit Go.Proofs.Ytfjjiohclokohaa.tp
set_option linter.unusedVariables false

def nv (x : Nat) : Value := .int .i64 (x : Int)
theorem reads_shape {w : World} {v : Value} {n : Nat} {xs : List Value} (h : Reads w v n xs) : ∃ ao cp, v = .slice ao n cp := by
  rcases h with ⟨rfl, h2, _⟩ | ⟨a, cap, rfl, _⟩
  · exact ⟨none, 0, by rw [h2]⟩
  · exact ⟨_, _, rfl⟩
theorem reads_cell {w wr : World} {ao : Option Addr} {n cp : Nat} {xs : List Value} (h : Reads w (.slice ao n cp) n xs) (hs : ∀ g, (Value.slice ao n cp).ownBlock = some g → g < w.heap.size → wr.heap[g]? = w.heap[g]?) {j : Nat} {u : Value} (hj : xs[j]? = some u) :
    ∃ b off, ao = some ⟨b, off, none⟩ ∧ wr.cell? ⟨b, off + j, none⟩ = some u := by
  rcases h with ⟨e, h2, h3⟩ | ⟨a, cap, e, ha, hc⟩
  · rw [h3] at hj; simp at hj
  · obtain ⟨b, off, sp⟩ := a
    cases ha
    cases e
    have h1 := hc j u hj
    exact ⟨b, off, rfl, by rw [World.cell?_of_block (hs b rfl (World.block_lt_of_cell? _ _ h1))]; exact h1⟩
theorem Reads.keeps {w w' : World} {v : Value} {n : Nat} {xs : List Value} {F : List Nat} (h : Reads w v n xs) (hk : Keeps F w w') (hF : ∀ g, v.ownBlock = some g → g ∉ F) : Reads w' v n xs := by
  rcases h with ⟨e, h2, h3⟩ | ⟨a, cap, e, ha, hc⟩
  · exact .inl ⟨e, h2, h3⟩
  · refine .inr ⟨a, cap, e, ha, fun j u hj => ?_⟩
    have h1 := hc j u hj
    obtain ⟨b, off, sp⟩ := a
    cases ha
    subst e
    rw [World.cell?_of_block (w := w) (hk.block b (World.block_lt_of_cell? _ _ h1) (hF b rfl))]; exact h1

set_option maxRecDepth 100000 in
set_option maxHeartbeats 1000000 in
theorem refSame_any {w : World} {v v' : Value} {xs ys : List Int} (h : Reads w v xs.length (xs.map (Value.int .i64))) (h' : Reads w v' ys.length (ys.map (Value.int .i64))) (hn : xs.length ≤ maxLen) (hn' : ys.length ≤ maxLen) :
    Calls Try.prog 11 #[v, v'] w fun e w' => e = .returned (.bool (decide (xs = ys))) ∧ Keeps [] w w' ∧ w'.heap = w.heap := by
  obtain ⟨ao, cp, rfl⟩ := reads_shape h
  obtain ⟨ao', cp', rfl⟩ := reads_shape h'
  have H := Lib.hid h; clear h
  have H' := Lib.hid h'; clear h'
  unfold maxLen at hn hn'
  obtain ⟨l1, hl1⟩ : ∃ l1, l1 = xs.length := ⟨_, rfl⟩
  obtain ⟨l2, hl2⟩ : ∃ l2, l2 = ys.length := ⟨_, rfl⟩
  rw [← hl1] at H hn ⊢
  rw [← hl2] at H' hn' ⊢
  have HLL := Lib.hid (And.intro hl1 hl2); clear hl1 hl2
  go_enter Try.func11, Try.ntmps11
  by_cases hl : l1 = l2
  · subst hl
    go_wp2_with fail
    go_loopw [5] (fun s5 wr => ∃ j : Nat, j ≤ l1 ∧ s5 = .int .i64 j ∧ wr.heap = w.heap ∧ Keeps [] w wr ∧ xs.take j = ys.take j) (fun s5 _ => l1 - (intOf s5).toNat)
    case atStart => exact ⟨0, Nat.zero_le _, rfl, rfl, Keeps.refl _ _, rfl⟩
    case round =>
      obtain ⟨j, hj, rfl, hh, hk, hpre⟩ := hrel
      by_cases hlt : j < l1
      · obtain ⟨x, hx⟩ : ∃ x, xs[j]? = some x := ⟨_, List.getElem?_eq_getElem (by have := HLL.out; omega)⟩
        obtain ⟨y, hy⟩ : ∃ y, ys[j]? = some y := ⟨_, List.getElem?_eq_getElem (by have := HLL.out; omega)⟩
        obtain ⟨b, off, rfl, c1⟩ := reads_cell (wr := wr) H.out (fun g _ _ => by rw [hh]) (j := j) (u := .int .i64 x) (by simp [hx])
        obtain ⟨b', off', rfl, c2⟩ := reads_cell (wr := wr) H'.out (fun g _ _ => by rw [hh]) (j := j) (u := .int .i64 y) (by simp [hy])
        have c1' : wr.drew.cell? ⟨b, off + j, none⟩ = some (.int .i64 x) := c1
        have c2' : wr.drew.cell? ⟨b', off' + j, none⟩ = some (.int .i64 y) := c2
        have hji : (j : Int) < (l1 : Int) := by omega
        have HX := Lib.hid (And.intro hx (And.intro hy (And.intro hpre (And.intro hh hk)))); clear hx hy hpre hh hk
        by_cases hxy : x = y
        · have hxe : (x == y) = true := by simp [hxy]
          have HXY := Lib.hid hxy; clear hxy
          go_wp2_with fail
          refine wp_region_still_lit (by kernel_rfl) (by kernel_rfl) ?_
          iterate 9 still_step
          refine wpStill_nil ?_
          go_wp2_with fail
          go_roundw
          case rel =>
            obtain ⟨hx, hy, hpre, hh, hk⟩ := HX.out
            have hgo : ∃ i : Nat, i ≤ l1 ∧ Value.int .i64 ((j : Int) + 1) = .int .i64 i ∧ wr.drew.heap = w.heap ∧ Keeps [] w wr.drew ∧ xs.take i = ys.take i := ⟨j + 1, by omega, by go_num, hh, hk.trans (Keeps.drew wr) (by simp), by rw [List.take_add_one, List.take_add_one, hpre, hx, hy, HXY.out]⟩
            first | exact hgo | ((repeat apply Exists.intro); exact ⟨hgo, rfl⟩)
          case measure => simp [intOf]; omega
        · have hxe : (x == y) = false := by simp [hxy]
          have HXY := Lib.hid hxy; clear hxy
          go_wp2_with fail
          refine wp_region_still_lit (by kernel_rfl) (by kernel_rfl) ?_
          iterate 9 still_step
          refine wpStill_nil ?_
          go_wp2_with fail
          go_ret
          obtain ⟨hx, hy, hpre, hh, hk⟩ := HX.out
          have hne : xs ≠ ys := fun e => by rw [e, hy] at hx; exact HXY.out (Option.some.inj hx).symm
          exact ⟨by simp [hne], hk.trans (Keeps.drew wr) (by simp), hh⟩
      · obtain rfl : j = l1 := by omega
        have HX := Lib.hid (And.intro hpre (And.intro hh hk)); clear hpre hh hk
        go_wp2_with fail
        go_ret
        obtain ⟨hpre, hh, hk⟩ := HX.out
        have : xs = ys := by rw [List.take_of_length_le (by have := HLL.out; omega), List.take_of_length_le (by have := HLL.out; omega)] at hpre; exact hpre
        exact ⟨by simp [this], hk, hh⟩
  · have hne : (((l1 : Int) == (l2 : Int)) = false) := by simp; omega
    have HL := Lib.hid hl; clear hl
    go_wp2_with fail
    go_ret
    have : xs ≠ ys := fun e => HL.out (by rw [HLL.out.1, HLL.out.2, e])
    exact ⟨by simp [this], Keeps.refl _ _, rfl⟩

set_option maxRecDepth 100000 in
set_option maxHeartbeats 1000000 in
theorem refCount_any {w : World} {v : Value} {ts : List Nat} (h : Reads w v ts.length (ts.map nv)) (hn : ts.length ≤ 1000000) (ht : ∀ t ∈ ts, t ≤ 1000) :
    Calls Try.prog 9 #[v] w fun e w' => e = .returned (.int .u64 (refT 1 ts)) ∧ w = w' := by
  obtain ⟨ao, cp, rfl⟩ := reads_shape h
  have H := Lib.hid h; clear h
  have HT := Lib.hid ht; clear ht
  go_enter Try.func9, Try.ntmps9
  go_wp2_with fail
  go_loopw [3, 4] (fun s3 s4 wr => ∃ (j n : Nat), j ≤ ts.length ∧ s3 = .int .u64 n ∧ s4 = .int .i64 j ∧ wr = w ∧ n ≤ 4503599627370496 ∧ refT 1 ts = refT n (ts.drop j)) (fun _ s4 _ => ts.length - (intOf s4).toNat)
  case atStart => exact ⟨0, 1, Nat.zero_le _, rfl, rfl, rfl, by omega, rfl⟩
  case round =>
    obtain ⟨j, n, hj, rfl, rfl, hwr, hn1, hpre⟩ := hrel
    rw [hwr]
    clear hwr
    by_cases hlt : j < ts.length
    · obtain ⟨t, htj⟩ : ∃ t, ts[j]? = some t := ⟨_, List.getElem?_eq_getElem hlt⟩
      have htb := HT.out t (List.mem_of_getElem? htj)
      obtain ⟨b, off, rfl, c1⟩ := reads_cell (wr := w) H.out (fun g _ _ => rfl) (j := j) (u := .int .i64 t) (by simp [htj, nv])
      have hdr : ts.drop j = t :: ts.drop (j + 1) := by rw [← (List.getElem?_eq_some_iff.1 htj).2]; exact List.drop_eq_getElem_cons hlt
      rw [hdr, refT] at hpre
      have e1 : IntKind.i64.wrap ((t : Int) + 1) = ((t + 1 : Nat) : Int) := IntWalk.i64_in _ (by omega)
      have e2 : IntKind.u64.wrap ((t + 1 : Nat) : Int) = ((t + 1 : Nat) : Int) := IntWalk.u64_in _ (by omega)
      have hmul : n * (t + 1) ≤ 4503599627370496 * 1001 := Nat.mul_le_mul hn1 (by omega)
      have e3 : IntKind.u64.wrap ((n : Int) * ((t + 1 : Nat) : Int)) = ((n * (t + 1) : Nat) : Int) := by rw [Int.natCast_mul]; exact IntWalk.u64_in _ (by rw [← Int.natCast_mul]; omega)
      obtain ⟨q, hq⟩ : ∃ q, q = n * (t + 1) := ⟨_, rfl⟩
      rw [← hq] at e3 hmul hpre
      obtain ⟨t1, ht1⟩ : ∃ t1, t1 = t + 1 := ⟨_, rfl⟩
      rw [← ht1] at e1 e2 e3
      have HX := Lib.hid (And.intro htj (And.intro hpre (And.intro hq ht1))); clear hpre hq htj hdr ht1
      by_cases hb : q > 4503599627370496
      · have hbI : (4503599627370496 : Int) < (q : Int) := by omega
        go_wp2_with fail
        go_ret
        obtain ⟨htj, hpre, hq, ht1⟩ := HX.out
        rw [if_pos hb] at hpre
        exact ⟨by rw [hpre]; rfl, rfl⟩
      · have hbI : (q : Int) ≤ (4503599627370496 : Int) := by omega
        have hb2 : q ≤ 4503599627370496 := by omega
        clear hb
        go_wp2_with fail
        go_roundw
        case rel =>
          obtain ⟨htj, hpre, hq, ht1⟩ := HX.out
          rw [if_neg (by omega)] at hpre
          exact ⟨j + 1, q, by omega, rfl, by go_num, trivial, hb2, hpre⟩
        case measure => simp [intOf]; omega
    · obtain rfl : j = ts.length := by omega
      have HX := Lib.hid hpre; clear hpre
      go_wp2_with fail
      go_ret
      exact ⟨by rw [HX.out, List.drop_length, refT]; rfl, rfl⟩
end Go.Proofs.Ytfjjiohclokohaa.pm
