/-
  PROVED HERE: slices.Collect, slices.Sorted, slices.All and rising of a memory's lines: the keys, rising. Conditions: the receiver is a memory; few lines.
-/
import Derived.Test.YtfjjiohclokohaaKeys
import Derived.LoopTactic
import Derived.Carry
namespace Go.Proofs.Ytfjjiohclokohaa.pm
open Go.RowKit Go.Shelf Go.Proofs.Ytfjjiohclokohaa.rn
set_option linter.unusedVariables false

/-- The keys, rising. -/
def ksort (l : List Int) : List Int := l.mergeSort fun x y => decide (x ≤ y)
theorem ksort_perm (l : List Int) : (ksort l).Perm l := List.mergeSort_perm l _
theorem ksort_length (l : List Int) : (ksort l).length = l.length := (ksort_perm l).length_eq
theorem ksort_of_perm {l l' : List Int} (h : l.Perm l') : ksort l = ksort l' := by
  have tr : ∀ a b c : Int, decide (a ≤ b) = true → decide (b ≤ c) = true → decide (a ≤ c) = true := fun a b c h1 h2 => by simp only [decide_eq_true_eq] at *; omega
  have tot : ∀ a b : Int, (decide (a ≤ b) || decide (b ≤ a)) = true := fun a b => by simp only [Bool.or_eq_true, decide_eq_true_eq]; omega
  refine List.Perm.eq_of_pairwise (le := fun a b => decide (a ≤ b) = true) (fun a b _ _ h1 h2 => ?_) (List.pairwise_mergeSort tr tot l) (List.pairwise_mergeSort tr tot l') (((List.mergeSort_perm l _).trans h).trans (List.mergeSort_perm l' _).symm)
  simp only [decide_eq_true_eq] at h1 h2
  omega
theorem Keeps.below {w w' : World} (h : Below w.heap.size w w') : Keeps [] w w' := ⟨h.size, fun i hi _ => h.block i hi, h.os, h.tape, h.output⟩
theorem appendKeys_any (Bm mb : Nat) (L : List (Int × Value)) (w : World) (hBm : w.cell? ⟨Bm, 0, none⟩ = some (.map (some mb))) (hm : MapIs w mb L) (hL : L.length ≤ 1000000) :
    Calls Try.prog 57 #[.slice none 0 0, .func (.func 55) #[] #[.pointer (some ⟨Bm, 0, none⟩)]] w fun e W' =>
      ∃ (v : Value) (ss : List Int), e = .returned v ∧ ss.Perm (L.map (·.1)) ∧ W'.ownsRow w.heap.size 48 1 v ss.length (ss.map (Value.int .u64)) ∧ Below w.heap.size w W' :=
  (callsIn_wide (n := 3)).1 (appendKeys_in 3 (Nat.le_refl _) Bm mb L w hBm hm hL)

/-- A row of addresses, sorted in place. -/
theorem row_sorted {w w' : World} {g off cap k : Nat} {zs ys : List Int} {os : Array Obj} (h : RowAt w 48 1 (.slice (some ⟨g, off, none⟩) zs.length cap) zs.length (zs.map (Value.int .u64))) (hl : ys.length = zs.length)
    (hw : w' = Sort.grow (Sort.putRow su.encU (Sort.ahead w k) g off ys.toArray) os) :
    RowAt w' 48 1 (.slice (some ⟨g, off, none⟩) zs.length cap) zs.length (ys.map (Value.int .u64)) ∧ Keeps [g] w w' := by
  have hg := h.lt (g := g) rfl
  have hk : Keeps [g] w w' := by
    refine ⟨?_, fun i hi hn => ?_, by rw [hw]; rfl, by rw [hw]; rfl, by rw [hw]; rfl⟩
    · rw [hw, Sort.size_grow, Sort.size_putRow]; simp
    · rw [hw, Sort.heap_grow_old _ _ (by rw [Sort.size_putRow]; exact hi)]
      simp only [List.mem_singleton] at hn
      simp [Sort.putRow, Sort.mapBlock, Sort.ahead, Array.getElem?_modify, Ne.symm hn]
  refine ⟨?_, hk⟩
  obtain ⟨hlen, ⟨e, _⟩ | ⟨g', off', cap', cur, e, hb, h1, h2, h3, h4⟩⟩ := h
  · cases e
  · cases e
    refine ⟨by simp [hl], .inr ⟨g, off, cap, Sort.putCells su.encU off ys.toArray cur, rfl, ?_, h1, h2, by simpa [Sort.putCells] using h3, ?_⟩⟩
    · rw [hw, Sort.heap_grow_old _ _ (by rw [Sort.size_putRow]; exact hg)]
      simp [Sort.putRow, Sort.mapBlock, Sort.ahead, Array.getElem?_modify, hb, Sort.onCells]
    · apply List.ext_getElem?
      intro i
      simp only [List.getElem?_take, List.getElem?_drop, Array.getElem?_toList, Sort.putCells, Array.getElem?_mapIdx, List.getElem?_map, List.size_toArray]
      by_cases hi : i < zs.length
      · have hc : off + i < cur.size := by omega
        simp only [Nat.mul_one, hi, if_true, Array.getElem?_eq_getElem hc, Option.map_some]
        rw [if_pos ⟨by omega, by omega⟩, List.getElem?_eq_getElem (by omega : i < ys.length)]
        simp [su.encU, (by omega : i < ys.length)]
      · have : ys[i]? = none := List.getElem?_eq_none (by omega)
        simp [hi, this]

theorem sort_row {w : World} {v : Value} {zs : List Int} (h : RowAt w 48 1 v zs.length (zs.map (Value.int .u64))) (hsz : zs.length ≤ 1000000) :
    Calls Try.prog 54 #[v] w fun e w' => e = .returned (.tuple #[]) ∧ RowAt w' 48 1 v zs.length ((ksort zs).map (Value.int .u64)) ∧ Keeps v.ownBlock.toList w w' := by
  have h0 := h
  have hlen := h.1
  rcases h.2 with ⟨rfl, hn⟩ | ⟨g, off, cap, cur, rfl, hb, h1, h2, h3, h4⟩
  · have hz : zs = [] := List.eq_nil_of_length_eq_zero hn
    subst hz
    refine (su.Sort_int_nil none 0 w).mono ?_
    rintro e w' ⟨rfl, rfl⟩
    exact ⟨rfl, by simpa [ksort] using h0, Keeps.refl _ _⟩
  · have hH : Sort.Holds su.encU w g off zs.toArray := fun j hj => by
      have hj' : j < zs.length := by simpa using hj
      refine ⟨?_, h0.free _⟩
      have := h0.cell (j := j) (u := .int .u64 zs[j]) (by simp [hj'])
      simpa [hj'] using this
    refine (su.slices_Sort_int g off cap zs w hH (h0.lt rfl) (by omega)).mono ?_
    rintro e w' ⟨rfl, k, os, hw⟩
    obtain ⟨r1, r2⟩ := row_sorted (ys := ksort zs) h0 (ksort_length zs) hw
    exact ⟨rfl, r1, r2⟩

set_option maxRecDepth 100000 in
theorem sorted_any (Bm mb : Nat) (L : List (Int × Value)) (w : World) (hBm : w.cell? ⟨Bm, 0, none⟩ = some (.map (some mb))) (hm : MapIs w mb L) (hL : L.length ≤ 1000000) :
    Calls Try.prog 48 #[.func (.func 55) #[] #[.pointer (some ⟨Bm, 0, none⟩)]] w fun e W' =>
      ∃ v : Value, e = .returned v ∧ RowAt W' 48 1 v L.length ((ksort (L.map (·.1))).map (Value.int .u64)) ∧ Keeps [] w W' ∧ ∀ g, v.ownBlock = some g → w.heap.size ≤ g := by
  have hcoll : Calls Try.prog 53 #[.func (.func 55) #[] #[.pointer (some ⟨Bm, 0, none⟩)]] w fun e W' =>
      ∃ (v : Value) (ss : List Int), e = .returned v ∧ ss.Perm (L.map (·.1)) ∧ W'.ownsRow w.heap.size 48 1 v ss.length (ss.map (Value.int .u64)) ∧ Below w.heap.size w W' := by
    have HA := Lib.hid (appendKeys_any Bm mb L w hBm hm hL)
    clear hBm hm
    go_enter Try.func53, Try.ntmps53
    go_wp2_with fail
    refine HA.out.mono ?_
    rintro e W' ⟨v, ss, rfl, h1, h2, h3⟩
    have H := Lib.hid (And.intro h1 (And.intro h2 h3)); clear h1 h2 h3
    go_wp2_with fail
    go_ret
    exact ⟨v, ss, rfl, H.out⟩
  have HC := Lib.hid hcoll; clear hcoll
  clear hBm hm
  go_enter Try.func48, Try.ntmps48
  go_wp2_with fail
  refine HC.out.mono ?_
  rintro e W1 ⟨v, ss, rfl, hp, hrow, hb⟩
  have hr := RowAt.of_own hrow
  have hlen : ss.length = L.length := by simpa using hp.length_eq
  have hg : ∀ g, v.ownBlock = some g → w.heap.size ≤ g := by
    intro g hg
    rcases hrow.2 with ⟨rfl, _⟩ | ⟨g', cap, cur, rfl, hle, _⟩
    · cases hg
    · cases hg; exact hle
  have HS := Lib.hid (And.intro (sort_row hr (by omega)) (And.intro hp (And.intro hg (And.intro hlen hb)))); clear hr hp hg hlen hb hrow
  go_wp2_with fail
  refine HS.out.1.mono ?_
  rintro e W2 ⟨rfl, hr2, hk2⟩
  have H2 := Lib.hid (And.intro hr2 hk2); clear hr2 hk2
  go_wp2_with fail
  go_ret
  obtain ⟨_, hp, hg, hlen, hb⟩ := HS.out
  refine ⟨v, rfl, ?_, (Keeps.below hb).trans H2.out.2 (fun i hi => .inr (hg i (by simpa [Option.mem_toList] using hi))), hg⟩
  rw [← hlen, ← ksort_of_perm hp]
  exact H2.out.1

/-- A place and a key. -/
abbrev PosKey := { x : Nat × Int // x.1 ≤ 1000000 ∧ U64 x.2 }
def posEncs (x : PosKey) : Array Value := #[.int .i64 x.1.1, .int .u64 x.1.2]

set_option maxRecDepth 100000 in
set_option maxHeartbeats 1000000 in
/-- slices.All's iterator: the places and what stands there, in order. -/
theorem allA1_seq (F : Fence) (n : Nat) (hf : F.fn 52) (hro : F.round = none) (hn : 1 ≤ n) (bx : Nat) (v : Value) (ks : List Int) (hu : ∀ k ∈ ks, U64 k) (hN : ks.length ≤ 1000000) (w : World)
    (hc : w.cell? ⟨bx, 0, none⟩ = some v) (hrow : RowAt w 48 1 v ks.length (ks.map (Value.int .u64))) :
    SeqN F n Try.prog 52 #[.pointer (some ⟨bx, 0, none⟩)] posEncs (fun _ _ W W' => ∀ g, v.ownBlock = some g → W'.heap[g]? = W.heap[g]?) (fun _ _ _ _ _ => True) (fun xs => xs.map (·.1) = ks.mapIdx Prod.mk) (fun _ => True) ks.length w := by
  intro l J Jx W hW hJ hJx hY h0
  have hc' : W.cell? ⟨bx, 0, none⟩ = some v := (hW.cell (p := ⟨bx, 0, none⟩) (World.block_lt_of_cell? _ _ hc)).trans hc
  have hr' : RowAt W 48 1 v ks.length (ks.map (Value.int .u64)) := hrow.same fun g hg => hW.block _ (hrow.lt hg)
  have hJ0 := h0 none (fun k e => by cases e)
  clear hc hrow hW h0
  have hlen : ∃ ao cp, v = .slice ao ks.length cp := by
    rcases hr'.2 with ⟨rfl, h2⟩ | ⟨g, off, cap, cur, rfl, _⟩
    · exact ⟨none, 0, by rw [h2]⟩
    · exact ⟨_, _, rfl⟩
  obtain ⟨ao, cp, rfl⟩ := hlen
  have HY := Lib.hid hY; clear hY
  have HJ := Lib.hid hJ; clear hJ
  have HJx := Lib.hid hJx; clear hJx
  have HU := Lib.hid hu; clear hu
  refine callsIn_of_wp Try.func52 rfl hf ?_ hro
  simp only [Try.ntmps52, List.size_toArray, List.length_cons, List.length_nil, Nat.reduceAdd, Nat.reduceSub, Array.replicate_succ, Array.replicate_zero, List.push_toArray, List.append_toArray, List.nil_append, List.cons_append]
  gi_wp2
  gi_loopw [7] (fun s7 wr => ∃ (i : Nat) (pre : List PosKey), s7 = .int .i64 i ∧ i ≤ ks.length ∧ pre.map (·.1) = (ks.take i).mapIdx Prod.mk ∧ RowAt wr 48 1 (.slice ao ks.length cp) ks.length (ks.map (Value.int .u64)) ∧ J none pre wr) (fun s7 _ => ks.length - (RowKit.intOf s7).toNat)
  case atStart => exact ⟨0, [], rfl, Nat.zero_le _, rfl, hr', hJ0⟩
  case round =>
    obtain ⟨i, pre, rfl, hi, hpre, hrw, hJs⟩ := hrel
    by_cases hlt : i < ks.length
    · obtain ⟨k, hk⟩ : ∃ k, ks[i]? = some k := ⟨_, List.getElem?_eq_getElem hlt⟩
      obtain ⟨g, off, rfl⟩ : ∃ g off, ao = some ⟨g, off, none⟩ := by
        rcases hrw.2 with ⟨e, h2⟩ | ⟨g, off, cap, cur, e, _⟩
        · omega
        · cases e; exact ⟨g, off, rfl⟩
      have cg := hrw.cell (j := i) (u := .int .u64 k) (by simp [hk])
      have hku := HU.out k (List.mem_of_getElem? hk)
      have hltI : (i : Int) < ks.length := by omega
      have hpl : pre.length = i := by
        have := congrArg List.length hpre
        simp at this; omega
      obtain ⟨X, hX⟩ : ∃ X : PosKey, X.1 = (i, k) := ⟨⟨(i, k), by show i ≤ 1000000; omega, hku⟩, rfl⟩
      obtain ⟨fn, tmps, assign, body, hy, hRd⟩ := HY.out none pre X wr (fun k e => by cases e) (fun k e => by cases e) hJs trivial (by omega)
      simp only [posEncs, hX] at hy
      have HX := Lib.hid (And.intro hrw (And.intro hpre (And.intro hk (And.intro hX hpl)))); clear hrw hpre hk hku hpl hJs hi hX
      gi_wp2
      refine hRd.mono ?_
      rintro e W3 (⟨rfl, hJ3, hk3⟩ | ⟨rfl, hJx3⟩)
      · have HK := Lib.hid (And.intro hJ3 (hk3 g rfl)); clear hJ3 hk3
        gi_wp2
        go_roundw
        case rel =>
          obtain ⟨hrw, hpre, hk, hX, hpl⟩ := HX.out
          refine ⟨i + 1, pre ++ [X], by go_num, by omega, ?_, hrw.same fun q hq => by cases hq; exact HK.out.2, HK.out.1⟩
          rw [List.map_append, hpre, List.take_add_one, hk, List.map_singleton, hX]
          simp [List.mapIdx_append, Nat.min_eq_left (Nat.le_of_lt hlt)]
        case measure => simp [RowKit.intOf]; omega
      · have HK := Lib.hid hJx3; clear hJx3
        gi_wp2
        refine bodyPost_ret (results_none rfl _ _ _) rfl ?_
        exact ⟨⟨_, rfl⟩, none, (fun k e => by cases e), .inr ⟨_, trivial, HK.out⟩⟩
    · obtain rfl : i = ks.length := by omega
      have HX := Lib.hid (And.intro hpre hJs); clear hpre hJs hi hlt
      gi_wp2
      go_end0
      refine ⟨⟨_, rfl⟩, none, (fun k e => by cases e), .inl ⟨pre, ?_, HX.out.2⟩⟩
      have := HX.out.1
      rwa [List.take_length] at this

/-- rising: slices.All of the keys, rising. -/
def Mod.keys (M : Mod) : List Int := ksort (M.lines.map (·.1))
theorem rising_any {w : World} {b : Nat} {p : Pl} {M : Mod} (h : IsMem w b p M) (hN : M.lines.length ≤ 1000000) :
    Calls Try.prog 36 #[.pointer (some ⟨b, 0, none⟩)] w fun e W' =>
      ∃ (bx : Nat) (v : Value), e = .returned (.func (.func 52) #[] #[.pointer (some ⟨bx, 0, none⟩)]) ∧ W'.cell? ⟨bx, 0, none⟩ = some v ∧ RowAt W' 48 1 v M.lines.length (M.keys.map (Value.int .u64)) ∧ Keeps [] w W' ∧ w.heap.size ≤ bx ∧ ∀ g, v.ownBlock = some g → w.heap.size ≤ g := by
  have c2 := h.blkAt.cells.2.2.1
  have hkeys := h.lines.keys
  have hlen : p.L.length = M.lines.length := h.lines.1
  have hm := h.map
  have hlt := h.lt p.mb (by simp [Pl.foot])
  go_enter Try.func36, Try.ntmps36
  have hkc : Calls Try.prog 49 #[.map (some p.mb)] w fun e W' => e = .returned (.func (.func 55) #[] #[.pointer (some ⟨w.heap.size, 0, none⟩)]) ∧ W' = w.alloc (.cells #[.map (some p.mb)] 64) := by
    clear c2 hkeys hlen hm hlt
    go_enter Try.func49, Try.ntmps49
    go_wp2_with fail
    go_ret
    exact ⟨rfl, rfl⟩
  have hs := sorted_any w.heap.size p.mb p.L (w.alloc (.cells #[.map (some p.mb)] 64)) (by simp) (hm.same ((MapKept.heap_alloc w _).2 _ hlt)) (by omega)
  have HS := Lib.hid hs; clear hs
  have HK := Lib.hid hkc; clear hkc
  have HE := Lib.hid (And.intro hkeys hlen); clear hkeys hlen hm hlt
  go_wp2_with fail
  refine HK.out.mono ?_
  rintro e W1 ⟨rfl, rfl⟩
  go_wp2_with fail
  refine HS.out.mono ?_
  rintro e W2 ⟨v, rfl, hr2, hk2, hg2⟩
  obtain ⟨ao, cn, cp, rfl⟩ : ∃ ao cn cp, v = .slice ao cn cp := by
    rcases hr2.2 with ⟨rfl, h2⟩ | ⟨g, off, cap, cur, rfl, _⟩
    · exact ⟨none, 0, 0, rfl⟩
    · exact ⟨_, _, _, rfl⟩
  have hac : Calls Try.prog 47 #[.slice ao cn cp] W2 fun e W' => e = .returned (.func (.func 52) #[] #[.pointer (some ⟨W2.heap.size, 0, none⟩)]) ∧ W' = W2.alloc (.cells #[.slice ao cn cp] 44) := by
    clear hr2 hk2 hg2
    go_enter Try.func47, Try.ntmps47
    go_wp2_with fail
    go_ret
    exact ⟨rfl, rfl⟩
  have H2 := Lib.hid (And.intro hr2 (And.intro hk2 (And.intro hg2 hac))); clear hr2 hk2 hg2 hac
  go_wp2_with fail
  refine H2.out.2.2.2.mono ?_
  rintro e W3 ⟨rfl, rfl⟩
  go_wp2_with fail
  go_ret
  obtain ⟨hr2, hk2, hg2, _⟩ := H2.out
  have hsz := hk2.size
  rw [World.size_alloc] at hsz
  refine ⟨W2.heap.size, _, rfl, by simp; rfl, ?_, (((Keeps.alloc w _).trans hk2 (by simp)).trans (Keeps.alloc W2 _) (by simp)), by omega, fun g hg => ?_⟩
  · unfold Mod.keys
    rw [← HE.out.1, ← HE.out.2]
    exact hr2.same fun g hg => (MapKept.heap_alloc W2 _).2 _ (hr2.lt hg)
  · have := hg2 g hg
    rw [World.size_alloc] at this
    omega
end Go.Proofs.Ytfjjiohclokohaa.pm
