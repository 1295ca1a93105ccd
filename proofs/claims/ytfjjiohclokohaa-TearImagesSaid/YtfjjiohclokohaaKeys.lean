/-
  PROVED HERE: maps.Keys over a memory's lines, slices.Collect of it, slices.Sorted, slices.All: the keys, rising. Conditions: the block is a map with unsigned keys.
-/
import Derived.Test.YtfjjiohclokohaaRngN
import Derived.Test.YtfjjiohclokohaaMod
import Derived.Test.YtfjjiohclokohaaSuI
import Derived.Test.YtfjjiohclokohaaFence
import Derived.RangeFuncBox
import Derived.Maps.AppendAt
namespace Go.Proofs.Ytfjjiohclokohaa.pm
open Go.RowKit Go.Shelf
set_option linter.unusedVariables false
attribute [local go_sem] Oper.semAt_some

theorem Iter.walks {w w' : World} {r mb : Nat} {L R : List (Int × Value)} (h : Iter w r mb L R) (hk : KeepsWalks w w') : Iter w' r mb L R := by
  obtain ⟨es, clock, seen, h1, h2, r⟩ := h
  exact ⟨es, clock, seen, hk.same _ _ h1 rfl, hk.same _ _ h2 rfl, r⟩
theorem grownBy_putBd (w : World) (r : Nat) (o : Obj) (d : Nat) : w.grownBy { putB w r o with drawn := w.drawn + d } (some r) :=
  ⟨rfl, rfl, rfl, Nat.le_of_eq putB_size.symm, fun k _ hk => putB_other (fun e => hk (by rw [e]))⟩

set_option maxRecDepth 100000 in
set_option maxHeartbeats 1000000 in
/-- maps.Keys' iterator, for every loop body: the keys come, each once, in some order. -/
theorem keys1_seq (F : Fence) (n : Nat) (hf : F.fn 55) (hro : F.round = none) (hn : 1 ≤ n) (Bm mb : Nat) (L : List (Int × Value)) (w : World) (hBm : w.cell? ⟨Bm, 0, none⟩ = some (.map (some mb))) (hm : MapIs w mb L) :
    SeqStopsK F n Try.prog 55 #[.pointer (some ⟨Bm, 0, none⟩)] (fun x : Int => #[.int .u64 x]) KeepsWalks (fun ss => ss.Perm (L.map (·.1))) (fun _ => True) L.length w := by
  intro l J Jx W hW hJ hJx hY h0
  have hBm' : W.cell? ⟨Bm, 0, none⟩ = some (.map (some mb)) := (hW.cell (p := ⟨Bm, 0, none⟩) (World.block_lt_of_cell? _ _ hBm)).trans hBm
  have hm' : MapIs W mb L := hm.same (hW.block _ hm.lt)
  clear hBm hm hW
  refine callsIn_of_wp Try.func55 rfl hf ?_ hro
  simp only [Try.ntmps55, List.size_toArray, List.length_cons, List.length_nil, Nat.reduceAdd, Nat.reduceSub, Array.replicate_succ, Array.replicate_zero, List.push_toArray, List.append_toArray, List.nil_append, List.cons_append]
  obtain ⟨W2, hrg, ⟨o2, hW2⟩, hit⟩ := run_range_map (P := Try.prog) (T := 64) (E := 75) hm' Try.underlying64
  have hJ2 : J [] W2 := by rw [hW2]; exact hJ [] W _ none h0 (World.grownBy_alloc W o2 none) (fun r e => by cases e)
  obtain ⟨r, hr⟩ : ∃ r, r = W.heap.size := ⟨_, rfl⟩
  rw [← hr] at hit hrg
  have HR := Lib.hid hr; clear hr
  have HJ := Lib.hid hJ; clear hJ
  have HJx := Lib.hid hJx; clear hJx
  have HY := Lib.hid hY; clear hY
  clear hW2 hm' h0
  gi_wp2
  gi_loopw [3] (fun _ wr => ∃ (R : List (Int × Value)) (ss : List Int), Iter wr r mb L R ∧ (ss ++ R.map (·.1)).Perm (L.map (·.1)) ∧ J ss wr) (fun _ wr => wr.rangeLeft mb r)
  case atStart => exact ⟨L, [], hit, List.Perm.refl _, hJ2⟩
  case round =>
    obtain ⟨R, ss, hitx, hperm, hJs⟩ := hrel
    by_cases hR : R = []
    · have hnx := run_next_over (P := Try.prog) (hR ▸ hitx)
      have HX := Lib.hid (And.intro hperm (And.intro hR hJs)); clear hperm hR hJs
      gi_wp2
      go_end0
      refine ⟨⟨_, rfl⟩, .inl ⟨ss, ?_, HX.out.2.2⟩⟩
      have := HX.out.1
      rw [HX.out.2.1] at this
      simpa using this
    · obtain ⟨i, k, v, w1, d, hRi, hnx, ⟨o, hw1⟩, hit1, hen⟩ := run_next_some (P := Try.prog) hitx hR
      have hlen : ss.length < L.length := by
        have h1 := hperm.length_eq
        have h2 : 0 < R.length := List.length_pos_iff.2 hR
        simp only [List.length_append, List.length_map] at h1
        omega
      have hiw : ∃ q : Obj, wr.heap[r]? = some q ∧ q.isWalk = true := by
        obtain ⟨es, clock, seen, _, h2, _⟩ := hitx
        exact ⟨_, h2, rfl⟩
      have hJ1 : J ss w1 := HJ.out ss wr w1 (some r) hJs (by rw [hw1]; exact grownBy_putBd wr r o d) (fun q e => by cases e; exact ⟨Nat.le_of_eq HR.out.symm, hiw⟩)
      have hml : w1.rangeLeft mb r < wr.rangeLeft mb r := by
        rw [hit1.left, hitx.left, List.length_eraseIdx]
        have := (List.getElem?_eq_some_iff.1 hRi).1
        rw [if_pos this]; omega
      have hp1 : (ss ++ [k] ++ (R.eraseIdx i).map (·.1)).Perm (L.map (·.1)) := by
        refine List.Perm.trans ?_ hperm
        rw [List.append_assoc]
        refine List.Perm.append_left _ ?_
        have := (perm_step R i hRi).map (·.1)
        simpa using this
      obtain ⟨fn, tmps, assign, body, hy, hRd⟩ := HY.out ss k w1 hJ1 hlen
      have HX := Lib.hid (And.intro hp1 (And.intro hml hit1)); clear hp1 hml hit1 hperm hlen hiw hJs hJ1 hw1 hRi hitx hR
      gi_wp2
      refine hRd.mono ?_
      rintro e W3 (⟨rfl, hJ3, hk3⟩ | ⟨rfl, hJx3⟩)
      · have HK := Lib.hid (And.intro hJ3 hk3); clear hJ3 hk3
        gi_wp2
        go_roundw
        case rel => exact ⟨R.eraseIdx i, ss ++ [k], HX.out.2.2.walks HK.out.2, HX.out.1, HK.out.1⟩
        case measure => rw [(HX.out.2.2.walks HK.out.2).left, ← HX.out.2.2.left]; exact HX.out.2.1
      · have HK := Lib.hid hJx3; clear hJx3
        gi_wp2
        refine bodyPost_ret (results_none rfl _ _ _) rfl ?_
        exact ⟨⟨_, rfl⟩, .inr ⟨ss ++ [k], trivial, HK.out⟩⟩

theorem addrInfo : (Try.prog.info? 48).map (fun i => (i.zero, i.size, i.bytes)) = some (some (.int .u64 0), 1, 8) := by kernel_rfl
theorem KeepsOthers.walks {W W' : World} (h : KeepsOthers W W') : KeepsWalks W W' := ⟨h.size, fun k o hk hw => h.same k o hk (Obj.not_cells_of_walk hw)⟩

set_option maxRecDepth 100000 in
set_option maxHeartbeats 2000000 in
/-- slices.AppendSeq(nil, maps.Keys(m)): the keys, in some order, in a row of its own. -/
theorem appendKeys_in (n : Nat) (hn : 3 ≤ n) (Bm mb : Nat) (L : List (Int × Value)) (w : World) (hBm : w.cell? ⟨Bm, 0, none⟩ = some (.map (some mb))) (hm : MapIs w mb L) (hL : L.length ≤ 1000000) :
    CallsIn Fence.wide n Try.prog 57 #[.slice none 0 0, .func (.func 55) #[] #[.pointer (some ⟨Bm, 0, none⟩)]] w fun e W' =>
      ∃ (v : Value) (ss : List Int), e = .returned v ∧ ss.Perm (L.map (·.1)) ∧ W'.ownsRow w.heap.size 48 1 v ss.length (ss.map (Value.int .u64)) ∧ Below w.heap.size w W' := by
  have h1 : 1 ≤ n := by omega
  obtain ⟨i0, hi, hz0, hz1, hz2⟩ := info_parts addrInfo
  refine callsIn_of_wp_marks Try.func57 rfl trivial ?_ rfl
  simp only [Try.ntmps57, List.size_toArray, List.length_cons, List.length_nil, Nat.reduceAdd, Nat.reduceSub, Array.replicate_succ, Array.replicate_zero, List.push_toArray, List.append_toArray, List.nil_append, List.cons_append]
  gi_wp2
  have bO := Boxed.new w 44 (.slice none 0 0)
  have hB0 : Below w.heap.size w (w.alloc (.cells #[.slice none 0 0] 44)) := (Below.refl _ w).alloc (Nat.le_refl _) _
  have hBm0 : (w.alloc (.cells #[.slice none 0 0] 44)).cell? ⟨Bm, 0, none⟩ = some (.map (some mb)) := (hB0.cell (p := ⟨Bm, 0, none⟩) (World.block_lt_of_cell? _ _ hBm)).trans hBm
  have hm0 : MapIs (w.alloc (.cells #[.slice none 0 0] 44)) mb L := hm.same (hB0.block _ hm.lt)
  refine wpIn_rangeFunc_ownG rfl h1 (gf := 55) (lb := #[.pointer (some ⟨Bm, 0, none⟩)]) rfl trivial (enters_of Try.func55 (by kernel_rfl) rfl)
    (keys1_seq Fence.wide (n - 1) trivial rfl (by omega) Bm mb L _ hBm0 hm0) walksK_t walksK_b (Below.refl _ _) (fun _ => rfl)
    (fun pre W => (∃ v, Boxed W w.heap.size 44 v ∧ W.ownsRow w.heap.size 48 1 v pre.length (pre.map (Value.int .u64)) ∧ (v = .slice none 0 0 ↔ pre = [])) ∧ Below w.heap.size w W)
    (fun _ _ _ => False)
    (OwnFrom.and (Own.from (holdsRow_own w.heap.size w.heap.size 44 48 1 (fun pre => pre.length) (fun pre => pre.map (Value.int .u64)) (fun pre v => v = .slice none 0 0 ↔ pre = [])) _) (ownFrom_below (Nat.le_refl _) (by simp)))
    (fun _ _ _ _ _ hs _ _ => hs)
    ⟨⟨_, bO, World.ownsRow_nil _ _ _ _, by simp⟩, hB0⟩
    (fun x => { tmps := #[.slice none 0 0, .func (.func 55) #[] #[.pointer (some ⟨Bm, 0, none⟩)], .pointer (some ⟨w.heap.size, 0, none⟩), undef, .slice none 0 0, .int .u64 x, .func (.func 55) #[] #[.pointer (some ⟨Bm, 0, none⟩)], .int .u64 x, undef, undef, undef, undef, undef], defers := [] }) ?assign ?body ?done ?stop
  case assign =>
    intro l x W K hK
    gi_wp2
    exact hK
  case body =>
    rintro l pre x W ⟨⟨v, hv, hrow, hnil⟩, hB⟩ hlt
    have hc := hv.cell
    gi_wp2_with (gi_at_builtin; refine wpListIn_append_own _ rfl _ _ 44 rfl w.heap.size 48 i0 (.int .u64 0) 1 8 Try.underlying44 hi hz0 hz1 hz2 rfl (by decide) _ _ _ rfl (hrow.alloc _) ⟨W.heap.size, 0, none⟩ 1 1 [.int .u64 x] rfl rfl (cell_one_new _ _ _) (by simp [Value.oneCell']) (by unfold maxLen; omega) (by omega) (by have := hB.size; simp; omega) ?_; intro v' w1 hown' hgrow _; obtain ⟨g', cap', rfl⟩ := ownsRow_succ hown'; obtain ⟨hv1, hv2, hr2, hk2, hb2⟩ := hv.appended (by decide) hrow hB.size (Nat.le_refl _) hown' hgrow; have hc1 := hv1.cell; have hf1 := hv1.frozen)
    exact ⟨hk2.from _, KeepsOthers.walks hk2, ⟨_, hv2, by simpa using hr2, by simp⟩, hB.trans hb2⟩
  case done =>
    rintro D ys W hD hys ⟨⟨v, hv, hrow, hnil⟩, hB⟩ hK
    have hc := hv.cell
    gi_wp2
    refine ⟨by simp, .inl ⟨_, _, rfl, run_takeDeferred hK, ?_⟩⟩
    exact ⟨_, results_tmp rfl _ _ _, v, ys, rfl, hys, ownsRow_putObj hrow _ hK rfl, hB.trans (belowK_b (w := w) (Nat.le_refl _) W D _ _ (by simp at hD; omega) hK rfl rfl)⟩
  case stop =>
    rintro D c pre W _ _ h _
    exact h.elim
end Go.Proofs.Ytfjjiohclokohaa.pm
