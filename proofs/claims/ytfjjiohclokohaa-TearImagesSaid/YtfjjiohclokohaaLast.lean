/-
  PROVED HERE: the contract of 'last', which lets the elder pending stores of a line last. Conditions: the receiver is a memory whose pending stores are to its words, the number is not below 0.
-/
import Derived.Test.YtfjjiohclokohaaPend
import Derived.Test.YtfjjiohclokohaaFin
namespace Go.Proofs.Ytfjjiohclokohaa.pm
open Go.RowKit

def lasts : List Int → List (Int × Int) → List Int
  | V, [] => V
  | V, p :: r => lasts (V.set (p.1 / 8).toNat p.2) r
theorem lasts_length : ∀ (ps : List (Int × Int)) (V : List Int), (lasts V ps).length = V.length
  | [], _ => rfl
  | p :: r, V => by simp [lasts, lasts_length r]
theorem lasts_snoc : ∀ (ps : List (Int × Int)) (V : List Int) (p : Int × Int), lasts V (ps ++ [p]) = (lasts V ps).set (p.1 / 8).toNat p.2
  | [], _, _ => rfl
  | q :: r, V, p => by simp [lasts, lasts_snoc r]

def lower (n : Int) (m : Int) : Int := max (m - n) 0

def Mod.last (M : Mod) (k : Int) (n : Nat) : Mod :=
  let l := (get M.lines k).getD noLine
  { M with
    image := lasts M.image (l.puts.take n)
    lines := if l.puts.length ≤ n then del M.lines k else put M.lines k ⟨l.puts.drop n, l.marks.map (lower n)⟩ }

theorem store_line0 (w : World) {A : Array Value} (hA : A.size = 66) (h1 : A.all (·.oneCell') = true) :
    (storeCells ⟨w.heap.size, 0, none⟩ A.toList).run Try.prog (w.alloc (.cells Try.zeroCells75 75)) = .ok () (w.alloc (.cells A 75)) := by
  have hb : (w.alloc (.cells Try.zeroCells75 75)).heap[w.heap.size]? = some (.cells Try.zeroCells75 75) := (MapKept.heap_alloc w _).1
  have := run_storeCells_from (P := Try.prog) w.heap.size 75 A.toList 0 Try.zeroCells75 (w.alloc (.cells Try.zeroCells75 75)) hb (by simp only [Array.length_toList, Nat.zero_add, hA, zeroLine_size]) (fun v hv => (Array.all_eq_true_iff_forall_mem.1 h1) v (by simpa using hv))
  rw [List.take_zero, List.nil_append, Array.toArray_toList] at this
  exact this.trans (congrArg (Result.ok ()) (setRow_alloc w 75 _ A))

/-- The pending stores of the lines are to the memory's words. -/
def PutsIn (M : Mod) : Prop := ∀ q ∈ M.lines, ∀ p ∈ q.2.puts, 0 ≤ p.1 ∧ p.1 / 8 < M.image.length

/-- The marks are numbers of what is pending. -/
def MarksIn (M : Mod) : Prop := ∀ q ∈ M.lines, ∀ m ∈ q.2.marks, 0 ≤ m ∧ m ≤ q.2.puts.length

def lowered (n : Int) (marks : List Int) (i : Nat) : List Int := (marks.take i).map (lower n) ++ marks.drop i
theorem lowered_length (n : Int) (marks : List Int) (i : Nat) : (lowered n marks i).length = marks.length := by simp [lowered]; omega
theorem lowered_get (n : Int) (marks : List Int) (i : Nat) {m : Int} (h : marks[i]? = some m) : (lowered n marks i)[i]? = some m := by
  have hi := (List.getElem?_eq_some_iff.1 h).1
  rw [lowered, List.getElem?_append_right (by simp; omega)]
  simp [Nat.min_eq_left (Nat.le_of_lt hi), h]
theorem lowered_set (n : Int) (marks : List Int) (i : Nat) {m : Int} (h : marks[i]? = some m) : (lowered n marks i).set i (lower n m) = lowered n marks (i + 1) := by
  obtain ⟨hi, hm⟩ := List.getElem?_eq_some_iff.1 h
  have e1 : marks.drop i = m :: marks.drop (i + 1) := by rw [List.drop_eq_getElem_cons hi, hm]
  have e2 : marks.take (i + 1) = marks.take i ++ [m] := by rw [List.take_add_one, h]; rfl
  rw [lowered, lowered, e1, e2, List.set_append_right _ _ (by simp; omega)]
  simp [Nat.min_eq_left (Nat.le_of_lt hi)]
theorem lowered_all (n : Int) (marks : List Int) : lowered n marks marks.length = marks.map (lower n) := by simp [lowered]
theorem lowered_zero (n : Int) (marks : List Int) : lowered n marks 0 = marks := by simp [lowered]

def Mod.pendK (M : Mod) (k : Int) : Nat := ((get M.lines k).getD noLine).puts.length

def LastPost (w : World) (b : Nat) (p : Pl) (M : Mod) (k : Int) (n : Nat) (e : Ending) (w' : World) : Prop :=
  e = .returned (.int .i64 (min n (M.pendK k) : Nat)) ∧ ∃ p', IsMem w' b p' (M.last k (min n (M.pendK k))) ∧ Keeps (p.foot b) w w' ∧ ∀ i ∈ p'.foot b, i ∈ p.foot b ∨ w.heap.size ≤ i

set_option maxRecDepth 100000 in
set_option maxHeartbeats 1000000 in
theorem last_any {w : World} {b : Nat} {p : Pl} {M : Mod} (h : IsMem w b p M) (hp : PutsIn M) (hmi : MarksIn M) (hn2 : M.image.length ≤ 131072)
    (k : Int) (n : Nat) (_hnb : n ≤ 4611686018427387904) :
    Calls Try.prog 38 #[.pointer (some ⟨b, 0, none⟩), .int .u64 k, .int .i64 n] w (LastPost w b p M k n) := by
  have hsep := h.sep
  simp only [Pl.foot, List.nodup_cons, List.mem_cons, not_or] at hsep
  obtain ⟨⟨hbv, hbi, hbm, hbL⟩, ⟨hvi, hvm, hvL⟩, ⟨him, hiL⟩, hmL, hLL⟩ := hsep
  have d2 := h.blkAt.cells.2.2.1
  obtain ⟨sv, marks, puts, hget, hgetM, hmk, hrow, hblk⟩ := line_of h.lines k
  have hA1 : (lineArr sv marks).size = 66 := lineArr_size hmk
  have hA2 : (lineArr sv marks).all (·.oneCell') = true := lineArr_one hrow.oneCell
  have hlk : (Instr.lookup 64 (.map (some p.mb)) (.int .u64 k) false).run Try.prog w = .ok (.agg (lineArr sv marks)) w := by
    rw [← hget]; exact run_lookup_u64 h.map Try.underlying64 Try.underlying48 (lineZero _) _
  have hst := store_line0 w hA1 hA2
  obtain ⟨A, hA⟩ : ∃ A, A = lineArr sv marks := ⟨_, rfl⟩
  rw [← hA] at hlk hst hA1 hA2
  have HA := Lib.hid hA; clear hA
  have HG := Lib.hid hgetM; clear hgetM
  have HM := Lib.hid hmk; clear hmk
  have HGL := Lib.hid hget; clear hget
  have hblk0 := Lib.hid hblk; clear hblk
  have hA1' := Lib.hid hA1; clear hA1
  go_enter Try.func38, Try.ntmps38
  go_upto_region 2 with fail
  clear hlk hst
  have hpu : Hid (∀ q ∈ puts, 0 ≤ q.1 ∧ q.1 / 8 < M.image.length) := Lib.hid (fun q hq => by
    cases c : get M.lines k with
    | none => have := HG.out; rw [c] at this; simp only [Option.getD_none, noLine, Line.mk.injEq] at this; rw [← this.1] at hq; cases hq
    | some l =>
      have := HG.out; rw [c] at this
      simp only [Option.getD_some] at this
      exact hp (k, l) (get_mem c) q (by rw [this]; exact hq))
  obtain ⟨W1, hW1⟩ : ∃ W1, W1 = w.alloc (.cells A 75) := ⟨_, rfl⟩
  rw [← hW1]
  have hk1 : Keeps [] w W1 := by rw [hW1]; exact Keeps.alloc w _
  have hb1 : W1.heap[w.heap.size]? = some (.cells A 75 (0, 0)) := by rw [hW1]; exact alloc_new (w := w)
  have HW1 := Lib.hid hW1; clear hW1
  obtain ⟨hh, hhh⟩ : ∃ hh, hh = w.heap.size := ⟨_, rfl⟩
  rw [← hhh] at hb1 ⊢
  have hmm : Hid (∀ m ∈ marks, 0 ≤ m ∧ m ≤ puts.length) := Lib.hid (fun m hm => by
    cases c : get M.lines k with
    | none =>
      have := HG.out; rw [c] at this; simp only [Option.getD_none, noLine, Line.mk.injEq] at this; rw [← this.2] at hm
      have := List.eq_of_mem_replicate hm
      omega
    | some l =>
      have := HG.out; rw [c] at this
      simp only [Option.getD_some] at this
      have := hmi (k, l) (get_mem c) m (by rw [this]; exact hm)
      subst l; exact this)
  have hhib := Lib.hid (show hh ≠ p.ib from fun e => by have := h.lt p.ib (by simp [Pl.foot]); omega)
  have HH := Lib.hid hhh; clear hhh
  have hlen : ∃ ao cp, sv = .slice ao puts.length cp := by
    obtain ⟨_, ⟨rfl, h2⟩ | ⟨g, off, cap, cur, rfl, _⟩⟩ := hrow
    · exact ⟨none, 0, by rw [h2]⟩
    · exact ⟨_, _, rfl⟩
  obtain ⟨ao, cp, rfl⟩ := hlen
  have q0 : W1.cell? ⟨hh, 0, none⟩ = some (.slice ao puts.length cp) := cell_of hb1 (by rw [HA.out]; exact lineArr_zero)
  go_upto_region 3 with fail
  obtain ⟨n', hn'⟩ : ∃ n', n' = min n puts.length := ⟨_, rfl⟩
  have hle : n' ≤ puts.length := by omega
  have hm : (if puts.length < n then (puts.length : Int) else (n : Int)) = (n' : Int) := by split <;> omega
  rw [hm]
  clear hm
  have HN := Lib.hid hn'; clear hn'
  have hplen : puts.length ≤ maxLen := hrow.le
  have hcp : puts.length ≤ cp ∧ cp ≤ maxLen := by
    obtain ⟨_, ⟨e, h2⟩ | ⟨g, off, cap, cur, e, _, h3, h4, _⟩⟩ := hrow
    · obtain ⟨_, h5, h6⟩ := Value.slice.inj e
      exact ⟨by omega, by unfold maxLen; omega⟩
    · obtain ⟨_, h5, h6⟩ := Value.slice.inj e
      exact ⟨by omega, by rw [h6]; exact h4⟩
  unfold maxLen at hplen hcp
  obtain ⟨hcp1, hcp2⟩ := hcp
  go_cut [25, 26, 27] (fun s25 s26 s27 wx => s25 = .slice ao n' cp ∧ s26 = .int .i64 n' ∧ s27 = .int .i64 0 ∧ W1 = wx)
  case first =>
    cases ao with
    | none =>
      have h0 : puts.length = 0 ∧ cp = 0 := by
        obtain ⟨_, ⟨e, h2⟩ | ⟨g, off, cap, cur, e, _⟩⟩ := hrow
        · obtain ⟨_, h5, h6⟩ := Value.slice.inj e
          exact ⟨h5, h6⟩
        · cases (Value.slice.inj e).1
      obtain ⟨h01, rfl⟩ := h0
      obtain rfl : n' = 0 := by omega
      go_wp2_with fail
      go_meet
      exact ⟨rfl, rfl, rfl, rfl⟩
    | some ad =>
      go_wp2_with fail
      go_meet
      exact ⟨rfl, rfl, rfl, rfl⟩
  case rest =>
    obtain ⟨rfl, rfl, rfl, rfl⟩ := hcut
    have hb1' := Lib.hid hb1; clear hb1
    have q0' := Lib.hid q0; clear q0
    have HMW : MemAt W1 b (p.view M.view.length) (p.image M.image.length) p.mb M.s0 M.s1 M.s2 M.s3 := (hk1.block b (lt_of h.blkAt) (by simp)).trans h.blkAt
    have c1 := HMW.cells.2.1
    go_wp2_with fail
    go_loopw [27] (fun s27 wr => ∃ j : Nat, j ≤ n' ∧ s27 = .int .i64 j ∧ RowAt wr 28 1 (p.image M.image.length) M.image.length ((lasts M.image (puts.take j)).map (Value.int .u64)) ∧ Keeps [p.ib] W1 wr) (fun s27 _ => n' - (intOf s27).toNat)
    case atStart => exact ⟨0, Nat.zero_le _, rfl, by rw [List.take_zero]; exact h.image.same fun g hg => hk1.block g (h.image.lt hg) (by simp), Keeps.refl _ _⟩
    case round =>
      obtain ⟨j, hj, rfl, hri, hkr⟩ := hrel
      by_cases hlt : j < n'
      · obtain ⟨q, hq⟩ : ∃ q, puts[j]? = some q := ⟨_, List.getElem?_eq_getElem (by omega)⟩
        obtain ⟨ad, rfl⟩ : ∃ ad, ao = some ad := by
          obtain ⟨_, ⟨e, h2⟩ | ⟨g, off, cap, cur, e, _⟩⟩ := hrow
          · omega
          · exact ⟨_, (Value.slice.inj e).1⟩
        obtain ⟨g, off, sp⟩ := ad
        obtain rfl : sp = none := by
          obtain ⟨_, ⟨e, h2⟩ | ⟨g, off, cap, cur, e, _⟩⟩ := hrow
          · omega
          · have := (Value.slice.inj e).1; simp at this; exact this.2.2
        have hgm : g ∈ blks p.L := (hblk0.out g rfl).1
        have hsame : wr.heap[g]? = w.heap[g]? := by
          have hlt' := hrow.lt (g := g) rfl
          rw [hkr.block g (Nat.lt_of_lt_of_le hlt' hk1.size) (by simp only [List.mem_singleton]; exact fun e => hiL (e ▸ hgm))]
          exact hk1.block g hlt' (by simp)
        have hrowr : RowAt wr 56 2 (.slice (some ⟨g, off, none⟩) puts.length cp) puts.length (flat puts) := hrow.same fun g' hg' => by cases hg'; exact hsame
        have hfl := flat_get puts j q hq
        have e0 : wr.cell? ⟨g, off + j * 2, none⟩ = some (.int .u64 q.1) := by rw [Nat.mul_comm]; exact hrowr.cell hfl.1
        have e1 : wr.cell? ⟨g, off + j * 2 + 1, none⟩ = some (.int .u64 q.2) := by rw [Nat.mul_comm, Nat.add_assoc]; exact hrowr.cell hfl.2
        have hcr1 : wr.cell? ⟨b, 1, none⟩ = some (p.image M.image.length) := by
          have : wr.heap[b]? = W1.heap[b]? := hkr.block b (lt_of HMW) (by simp; exact hbi)
          exact cell_of (this.trans HMW) rfl
        have hbn : b ≠ wr.heap.size := fun e => by
          have h1 := World.block_lt_of_cell? _ _ hcr1
          have h2 : wr.heap.size < wr.heap.size := by rw [← e] at h1 ⊢; exact h1
          omega
        go_wp2_with fail
        obtain ⟨Wr, hWr⟩ : ∃ Wr, Wr = wr.alloc (.cells #[.int .u64 q.1, .int .u64 q.2] 56) := ⟨_, rfl⟩
        rw [← hWr]
        have hkr2 : Keeps [] wr Wr := by rw [hWr]; exact Keeps.alloc wr _
        have f0 : Wr.cell? ⟨wr.heap.size, 0, none⟩ = some (.int .u64 q.1) := by rw [hWr]; exact cell_of (alloc_new (w := wr)) rfl
        have f1 : Wr.cell? ⟨wr.heap.size, 1, none⟩ = some (.int .u64 q.2) := by rw [hWr]; exact cell_of (alloc_new (w := wr)) rfl
        have d1 : Wr.cell? ⟨b, 1, none⟩ = some (.slice (some ⟨p.ib, p.ioff, none⟩) M.image.length p.icap) := by
          rw [hWr]; exact (World.cell?_alloc_lt _ _ _ (World.block_lt_of_cell? _ _ hcr1)).trans hcr1
        have hri2 : RowAt Wr 28 1 (.slice (some ⟨p.ib, p.ioff, none⟩) M.image.length p.icap) M.image.length ((lasts M.image (puts.take j)).map (Value.int .u64)) := hri.same fun g' hg' => hkr2.block g' (hri.lt hg') (by simp)
        have hpq : 0 ≤ q.1 ∧ q.1 / 8 < M.image.length := hpu.out q (List.mem_of_getElem? hq)
        obtain ⟨hq0, hq1⟩ := hpq
        obtain ⟨u, hu⟩ : ∃ u, ((lasts M.image (puts.take j)).map (Value.int .u64))[(q.1 / 8).toNat]? = some u := ⟨_, List.getElem?_eq_getElem (by simp [lasts_length]; omega)⟩
        have d3 := hri2.cell hu
        have d4 := hri2.free (p.ioff + (q.1 / 8).toNat)
        have HWr := Lib.hid hWr; clear hWr
        clear e0 e1 hcr1 hfl
        have hq8 : IntKind.u64.wrap (q.1.tdiv 8) = q.1 / 8 := by rw [Int.tdiv_eq_ediv_of_nonneg hq0]; exact IntWalk.u64_in _ (by omega)
        have hq9 : 0 ≤ q.1 / 8 := by omega
        refine wp_region_still_tail 10 (by kernel_rfl) (by kernel_rfl) ?_
        simp only [List.take_succ_cons, List.take_zero, List.drop_succ_cons, List.drop_zero]
        iterate 10 still_step
        refine wpStill_nil ?_
        go_wp2
        go_roundw
        case rel =>
          refine ⟨j + 1, by omega, by go_num, ?_, ?_⟩
          · have e1 : puts.take (j + 1) = puts.take j ++ [q] := by rw [List.take_add_one, hq]; rfl
            rw [e1, lasts_snoc, List.map_set]
            exact RowAt.set (w := Wr.drew) (hri2.same fun _ _ => rfl) _ (by simp [lasts_length]; omega) _
          · exact ((hkr.trans (hkr2.mono (G := [p.ib]) (by simp)) (fun i hi => .inl hi)).trans (((Keeps.drew Wr).mono (G := [p.ib]) (by simp)).trans (Keeps.setCell _ _ _ _) (fun i hi => .inl hi)) (fun i hi => .inl hi))
        case measure => simp [intOf]; omega
      · obtain rfl : j = n' := by omega
        have hhW : wr.heap[hh]? = W1.heap[hh]? := hkr.block hh (lt_of hb1'.out) (by simp only [List.mem_singleton]; exact hhib.out)
        have hbr : wr.heap[hh]? = some (.cells A 75 (0, 0)) := hhW.trans hb1'.out
        have q0 : wr.cell? ⟨hh, 0, none⟩ = some (.slice ao puts.length cp) := cell_of hbr (by rw [HA.out]; exact lineArr_zero)
        have f0 : wr.frozen? ⟨hh, 0, none⟩ = false := free_of hbr
        go_upto_region 8 with fail
        go_cut [7] (fun s7 wx => s7 = .pointer (some ⟨hh, 0, none⟩) ∧ ∃ sv2, wx = wr.setCell ⟨hh, 0, none⟩ sv2 ∧ RowAt wr 56 2 sv2 (puts.length - j) (flat (puts.drop j)) ∧ ∀ g, sv2.ownBlock = some g → ao.map (·.block) = some g)
        case first =>
          have hrw : RowAt wr 56 2 (.slice ao puts.length cp) puts.length (flat puts) := hrow.same fun g' hg' => by
            have hgm : g' ∈ blks p.L := (hblk0.out g' hg').1
            have hlt' := hrow.lt hg'
            rw [hkr.block g' (Nat.lt_of_lt_of_le hlt' hk1.size) (by simp only [List.mem_singleton]; exact fun e => hiL (e ▸ hgm))]
            exact hk1.block g' hlt' (by simp)
          cases ao with
          | none =>
            have h0 : puts.length = 0 ∧ cp = 0 := by
              obtain ⟨_, ⟨e, h2⟩ | ⟨g, off, cap, cur, e, _⟩⟩ := hrow
              · obtain ⟨_, h5, h6⟩ := Value.slice.inj e
                exact ⟨h5, h6⟩
              · cases (Value.slice.inj e).1
            obtain ⟨h01, rfl⟩ := h0
            obtain rfl : j = 0 := by omega
            have hp0 : puts = [] := List.eq_nil_of_length_eq_zero h01
            subst hp0
            go_wp2_with fail
            go_meet
            exact ⟨rfl, .slice none 0 0, rfl, RowAt.nil wr _ _, by simp [Value.ownBlock]⟩
          | some ad =>
            obtain ⟨g, off, sp⟩ := ad
            obtain ⟨hl0, ⟨e, _⟩ | ⟨g', off', cap', cur, e, hg, h3, h4, h5, h6⟩⟩ := hrw
            · cases (Value.slice.inj e).1
            obtain ⟨e1, e2, e3⟩ := Value.slice.inj e
            simp only [Option.some.injEq, Addr.mk.injEq] at e1
            obtain ⟨rfl, rfl, rfl⟩ := e1
            subst e3
            have hdrop : (cur.toList.drop (off + j * 2)).take ((puts.length - j) * 2) = flat (puts.drop j) := by
              rw [flat_drop, ← h6, List.drop_take, List.drop_drop, Nat.mul_comm 2 j]
              congr 1
              omega
            have hfl : (flat (puts.drop j)).length = (puts.length - j) * 2 := by rw [flat_length, List.length_drop]
            by_cases hjc : puts.length = j
            · have hz : (puts.length - j) = 0 := by omega
              have HZ := Lib.hid hz; clear hz
              subst hjc
              go_wp2_with fail
              go_meet
              refine ⟨rfl, _, rfl, ?_, fun g' hg' => hg'⟩
              rw [Nat.sub_self, List.drop_length]
              exact ⟨rfl, .inr ⟨g, off, 0, cur, rfl, hg, Nat.le_refl _, Nat.zero_le _, by omega, by simp [flat]⟩⟩
            · go_wp2_with fail
              go_meet
              refine ⟨rfl, _, rfl, ⟨hfl, .inr ⟨g, off + j * 2, puts.length - j, cur, rfl, hg, Nat.le_refl _, by unfold maxLen; omega, by omega, hdrop⟩⟩, fun g' hg' => by cases hg'; rfl⟩
        case rest =>
          obtain ⟨rfl, sv2, rfl, hrow2, hown2⟩ := hcut
          obtain ⟨wo, rfl⟩ : ∃ wo : World, wo = wr := ⟨_, rfl⟩
          obtain ⟨W3, hW3⟩ : ∃ W3, W3 = wo.setCell ⟨hh, 0, none⟩ sv2 := ⟨_, rfl⟩
          rw [← hW3]
          have hb3 : W3.heap[hh]? = some (.cells (lineArr sv2 (lowered j marks 0)) 75 (0, 0)) := by
            rw [hW3, set_same hbr, HA.out, lineArr_set, lowered_zero]
          have hk3 : Keeps [hh] wo W3 := by rw [hW3]; exact Keeps.setCell wo hh 0 _
          have HW3 := Lib.hid hW3; clear hW3
          clear q0 f0
          go_wp2_with fail
          go_loopw [53, 10] (fun s53 s10 wx => ∃ i : Nat, i ≤ 65 ∧ s53 = .int .i64 i ∧ wx.heap[hh]? = some (.cells (lineArr sv2 (lowered j marks i)) 75 (0, 0)) ∧ Keeps [hh] W3 wx) (fun s53 _ _ => 65 - (intOf s53).toNat)
          case atStart => exact ⟨0, Nat.zero_le _, rfl, hb3, Keeps.refl _ _⟩
          case round =>
            obtain ⟨i, hi, rfl, hbw, hkw⟩ := hrel
            have hM65 := HM.out
            by_cases hlt2 : i < 65
            · obtain ⟨m, hm⟩ : ∃ m, marks[i]? = some m := ⟨_, List.getElem?_eq_getElem (by omega)⟩
              have hmb := hmm.out m (List.mem_of_getElem? hm)
              obtain ⟨hm0, hm1⟩ := hmb
              have q1 : wr.cell? ⟨hh, 1 + i, none⟩ = some (.int .i64 m) := cell_of hbw (by rw [Nat.add_comm]; exact lineArr_mark (lowered_get _ _ _ hm))
              have f1 : wr.frozen? ⟨hh, 1 + i, none⟩ = false := free_of hbw
              clear hM65
              go_wp2
              go_roundw
              case rel =>
                refine ⟨i + 1, by omega, by go_num, ?_, hkw.trans (Keeps.setCell _ _ _ _) (fun i hi => .inl hi)⟩
                rw [set_same hbw, ← lowered_set _ _ _ hm]
                have hl : (if m - (j : Int) < 0 then 0 else m - (j : Int)) = lower j m := by unfold lower; split <;> omega
                rw [hl, Nat.add_comm 1 i, lineArr_setMark]
              case measure => simp [intOf]; omega
            · obtain rfl : i = 65 := by omega
              have hb5 : wr.heap[hh]? = some (.cells (lineArr sv2 (marks.map (lower j))) 75 (0, 0)) := by
                rw [hbw]; congr 2; rw [← lowered_all, hM65]
              have hk35 : Keeps [hh] wo wr := hk3.trans hkw (fun i hi => .inl hi)
              have hkW1 : Keeps [p.ib, hh] W1 wr := (hkr.mono (G := [p.ib, hh]) (by simp)).trans (hk35.mono (G := [p.ib, hh]) (by simp)) (fun i hi => .inl hi)
              have hkW : Keeps [p.ib] w wr := (hk1.mono (G := [p.ib]) (by simp)).trans hkW1 (fun i hi => by
                simp only [List.mem_cons, List.not_mem_nil, or_false] at hi
                rcases hi with rfl | rfl
                · exact .inl (by simp)
                · exact .inr (by rw [HH.out]; exact Nat.le_refl _))
              have hM5 : MemAt wr b (p.view M.view.length) (p.image M.image.length) p.mb M.s0 M.s1 M.s2 M.s3 := (hkW.block b (lt_of h.blkAt) (by simp; exact hbi)).trans h.blkAt
              have hL5 : MapIs wr p.mb p.L := h.map.same (hkW.block _ h.map.lt (by simp; exact Ne.symm him))
              have hv5 : RowAt wr 28 1 (p.view M.view.length) M.view.length (M.view.map (Value.int .u64)) := h.view.same fun g hg => by cases hg; exact hkW.block _ (h.view.lt rfl) (by simp; exact hvi)
              have hi5 : RowAt wr 28 1 (p.image M.image.length) M.image.length ((lasts M.image (puts.take j)).map (Value.int .u64)) := hri.same fun g hg => by
                cases hg
                exact hk35.block _ (hri.lt rfl) (by simp only [List.mem_singleton]; exact Ne.symm hhib.out)
              have d5 := hM5.cells.2.2.1
              have q5 : wr.cell? ⟨hh, 0, none⟩ = some sv2 := cell_of hb5 lineArr_zero
              have hlen2 : ∃ ao2 cp2, sv2 = .slice ao2 (puts.length - j) cp2 := by
                obtain ⟨_, ⟨rfl, h2⟩ | ⟨g, off, cap, cur, rfl, _⟩⟩ := hrow2
                · exact ⟨none, 0, by rw [h2]⟩
                · exact ⟨_, _, rfl⟩
              obtain ⟨ao2, cp2, rfl⟩ := hlen2
              clear hM65
              by_cases hall : puts.length ≤ j
              · have hz : puts.length - j = 0 := by omega
                rw [hz] at q5
                have HZ := Lib.hid hz; clear hz
                obtain ⟨es, clock, hdel, hm6⟩ := run_delete_u64 (P := Try.prog) (T := 64) (E := 75) hL5 Try.underlying64 Try.underlying48 k
                obtain ⟨W6, hW6⟩ : ∃ W6, W6 = putB wr p.mb (.map es clock) := ⟨_, rfl⟩
                rw [← hW6] at hdel hm6
                have HW6 := Lib.hid hW6; clear hW6
                go_wp2
                go_ret
                have hpk : M.pendK k = puts.length := by unfold Mod.pendK; rw [HG.out]
                have hmn : min n (M.pendK k) = j := by rw [hpk]; exact HN.out.symm
                refine ⟨by rw [hmn]; rfl, ?_⟩
                rw [hmn]
                have he : M.last k j = { M with image := lasts M.image (puts.take j), lines := del M.lines k } := by
                  simp only [Mod.last, HG.out, hall, if_true]
                rw [he]
                exact fin_del (M' := { M with image := lasts M.image (puts.take j), lines := del M.lines k }) h (hkW.mono (by simp)) (by simpa [lasts_length] using hM5) hv5 (by simpa [lasts_length] using hi5) rfl (Keeps.refl [] wr) HW6.out hm6
              · obtain ⟨A', hA'⟩ : ∃ A', A' = lineArr (.slice ao2 (puts.length - j) cp2) (marks.map (lower j)) := ⟨_, rfl⟩
                rw [← hA'] at hb5
                have hA66 : A'.size = 66 := by rw [hA']; exact lineArr_size (by rw [List.length_map]; exact HM.out)
                obtain ⟨es, clock, hup, hm6⟩ := run_update_u64 (P := Try.prog) (w := wr.drew) (T := 64) (E := 75) (hL5.same rfl) Try.underlying64 Try.underlying48 k (.agg A')
                have HA' := Lib.hid hA'; clear hA'
                obtain ⟨W6, hW6⟩ : ∃ W6, W6 = putB wr.drew p.mb (.map es clock) := ⟨_, rfl⟩
                rw [← hW6] at hup hm6
                have HW6 := Lib.hid hW6; clear hW6
                have hnz : 0 < puts.length - j := by omega
                have hnz2 : (((puts.length - j : Nat) : Int) == 0) = false := by simp; omega
                have hnz3 : (puts.length - j == 0) = false := by simp; omega
                go_wp2_with fail
                clear hnz2 hnz3
                refine wp_region_still_tail 6 (by kernel_rfl) (by kernel_rfl) ?_
                simp only [List.take_succ_cons, List.take_zero, List.drop_succ_cons, List.drop_zero]
                still_step
                still_step
                still_step
                still_step
                still_step
                refine wpStill_load_row rfl 75 _ rfl hh rfl 75 A' (0, 0) _ hb5 Try.underlying75 rfl (by rw [lineInfo]; exact congrArg some hA66.symm) ?_
                simp only [Act.put, List.setIfInBounds_toArray, List.set_cons_succ, List.set_cons_zero]
                refine wpStill_nil ?_
                go_wp2
                go_ret
                have hpk : M.pendK k = puts.length := by unfold Mod.pendK; rw [HG.out]
                have hmn : min n (M.pendK k) = j := by rw [hpk]; exact HN.out.symm
                refine ⟨by rw [hmn]; rfl, ?_⟩
                rw [hmn]
                have he : M.last k j = { M with image := lasts M.image (puts.take j), lines := put M.lines k ⟨puts.drop j, marks.map (lower j)⟩ } := by
                  simp only [Mod.last, HG.out, hall, if_false]
                rw [he]
                have hrow5 : RowAt wr 56 2 (.slice ao2 (puts.length - j) cp2) (puts.drop j).length (flat (puts.drop j)) := by
                  rw [List.length_drop]
                  refine hrow2.same fun g hg => hk35.block _ (hrow2.lt hg) ?_
                  simp only [List.mem_singleton]
                  intro e
                  have h1 := hown2 g hg
                  have h2 : g ∈ blks p.L := (hblk0.out g (by cases ao with
                    | none => cases h1
                    | some ad => obtain ⟨g', off, sp⟩ := ad; simpa [Value.ownBlock] using h1)).1
                  have h3 := h.lt g (by simp [Pl.foot, h2])
                  rw [e, HH.out] at h3
                  omega
                exact fin_put (svb := (Value.slice ao puts.length cp).ownBlock) (v := .agg A') (l := ⟨puts.drop j, marks.map (lower j)⟩) (M' := { M with image := lasts M.image (puts.take j), lines := put M.lines k ⟨puts.drop j, marks.map (lower j)⟩ }) h
                  (hkW.mono (fun i hi => .inl (by simp only [List.mem_singleton] at hi; simp [hi]))) (fun g hg => (hblk0.out g hg).2) (by simpa [lasts_length] using hM5) hv5 (by simpa [lasts_length] using hi5) rfl
                  ⟨_, by rw [HA'.out], by rw [List.length_map]; exact HM.out, hrow5⟩
                  (fun g hg => by
                    rw [HA'.out, blk_lineArr] at hg
                    have h1 := hown2 g hg
                    exact .inl (by cases ao with
                      | none => cases h1
                      | some ad => obtain ⟨g', off, sp⟩ := ad; simpa [Value.ownBlock] using h1))
                  (Keeps.drew wr) HW6.out hm6
end Go.Proofs.Ytfjjiohclokohaa.pm
