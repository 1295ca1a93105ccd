/-
  PROVED HERE: the reference's Within, and the law's laid: a memory behind stores, flushes and a fence, or none. Conditions: the stores are read, and fit.
-/
import Derived.Test.YtfjjiohclokohaaTTop
import Derived.Test.YtfjjiohclokohaaOf
namespace Go.Proofs.Ytfjjiohclokohaa.pm
open Go.RowKit Go.Proofs.Ytfjjiohclokohaa.tp
set_option linter.unusedVariables false
attribute [-go_sem] Builtin.append_

/-- A store's address, taken within a size. -/
def wi (size : Nat) (p : Int × Int) : Int × Int := (p.1 % (size : Int) / 8 * 8, p.2)

set_option maxRecDepth 100000 in
set_option maxHeartbeats 2000000 in
theorem within_any {w : World} {v : Value} {ps : List (Int × Int)} (h : Reads w v ps.length (flat ps)) (hp : ∀ p ∈ ps, U64 p.1 ∧ U64 p.2) (hn : ps.length ≤ 1000) (size : Nat) (h0 : 0 < size) (h1 : size ≤ 1048576) :
    Calls Try.prog 20 #[v, .int .i64 size] w fun e W' => ∃ v', e = .returned v' ∧ RowAt W' 56 2 v' ps.length (flat (ps.map (wi size))) ∧ Keeps [] w W' ∧ ∀ g, v'.ownBlock = some g → w.heap.size ≤ g := by
  obtain ⟨i0, hi0, hz0, hz1, hz2⟩ := info_parts putsInfo
  obtain ⟨ao, cp, rfl⟩ := reads_shape h
  obtain ⟨L, hL⟩ : ∃ L, L = ps.length := ⟨_, rfl⟩
  rw [← hL] at h hn ⊢
  have H := Lib.hid (And.intro h (And.intro hL hp)); clear h hL hp
  go_enter Try.func20, Try.ntmps20
  go_wp2_with fail
  go_loopw [5, 6] (fun s5 s6 wr => ∃ j : Nat, j ≤ L ∧ s6 = .int .i64 j ∧ RowAt wr 56 2 s5 j (flat ((ps.take j).map (wi size))) ∧ Keeps [] w wr ∧ ∀ g, s5.ownBlock = some g → w.heap.size ≤ g) (fun _ s6 _ => L - (intOf s6).toNat)
  case atStart => exact ⟨0, Nat.zero_le _, rfl, RowAt.nil _ _ _, Keeps.refl _ _, fun g e => by cases e⟩
  case round =>
    obtain ⟨j, hj, rfl, hrow, hk, hown⟩ := hrel
    by_cases hlt : j < L
    · obtain ⟨h, hL, hp⟩ := H.out
      obtain ⟨q, hq⟩ : ∃ q, ps[j]? = some q := ⟨_, List.getElem?_eq_getElem (by omega)⟩
      have hqb := hp q (List.mem_of_getElem? hq)
      obtain ⟨f1, f2⟩ := flat_get _ _ _ hq
      obtain ⟨b2, of2, rfl, c1⟩ := reads_cell (wr := wr) h (fun g _ hg => hk.block g hg (by simp)) f1
      obtain ⟨b3, of3, e3, c2⟩ := reads_cell (wr := wr) h (fun g _ hg => hk.block g hg (by simp)) f2
      cases e3
      rw [Nat.mul_comm] at c1
      rw [show 2 * j + 1 = j * 2 + 1 by omega, ← Nat.add_assoc] at c2
      have c1' : wr.drew.cell? ⟨b2, of2 + j * 2, none⟩ = some (.int .u64 q.1) := c1
      have c2' : wr.drew.cell? ⟨b2, of2 + j * 2 + 1, none⟩ = some (.int .u64 q.2) := c2
      have hjL : (j : Int) < (L : Int) := by omega
      have es : IntKind.u64.wrap (size : Int) = (size : Int) := IntWalk.u64_in _ (by omega)
      have es0 : ¬ ((size : Int) = 0) := by omega
      have es1 : ¬ (size = 0) := by omega
      have er : q.1.tmod (size : Int) = q.1 % (size : Int) := Int.tmod_eq_emod_of_nonneg hqb.1.1
      obtain ⟨r, hr⟩ : ∃ r, r = q.1 % (size : Int) := ⟨_, rfl⟩
      have hr0 : 0 ≤ r := by rw [hr]; exact Int.emod_nonneg _ (by omega)
      have hr1 : r < (size : Int) := by rw [hr]; exact Int.emod_lt_of_pos _ (by omega)
      rw [← hr] at er
      have er2 : r.tdiv 8 = r / 8 := Int.tdiv_eq_ediv_of_nonneg hr0
      have er3 : IntKind.u64.wrap (r / 8) = r / 8 := IntWalk.u64_in _ (by omega)
      have er4 : IntKind.u64.wrap (r / 8 * 8) = r / 8 * 8 := IntWalk.u64_in _ (by omega)
      have er5 : IntKind.u64.wrap r = r := IntWalk.u64_in _ (by omega)
      have hqw : wi size q = (r / 8 * 8, q.2) := by unfold wi; rw [← hr]
      obtain ⟨qa, qx⟩ := q
      dsimp only at *
      have HX := Lib.hid (And.intro hq (And.intro hrow (And.intro hk (And.intro hown hqw)))); clear hq hk hown hqw h hL hp f1 f2 c1 c2 hr hqb
      obtain ⟨w2, hw2⟩ : ∃ w2, w2 = wr.drew.alloc (.cells #[.int .u64 (r / 8 * 8), .int .u64 qx] 56) := ⟨_, rfl⟩
      have hk2 : Keeps [] wr w2 := by rw [hw2]; exact (Keeps.drew wr).trans (Keeps.alloc _ _) (by simp)
      obtain ⟨v', w3, hrun, hrow', hgrow, hblk', hsl⟩ := run_append_row (P := Try.prog) (w := w2) 22 22 56 i0 (.agg #[.int .u64 0, .int .u64 0]) 2 16 Try.underlying22 hi0 hz0 hz1 hz2 rfl (hrow.same fun q hq => hk2.block q (hrow.lt hq) (by simp)) (xv := .slice (some ⟨wr.heap.size, 0, none⟩) 1 1) (m := 1) (news := [.int .u64 (r / 8 * 8), .int .u64 qx])
        (.inr ⟨⟨wr.heap.size, 0, none⟩, 1, rfl, rfl, fun i u hi => by
          have hc := alloc_new (w := wr.drew) (o := .cells #[.int .u64 (r / 8 * 8), .int .u64 qx] 56)
          rw [← hw2] at hc
          match i, hi with
          | 0, hi => cases hi; exact cell_of hc rfl
          | 1, hi => cases hi; exact cell_of hc rfl⟩) rfl (by intro u hu; simp only [List.mem_cons, List.not_mem_nil, or_false] at hu; rcases hu with rfl | rfl <;> rfl) (by unfold maxLen; omega) (by omega)
      obtain ⟨g', off', cap', rfl⟩ := hsl (by omega)
      obtain ⟨ao5, cn5, cp5, rfl⟩ : ∃ ao cn cp, u5 = .slice ao cn cp := by
        rcases hrow.2 with ⟨e, _⟩ | ⟨q, off, cp, cur, e, _⟩ <;> exact ⟨_, _, _, e⟩
      have HY := Lib.hid (And.intro hrow' (And.intro hgrow (And.intro hblk' hk2))); clear hrow' hgrow hblk' hrow hk2 hsl
      have hal : wr.drew.alloc (.cells #[.int .u64 (r / 8 * 8), .int .u64 qx] 56) = w2 := hw2.symm
      clear hw2
      go_upto_region 5 with fail
      go_region
      all_goals
        go_wp2_with fail
        go_roundw
        case rel =>
          obtain ⟨hq, hrow, hk, hown, hqw⟩ := HX.out
          obtain ⟨hrow', hgrow, hblk', hk2⟩ := HY.out
          have hgo : ∃ i : Nat, i ≤ L ∧ Value.int .i64 ((j : Int) + 1) = .int .i64 i ∧ RowAt w3 56 2 (.slice (some ⟨g', off', none⟩) (j + 1) cap') i (flat ((ps.take i).map (wi size))) ∧ Keeps [] w w3 ∧ ∀ g, (Value.slice (some ⟨g', off', none⟩) (j + 1) cap').ownBlock = some g → w.heap.size ≤ g := by
            refine ⟨j + 1, by omega, by go_num, ?_, ?_, fun g hg => ?_⟩
            · rw [List.take_add_one, hq, Option.toList_some, List.map_append, flat_append, List.map_singleton, hqw]; exact hrow'
            · exact ((hk.trans hk2 (by simp)).mono (by simp)).trans (Keeps.grown hgrow) (fun i hi => .inr (hown i (by simpa using hi)))
            · rcases hblk' with h1 | ⟨g2, h1, h2⟩
              · exact hown g (by rw [← h1]; exact hg)
              · rw [h1] at hg; cases hg; have := hk.size; have := hk2.size; omega
          first | exact hgo | ((repeat apply Exists.intro); exact ⟨hgo, rfl⟩)
        case measure => simp [intOf]; omega
    · obtain rfl : j = L := by omega
      have HX := Lib.hid (And.intro hrow (And.intro hk hown)); clear hrow hk hown
      go_wp2_with fail
      go_ret
      obtain ⟨hrow, hk, hown⟩ := HX.out
      obtain ⟨h, hL, hp⟩ := H.out
      refine ⟨_, rfl, ?_, hk, hown⟩
      rw [List.take_of_length_le (by omega)] at hrow
      exact hrow

/-- A memory of n lines behind at most j stores. -/
structure Gd (j n : Nat) (M : Mod) : Prop where
  wf : WF M
  view : M.view.length = 8 * n
  lines : M.lines.length ≤ j
  puts : ∀ q ∈ M.lines, q.2.puts.length ≤ j
theorem put_get_len {α : Type} {L : List (Int × α)} {k : Int} {v : α} (h : get L k = some v) : (put L k v).length = L.length ∧ ∀ u : α, (put L k u).length = L.length := by
  have : ∀ u : α, (put L k u).length = L.length := fun u => by
    unfold put
    cases e : idx L k with
    | some i => simp
    | none =>
      unfold idx at e
      unfold pm.get at h
      rw [List.findIdx?_eq_none_iff] at e
      have : L.find? (fun p => p.1 == k) = none := by rw [List.find?_eq_none]; intro x hx; simpa using e x hx
      rw [this] at h; cases h
  exact ⟨this v, this⟩
theorem put_len {α : Type} (L : List (Int × α)) (k : Int) (v : α) : (put L k v).length ≤ L.length + 1 := by
  unfold put; split <;> simp
theorem del_len {α : Type} (L : List (Int × α)) (k : Int) : (del L k).length ≤ L.length := by
  unfold del; split
  · rw [List.length_eraseIdx]; split <;> omega
  · exact Nat.le_refl _
theorem Gd.mono {j j' n : Nat} {M : Mod} (h : Gd j n M) (hj : j ≤ j') : Gd j' n M := ⟨h.wf, h.view, Nat.le_trans h.lines hj, fun q hq => Nat.le_trans (h.puts q hq) hj⟩
theorem Gd.get {j n : Nat} {M : Mod} (h : Gd j n M) (k : Int) : ((get M.lines k).getD noLine).puts.length ≤ j := by
  cases c : pm.get M.lines k with
  | none => simp [noLine]
  | some l => exact h.puts (k, l) (get_mem c)
theorem Gd.store {j n : Nat} {M : Mod} (h : Gd j n M) {a x : Int} (h0 : 0 ≤ a) (h1 : a / 8 < M.view.length) (hx : U64 x) : Gd (j + 1) n (M.store a x) := by
  refine ⟨h.wf.store h0 h1 hx, by simp [Mod.store, h.view], ?_, fun q hq => ?_⟩
  · have h2 := h.lines
    exact Nat.le_trans (put_len _ _ _) (by omega)
  · simp only [Mod.store] at hq
    rcases mem_put hq with h2 | rfl
    · have := h.puts q h2; omega
    · have := h.get (a - a % 64)
      simp only [List.length_append, List.length_singleton]; omega
theorem Gd.flush {j n : Nat} {M : Mod} (h : Gd j n M) {c : Nat} {a : Int} : Gd j n (M.flush c a) := by
  refine ⟨h.wf.flush, h.view, ?_, fun q hq => ?_⟩
  · unfold Mod.flush
    cases e : pm.get M.lines (a - a % 64) with
    | none => exact h.lines
    | some l => dsimp only; rw [(put_get_len e).2]; exact h.lines
  · unfold Mod.flush at hq
    cases e : pm.get M.lines (a - a % 64) with
    | none => rw [e] at hq; exact h.puts q hq
    | some l =>
      rw [e] at hq
      rcases mem_put hq with h2 | rfl
      · exact h.puts q h2
      · have := h.puts _ (get_mem e); exact this
theorem Gd.last {j n : Nat} {M : Mod} (h : Gd j n M) {k : Int} {c : Nat} : Gd j n (M.last k c) := by
  refine ⟨h.wf.last, h.view, ?_, fun q hq => ?_⟩
  · unfold Mod.last
    dsimp only
    split
    · exact Nat.le_trans (del_len _ _) h.lines
    · rename_i hb
      cases e : pm.get M.lines k with
      | none => rw [e] at hb; simp [noLine] at hb
      | some l => rw [(put_get_len e).2]; exact h.lines
  · unfold Mod.last at hq
    dsimp only at hq
    split at hq
    · exact h.puts q (mem_del hq)
    · rcases mem_put hq with h2 | rfl
      · exact h.puts q h2
      · have := h.get k
        simp only [List.length_drop]; omega
theorem Gd.fences {j n c : Nat} : ∀ (qs : List (Int × Line)) {M : Mod}, Gd j n M → Gd j n (M.fences c qs)
  | [], _, h => h
  | _ :: qs, _, h => Gd.fences qs (h.last)
theorem Gd.s3 {j n : Nat} {M : Mod} (h : Gd j n M) (x : Int) : Gd j n { M with s3 := x } := ⟨⟨h.wf.len, h.wf.pos, h.wf.small, h.wf.lines, h.wf.view, h.wf.image⟩, h.view, h.lines, h.puts⟩
theorem Gd.zero {n : Nat} (h0 : 0 < n) (h1 : n ≤ 16) : Gd 0 n (Mod.zero (8 * n)) := by
  have hz : ∀ x ∈ List.replicate (8 * n) (0 : Int), U64 x := fun x hx => by rw [List.eq_of_mem_replicate hx]; exact ⟨by omega, by omega⟩
  exact ⟨⟨by simp [Mod.zero], by simp [Mod.zero]; omega, by simp [Mod.zero]; omega, fun q hq => by simp [Mod.zero] at hq, hz, hz⟩, by simp [Mod.zero], by simp [Mod.zero], fun q hq => by simp [Mod.zero] at hq⟩

/-- What laid leaves. -/
def LaidPost (w : World) (n : Int) (e : Ending) (W' : World) : Prop :=
  Keeps [] w W' ∧ (e = .returned (.pointer none) ∨ ∃ b p M, e = .returned (.pointer (some ⟨b, 0, none⟩)) ∧ 1 ≤ n ∧ n ≤ 16 ∧ IsMem W' b p M ∧ Gd 40 n.toNat M ∧ ∀ i ∈ p.foot b, w.heap.size ≤ i)

set_option maxRecDepth 100000 in
set_option maxHeartbeats 4000000 in
theorem laid_any {w : World} (n : Int) (hnb : -9223372036854775808 ≤ n ∧ n ≤ 9223372036854775807) {v : Value} {ps : List (Int × Int)} (h : Reads w v ps.length (flat ps)) (hp : ∀ p ∈ ps, U64 p.1 ∧ U64 p.2) (hlen : ps.length ≤ 9223372036854775807) (at_ : Int) :
    Calls Try.prog 5 #[.int .i64 n, v, .int .i64 at_] w (LaidPost w n) := by
  obtain ⟨ao, cp, rfl⟩ := reads_shape h
  by_cases hbad : n < 1 ∨ 16 < n ∨ 40 < ps.length
  · have HP := Lib.hid hp; clear hp
    have H := Lib.hid h; clear h
    go_enter Try.func5, Try.ntmps5
    by_cases h1 : n < 1
    · clear hbad
      go_wp2_with fail
      go_ret
      exact ⟨Keeps.refl _ _, .inl rfl⟩
    · have h1' : 1 ≤ n := by omega
      clear h1
      by_cases h2 : 16 < n
      · clear hbad
        go_wp2_with fail
        go_ret
        exact ⟨Keeps.refl _ _, .inl rfl⟩
      · have h2' : n ≤ 16 := by omega
        have h3 : 40 < ps.length := by omega
        have h3' : (40 : Int) < (ps.length : Int) := by omega
        clear h2 hbad
        go_wp2_with fail
        go_ret
        exact ⟨Keeps.refl _ _, .inl rfl⟩
  · obtain ⟨m, rfl⟩ : ∃ m : Nat, n = (m : Int) := ⟨n.toNat, by omega⟩
    have hm1 : 1 ≤ m := by omega
    have hm2 : m ≤ 16 := by omega
    have hl : ps.length ≤ 40 := by omega
    have i1 : (1 : Int) ≤ (m : Int) := by omega
    have i2 : (m : Int) ≤ 16 := by omega
    have i3 : ((ps.length : Nat) : Int) ≤ 40 := by omega
    clear hbad hnb
    have HN : Hid (Calls Try.prog 19 #[.int .i64 (64 * (m : Int))] w fun e W' => ∃ b p, e = .returned (.tuple #[.pointer (some ⟨b, 0, none⟩), .int .i64 0]) ∧ IsMem W' b p (Mod.zero (8 * m)) ∧ Keeps [] w W' ∧ ∀ i ∈ p.foot b, w.heap.size ≤ i) := Lib.hid (by
      have := new_any w (8 * m) (by omega) (by omega) (by omega)
      rwa [show (8 * ((8 * m : Nat) : Int)) = 64 * (m : Int) by omega] at this)
    have e1 : IntKind.i64.wrap (64 * (m : Int)) = 64 * (m : Int) := IntWalk.i64_in _ (by omega)
    have H := Lib.hid (And.intro h hp); clear h hp
    obtain ⟨L, hL⟩ : ∃ L, L = ps.length := ⟨_, rfl⟩
    rw [← hL] at hl i3 H ⊢
    have HL := Lib.hid hL; clear hL
    go_enter Try.func5, Try.ntmps5
    go_wp2_with fail
    refine HN.out.mono ?_
    rintro e w1 ⟨b, p, rfl, hI, hk1, hf1⟩
    have H1 := Lib.hid (And.intro hI (And.intro hk1 hf1))
    have HW : Hid (Calls Try.prog 20 #[.slice ao L cp, .int .i64 (64 * (m : Int))] w1 fun e W' => ∃ v', e = .returned v' ∧ RowAt W' 56 2 v' L (flat (ps.map (wi (64 * m)))) ∧ Keeps [] w1 W' ∧ ∀ g, v'.ownBlock = some g → w1.heap.size ≤ g) := Lib.hid (by
      have hr : Reads w1 (.slice ao ps.length cp) ps.length (flat ps) := by rw [← HL.out]; exact H.out.1.keeps hk1 (by simp)
      have := within_any hr H.out.2 (by have := HL.out; omega) (64 * m) (by omega) (by omega)
      rw [← HL.out] at this
      rwa [show ((64 * m : Nat) : Int) = 64 * (m : Int) by omega] at this)
    clear hI hk1 hf1
    go_wp2_with fail
    refine HW.out.mono ?_
    rintro e w2 ⟨v2, rfl, hr2, hk2, hg2⟩
    obtain ⟨ao2, cp2, rfl⟩ := reads_shape hr2.reads
    obtain ⟨qs, hqs⟩ : ∃ qs, qs = ps.map (wi (64 * m)) := ⟨_, rfl⟩
    rw [← hqs] at hr2
    have hql : qs.length = L := by rw [hqs, List.length_map, HL.out]
    have hqb : ∀ q ∈ qs, 0 ≤ q.1 ∧ q.1 / 8 < ((8 * m : Nat) : Int) ∧ q.1 % 8 = 0 ∧ U64 q.2 := fun q hq => by
      rw [hqs] at hq
      obtain ⟨p0, hp0, rfl⟩ := List.mem_map.1 hq
      have hb := H.out.2 p0 hp0
      have h1 : 0 ≤ p0.1 % ((64 * m : Nat) : Int) := Int.emod_nonneg _ (by omega)
      have h2 : p0.1 % ((64 * m : Nat) : Int) < ((64 * m : Nat) : Int) := Int.emod_lt_of_pos _ (by omega)
      refine ⟨?_, ?_, ?_, hb.2⟩ <;> simp only [wi] <;> omega
    have H2 := Lib.hid (And.intro hr2 (And.intro hk2 (And.intro hg2 (And.intro hql hqb)))); clear hr2 hk2 hg2 hql hqb hqs
    go_wp2_with fail
    go_loopw [9] (fun s9 wr => ∃ (j : Nat) (p' : Pl) (M : Mod), j ≤ L ∧ s9 = .int .i64 j ∧ IsMem wr b p' M ∧ Gd j m M ∧ Keeps (p.foot b) w2 wr ∧ ∀ i ∈ p'.foot b, i ∈ p.foot b ∨ w2.heap.size ≤ i) (fun s9 _ => L - (intOf s9).toNat)
    case atStart =>
      obtain ⟨hI, hk1, hf1⟩ := H1.out
      exact ⟨0, p, _, Nat.zero_le _, rfl, hI.keeps H2.out.2.1 (by simp), Gd.zero (by omega) hm2, Keeps.refl _ _, fun i hi => .inl hi⟩
    case round =>
      obtain ⟨j, p', M, hj, rfl, hI, hG, hk, hf⟩ := hrel
      by_cases hlt : j < L
      · obtain ⟨hr2, hk2, hg2, hql, hqb⟩ := H2.out
        obtain ⟨hI1, hk1, hf1⟩ := H1.out
        obtain ⟨q, hq⟩ : ∃ q, qs[j]? = some q := ⟨_, List.getElem?_eq_getElem (by omega)⟩
        obtain ⟨q0, q1, q2, q3⟩ := hqb q (List.mem_of_getElem? hq)
        obtain ⟨f1, f2⟩ := flat_get _ _ _ hq
        have hkp : ∀ g, (Value.slice ao2 L cp2).ownBlock = some g → g < w2.heap.size → wr.heap[g]? = w2.heap[g]? := fun g hg hlt2 => hk.block g hlt2 (fun hi => by
          have := hg2 g hg
          have := hI1.lt g hi
          omega)
        obtain ⟨b2, of2, rfl, c1⟩ := reads_cell (wr := wr) hr2.reads hkp f1
        obtain ⟨b3, of3, e3, c2⟩ := reads_cell (wr := wr) hr2.reads hkp f2
        cases e3
        rw [Nat.mul_comm] at c1
        rw [show 2 * j + 1 = j * 2 + 1 by omega, ← Nat.add_assoc] at c2
        have c1' : wr.drew.cell? ⟨b2, of2 + j * 2, none⟩ = some (.int .u64 q.1) := c1
        have c2' : wr.drew.cell? ⟨b2, of2 + j * 2 + 1, none⟩ = some (.int .u64 q.2) := c2
        have hjL : (j : Int) < (L : Int) := by omega
        have hvl := hG.view
        have hst := store_any (w := wr.drew) (hI.keeps (Keeps.drew wr) (by simp)) hG.wf.pos hG.wf.small q.1 q.2 q0 (by rw [hvl]; omega) q2 (by have := hG.get (q.1 - q.1 % 64); omega)
        have HS := Lib.hid hst; clear hst
        have hG2 : Gd (j + 1) m (M.store q.1 q.2) := hG.store q0 (by rw [hvl]; omega) q3
        obtain ⟨qa, qx⟩ := q
        dsimp only at *
        have HX := Lib.hid (And.intro hI (And.intro hG2 (And.intro hk hf))); clear hI hG hG2 hk hf hvl hr2 hk2 hg2 hql hqb hI1 hk1 hf1 hq q0 q1 q2 q3 f1 f2 c1 c2 hkp
        go_wp2_with fail
        refine wp_region_still_tail 11 (by kernel_rfl) (by decide +kernel) ?_
        simp only [List.take_succ_cons, List.take_zero, List.drop_succ_cons, List.drop_zero]
        refine wpStill_hide (fun KK hKK => ?_)
        iterate 11 still_step
        refine wpStill_nil (hKK _ ?_)
        clear hKK KK
        go_wp2_with fail
        refine HS.out.mono ?_
        rintro e w4 ⟨rfl, p4, hI4, hk4, hf4⟩
        obtain ⟨hI, hG2, hk, hf⟩ := HX.out
        obtain ⟨M4, hM4⟩ : ∃ M4, M4 = M.store qa qx := ⟨_, rfl⟩
        rw [← hM4] at hI4 hG2
        have hk5 : Keeps (p.foot b) w2 w4 := (hk.trans ((Keeps.drew wr).mono (G := p.foot b) (by simp)) (fun i hi => .inl hi)).trans hk4 (fun i hi => by
          rcases hf i hi with h | h
          · exact .inl h
          · exact .inr h)
        have hf5 : ∀ i ∈ p4.foot b, i ∈ p.foot b ∨ w2.heap.size ≤ i := fun i hi => by
          rcases hf4 i hi with h | h
          · exact hf i h
          · exact .inr (Nat.le_trans hk.size h)
        have HY := Lib.hid (And.intro hI4 (And.intro hG2 (And.intro hk5 hf5))); clear hI hG2 hk hf hI4 hk4 hf4 hk5 hf5 hM4
        by_cases hat : (j : Int) = at_
        · subst hat
          go_wp2_with fail
          go_loopw [10] (fun s10 wq => ∃ (i : Nat) (p5 : Pl) (M5 : Mod), i ≤ m ∧ s10 = .int .i64 i ∧ IsMem wq b p5 M5 ∧ Gd (j + 1) m M5 ∧ Keeps (p.foot b) w2 wq ∧ ∀ i ∈ p5.foot b, i ∈ p.foot b ∨ w2.heap.size ≤ i) (fun s10 _ => m - (intOf s10).toNat)
          case atStart =>
            obtain ⟨hI, hG, hk, hf⟩ := HY.out
            exact ⟨0, p4, M4, Nat.zero_le _, rfl, hI, hG, hk, hf⟩
          case round =>
            obtain ⟨i, p5, M5, hi, rfl, hI, hG, hk, hf⟩ := hrel
            by_cases hlt2 : i < m
            · have hvl := hG.view
              have hfl := flush_any hI hG.wf.pos hG.wf.small 0 (by omega) (64 * (i : Int)) (by omega) (by rw [hvl]; omega) (by omega)
              have e7 : IntKind.i64.wrap (64 * (i : Int)) = 64 * (i : Int) := IntWalk.i64_in _ (by omega)
              have e8 : IntKind.u64.wrap (64 * (i : Int)) = 64 * (i : Int) := IntWalk.u64_in _ (by omega)
              have him : (i : Int) < (m : Int) := by omega
              have HF := Lib.hid hfl; clear hfl
              have HZ := Lib.hid (And.intro hI (And.intro hG (And.intro hk hf))); clear hI hG hk hf hvl
              go_wp2_with fail
              refine HF.out.mono ?_
              rintro e w6 ⟨rfl, p6, hI6, hk6, hf6⟩
              have HV := Lib.hid (And.intro hI6 (And.intro hk6 hf6)); clear hI6 hk6 hf6
              go_wp2_with fail
              go_roundw
              case rel =>
                obtain ⟨hI, hG, hk, hf⟩ := HZ.out
                obtain ⟨hI6, hk6, hf6⟩ := HV.out
                have hgo : ∃ (q : Nat) (p5 : Pl) (M5 : Mod), q ≤ m ∧ Value.int .i64 ((i : Int) + 1) = .int .i64 q ∧ IsMem w6 b p5 M5 ∧ Gd (j + 1) m M5 ∧ Keeps (p.foot b) w2 w6 ∧ ∀ i ∈ p5.foot b, i ∈ p.foot b ∨ w2.heap.size ≤ i :=
                  ⟨i + 1, p6, _, by omega, by go_num, hI6, hG.flush, hk.trans hk6 (fun i hi => hf i hi), fun i hi => by
                    rcases hf6 i hi with h | h
                    · exact hf i h
                    · exact .inr (Nat.le_trans hk.size h)⟩
                first | exact hgo | ((repeat apply Exists.intro); exact ⟨hgo, rfl⟩)
              case measure => simp [intOf]; omega
            · obtain rfl : i = m := by omega
              have hfe := fence_any hI hG.wf 0 (by omega) (fun q hq => by have := hG.puts q hq; omega)
              have HF := Lib.hid hfe; clear hfe
              have HZ := Lib.hid (And.intro hI (And.intro hG (And.intro hk hf))); clear hI hG hk hf
              go_wp2_with fail
              refine HF.out.mono ?_
              rintro e w6 ⟨rfl, qs6, p6, _, hI6, hk6, hf6⟩
              have HV := Lib.hid (And.intro hI6 (And.intro hk6 hf6)); clear hI6 hk6 hf6
              go_wp2_with fail
              go_roundw
              case rel =>
                obtain ⟨hI, hG, hk, hf⟩ := HZ.out
                obtain ⟨hI6, hk6, hf6⟩ := HV.out
                have hgo : ∃ (q : Nat) (p5 : Pl) (M5 : Mod), q ≤ L ∧ Value.int .i64 ((j : Int) + 1) = .int .i64 q ∧ IsMem w6 b p5 M5 ∧ Gd q i M5 ∧ Keeps (p.foot b) w2 w6 ∧ ∀ i ∈ p5.foot b, i ∈ p.foot b ∨ w2.heap.size ≤ i :=
                  ⟨j + 1, p6, _, by omega, by go_num, hI6, (hG.s3 _).fences qs6, hk.trans hk6 (fun i hi => hf i hi), fun i hi => by
                    rcases hf6 i hi with h | h
                    · exact hf i h
                    · exact .inr (Nat.le_trans hk.size h)⟩
                first | exact hgo | ((repeat apply Exists.intro); exact ⟨hgo, rfl⟩)
              case measure => simp [intOf]; omega
        · have hne : (((j : Int) == at_) = false) := by simp [hat]
          have HA := Lib.hid hat; clear hat
          go_wp2_with fail
          go_roundw
          case rel =>
            obtain ⟨hI, hG, hk, hf⟩ := HY.out
            have hgo : ∃ (q : Nat) (p5 : Pl) (M5 : Mod), q ≤ L ∧ Value.int .i64 ((j : Int) + 1) = .int .i64 q ∧ IsMem w4 b p5 M5 ∧ Gd q m M5 ∧ Keeps (p.foot b) w2 w4 ∧ ∀ i ∈ p5.foot b, i ∈ p.foot b ∨ w2.heap.size ≤ i := ⟨j + 1, p4, M4, by omega, by go_num, hI, hG, hk, hf⟩
            first | exact hgo | ((repeat apply Exists.intro); exact ⟨hgo, rfl⟩)
          case measure => simp [intOf]; omega
      · obtain rfl : j = L := by omega
        have HX := Lib.hid (And.intro hI (And.intro hG (And.intro hk hf))); clear hI hG hk hf
        go_wp2_with fail
        go_ret
        obtain ⟨hI, hG, hk, hf⟩ := HX.out
        obtain ⟨hI1, hk1, hf1⟩ := H1.out
        obtain ⟨hr2, hk2, hg2, _⟩ := H2.out
        have hk12 : Keeps [] w w2 := hk1.trans hk2 (by simp)
        have hfo : ∀ i ∈ p'.foot b, w.heap.size ≤ i := fun i hi => by
          rcases hf i hi with h | h
          · exact hf1 i h
          · have := hk12.size; omega
        exact ⟨(hk12.mono (by simp)).trans hk (fun i hi => .inr (hf1 i hi)), .inr ⟨b, p', M, rfl, i1, i2, hI, by rw [Int.toNat_natCast]; exact hG.mono hl, hfo⟩⟩
end Go.Proofs.Ytfjjiohclokohaa.pm
