/-
  PROVED HERE: pmem.Of: a memory of bytes; pmem.New: one of zeros. Conditions: 64 bytes or more, whole lines, at most 2^20.
-/
import Derived.Test.YtdbbbaallalhoaaGreatSpNew
import Derived.RegionIn
import Derived.Stop.RegionWithIn
import Derived.LoopNIn
namespace Go.Proofs.YtdbbbaallalhoaaGreat.pm
open Go.RowKit Go.Shelf Go.Proofs.YtdbbbaallalhoaaGreat.rn
set_option linter.unusedVariables false
attribute [local go_sem] Oper.semAt_some
attribute [-go_sem] Builtin.append_

theorem grownBy_set1 (w : World) (b i : Nat) (v : Value) : w.grownBy (w.setCell ⟨b, i, none⟩ v) (some b) :=
  ⟨rfl, rfl, rfl, by simp [World.setCell], fun k _ hk => set_other (fun e => hk (by rw [e]))⟩
theorem empty_ents : Ents (#[] : Array MapEntry).toList [] := by simp [Ents]
theorem MemAt.keeps {w w' : World} {b mb : Nat} {vs is : Value} {s0 s1 s2 s3 : Int} (h : MemAt w b vs is mb s0 s1 s2 s3) (hk : Keeps [] w w') (_ : True) : MemAt w' b vs is mb s0 s1 s2 s3 := (hk.block b (lt_of h) (by simp)).trans h
/-- What holds between two rounds of Of. -/
def OfI (w : World) (N : Nat) (bs : List Int) (nb : Option Nat) (pre : List Nat) (W : World) : Prop :=
  ∃ v, MemAt W (N + 1) (.slice none 0 0) v N 0 0 0 0 ∧ Boxed W (N + 1 + 1) 46 (.pointer (some ⟨N + 1, 0, none⟩)) ∧ MapIs W N [] ∧ RowAt W 26 1 v pre.length ((wordsOf bs pre.length).map (Value.int .u64)) ∧ (∀ k, nb = some k → v.ownBlock ≠ some k) ∧ (∀ g, v.ownBlock = some g → N + 5 ≤ g) ∧ Keeps [] w W ∧ N + 5 ≤ W.heap.size ∧ pre = List.range pre.length
theorem ofI_abd {w : World} {N B : Nat} {bs : List Int} (hN : N = w.heap.size) (hB : B = N + 5) : AbdX B (OfI w N bs) := by
  rintro nb s W W' row hnb ⟨v, h1, h2, h3, h4, hne, hvn, hk, hsz, hpre⟩ hg hr
  have hn : ∀ k, k < B → nb ≠ some k := fun k hk e => by have := hnb k e; omega
  refine ⟨v, abd_same hg hr h1 (.inl rfl) (hn _ (by omega)), abd_same hg hr h2 (.inl rfl) (hn _ (by omega)), h3.same ?_, h4.same fun q hq => ?_, hne, hvn, ?_, Nat.le_trans hsz hg.size, hpre⟩
  · obtain ⟨es, clock, hb, _⟩ := h3
    exact (abd_same hg hr hb (.inr rfl) (hn _ (by omega))).trans hb.symm
  · rcases h4.2 with ⟨e, _⟩ | ⟨q', off, cp, cur, e, hb, _⟩
    · rw [e] at hq; cases hq
    · rw [e] at hq; cases hq
      exact (abd_same hg hr hb (.inl rfl) (fun e2 => hne _ e2 (by rw [e]; rfl))).trans hb.symm
  · exact hk.trans (Keeps.grown hg) (fun i hi => by
      cases row with
      | none => simp at hi
      | some r =>
        simp only [Option.toList_some, List.mem_singleton] at hi
        subst hi
        rcases hr i rfl with ⟨h, _⟩ | ⟨h, _⟩
        · have := hnb i h; exact .inr (by omega)
        · exact .inr (by omega))

theorem of_end {w W w3 W4 W6 : World} {N D g1 o1 cc1 ib io ic : Nat} {ws : List Int} (hv1 : MemAt W (N + 1) (.slice none 0 0) (.slice (some ⟨ib, io, none⟩) ws.length ic) N 0 0 0 0) (hm : MapIs W N []) (hr : RowAt W 26 1 (.slice (some ⟨ib, io, none⟩) ws.length ic) ws.length (ws.map (Value.int .u64)))
    (hib : N + 5 ≤ ib) (K1 : Keeps [] W w3) (hW4 : W4 = w3.setCell ⟨N + 1, 0, none⟩ (.slice (some ⟨g1, o1, none⟩) ws.length cc1)) (r1 : RowAt w3 26 1 (.slice (some ⟨g1, o1, none⟩) ws.length cc1) ws.length (ws.map (Value.int .u64))) (hg1 : W.heap.size ≤ g1)
    (hD : W.heap[D]? = some (.deferred (some []))) (hDN : N + 5 ≤ D) (hW6 : W6 = W4.putObj D (.deferred none)) (hk : Keeps [] w W) (hN : N = w.heap.size) (hsz : N + 5 ≤ W.heap.size) :
    W4.heap[D]? = some (.deferred (some [])) ∧ ∃ p, IsMem W6 (N + 1) p ⟨ws, ws, [], 0, 0, 0, 0⟩ ∧ Keeps [] w W6 ∧ ∀ i ∈ p.foot (N + 1), w.heap.size ≤ i := by
  have hDl : D < W.heap.size := lt_of hD
  have K4 : Keeps [N + 1] w3 W4 := by rw [hW4]; exact Keeps.setCell w3 _ 0 _
  have K6 : Keeps [D] W4 W6 := by rw [hW6]; exact Keeps.putObj W4 _ _
  have s1 := K1.size
  have s4 := K4.size
  have s6 := K6.size
  have old : ∀ i, i < w3.heap.size → i ≠ N + 1 → i ≠ D → W6.heap[i]? = w3.heap[i]? := fun i h1 h2 h4 => by
    rw [K6.block i (by omega) (by simp [h4]), K4.block i h1 (by simp [h2])]
  have hDb : D ≠ N + 1 := by omega
  have hD5 : W4.heap[D]? = some (.deferred (some [])) := by
    rw [K4.block D (by omega) (by simp [hDb]), K1.block D hDl (by simp)]; exact hD
  have hg3 := r1.lt (g := g1) rfl
  have hi3 := hr.lt (g := ib) rfl
  have hiD : ib ≠ D := fun e => by
    rcases hr.2 with ⟨e2, _⟩ | ⟨q, off, cp, cur, e2, hb, _⟩
    · cases e2
    · cases e2; rw [e, hD] at hb; cases hb
  have hv3 : MemAt w3 (N + 1) _ _ N 0 0 0 0 := hv1.keeps K1 trivial
  refine ⟨hD5, { vb := g1, voff := o1, vcap := cc1, ib := ib, ioff := io, icap := ic, mb := N, L := [] }, ⟨?_, ?_, ?_, ?_, ?_, ?_, by simp [Uniq]⟩, ?_, ?_⟩
  · have h4 : MemAt W4 (N + 1) (.slice (some ⟨g1, o1, none⟩) ws.length cc1) (.slice (some ⟨ib, io, none⟩) ws.length ic) N 0 0 0 0 := by rw [hW4]; exact set_same hv3
    exact (K6.block _ (lt_of h4) (by simp [Ne.symm hDb])).trans h4
  · exact r1.same fun g hg => by cases hg; exact old g1 hg3 (by omega) (by omega)
  · exact hr.same fun g hg => by cases hg; exact (old ib (by omega) (by omega) hiD).trans (K1.block ib hi3 (by simp))
  · exact hm.same ((old N (by omega) (by omega) (by omega)).trans (K1.block N (by omega) (by simp)))
  · exact ⟨rfl, fun i k v h => by simp at h⟩
  · simp only [Pl.foot, blks, List.filterMap_nil, List.nodup_cons, List.mem_cons, List.not_mem_nil, or_false, not_or, List.nodup_nil, and_true, not_false_eq_true]
    exact ⟨⟨by omega, by omega, by omega⟩, ⟨by omega, by omega⟩, by omega⟩
  · exact ⟨by have := hk.size; omega, fun i hi _ => (old i (by have := hk.size; omega) (by omega) (by omega)).trans ((K1.block i (by have := hk.size; omega) (by simp)).trans (hk.block i hi (by simp))), by rw [K6.os, K4.os, K1.os, hk.os], by rw [K6.tape, K4.tape, K1.tape, hk.tape], by rw [K6.output, K4.output, K1.output, hk.output]⟩
  · intro i hi
    simp only [Pl.foot, blks, List.filterMap_nil, List.mem_cons, List.not_mem_nil, or_false] at hi
    rcases hi with rfl | rfl | rfl | rfl <;> (have := hk.size; omega)

set_option maxRecDepth 100000 in
set_option maxHeartbeats 4000000 in
theorem of_in (n : Nat) (hn : 5 ≤ n) {w : World} {g off cap m : Nat} {bs : List Int} (hrow : RowAt w 5 1 (.slice (some ⟨g, off, none⟩) (8 * m) cap) (8 * m) (bs.map (Value.int .u8))) (hb : ∀ b ∈ bs, Byte b) (h0 : 8 ≤ m) (h1 : m ≤ 131072) (h2 : m % 8 = 0) (hcap : 8 * m ≤ cap) (hcap2 : cap ≤ maxLen) :
    CallsIn Fence.wide n Tryz.prog 16 #[.slice (some ⟨g, off, none⟩) (8 * m) cap] w fun e W' => ∃ b p, e = .returned (.tuple #[.pointer (some ⟨b, 0, none⟩), .int .i64 0]) ∧ IsMem W' b p ⟨wordsOf bs m, wordsOf bs m, [], 0, 0, 0, 0⟩ ∧ Keeps [] w W' ∧ ∀ i ∈ p.foot b, w.heap.size ≤ i := by
  have h11 : 1 ≤ n := by omega
  refine callsIn_of_wp_marks Tryz.func16 rfl trivial ?_ rfl
  simp only [Tryz.ntmps16, List.size_toArray, List.length_cons, List.length_nil, Nat.reduceAdd, Nat.reduceSub, Array.replicate_succ, Array.replicate_zero, List.push_toArray, List.append_toArray, List.nil_append, List.cons_append]
  have hmay := callsIn_wide (n := n - 1) |>.2 (may_yes ((8 * m : Nat) : Int) w (by omega) (by omega) (by omega))
  have HR := Lib.hid hrow; clear hrow
  gi_wp2
  refine ⟨trivial, hmay.mono ?_⟩
  rintro e w' ⟨rfl, rfl⟩
  clear hmay
  have hmm := @run_makeMap Tryz.prog
  obtain ⟨N, hN⟩ : ∃ N, N = w.heap.size := ⟨_, rfl⟩
  gi_wp2
  obtain ⟨W0, hW0⟩ : ∃ W0, W0 = (((w.alloc (.map #[] 0)).alloc (.cells #[.slice none 0 0, .slice none 0 0, .map (some w.heap.size), .int .u64 0, .int .u64 0, .int .u64 0, .int .u64 0] 100)).alloc (.cells #[.pointer (some ⟨w.heap.size + 1, 0, none⟩)] 46)) := ⟨_, rfl⟩
  have hs0 : W0.heap.size = N + 3 := by rw [hW0, hN]; simp
  have hk0 : Keeps [] w W0 := by rw [hW0]; exact ((Keeps.alloc w _).trans (Keeps.alloc _ _) (by simp)).trans (Keeps.alloc _ _) (by simp)
  have hm0 : MapIs W0 N [] := by
    have : W0.heap[N]? = some (.map #[] 0) := by rw [hW0, hN]; exact alloc_old (alloc_old alloc_new)
    exact ⟨#[], 0, this, empty_ents, by simp, by simp⟩
  have hb0 : MemAt W0 (N + 1) (.slice none 0 0) (.slice none 0 0) N 0 0 0 0 := by
    rw [hW0, hN]
    have := alloc_old (o := .cells #[.pointer (some ⟨w.heap.size + 1, 0, none⟩)] 46) (alloc_new (w := w.alloc (.map #[] 0)) (o := .cells #[.slice none 0 0, .slice none 0 0, .map (some w.heap.size), .int .u64 0, .int .u64 0, .int .u64 0, .int .u64 0] 100))
    rwa [World.size_alloc] at this
  have hp0 : Boxed W0 (N + 1 + 1) 46 (.pointer (some ⟨N + 1, 0, none⟩)) := by
    rw [hW0, hN]
    have := alloc_new (w := (w.alloc (.map #[] 0)).alloc (.cells #[.slice none 0 0, .slice none 0 0, .map (some w.heap.size), .int .u64 0, .int .u64 0, .int .u64 0, .int .u64 0] 100)) (o := .cells #[.pointer (some ⟨w.heap.size + 1, 0, none⟩)] 46)
    rwa [World.size_alloc, World.size_alloc] at this
  rw [← hW0, ← hN]
  have HN := Lib.hid hN; clear hN hW0
  refine ⟨trivial, (callsIn_wide.2 (chunk_any _ ⟨_, _, _, rfl⟩ W0)).mono ?_⟩
  rintro e W1 ⟨rfl, hW1⟩
  rw [hs0]
  have hk1 : Keeps [] W0 W1 := by rw [hW1]; exact (Keeps.alloc W0 _).trans (Keeps.alloc _ _) (by simp)
  have hs1 : W1.heap.size = N + 5 := by rw [hW1]; simp [hs0]
  have q1 : W1.cell? ⟨N + 3, 0, none⟩ = some (.slice (some ⟨g, off, none⟩) (8 * m) cap) := by
    rw [hW1, ← hs0]; exact cell_of (alloc_old alloc_new) rfl
  have q2 : W1.cell? ⟨N + 3 + 1, 0, none⟩ = some (.int .i64 8) := by
    rw [hW1, ← hs0]
    have := cell_of (w := (W0.alloc (.cells #[.slice (some ⟨g, off, none⟩) (8 * m) cap] 33)).alloc (.cells #[.int .i64 8] 3)) (i := 0) alloc_new rfl
    rwa [World.size_alloc] at this
  clear hW1 hmm
  have HH := Lib.hid (And.intro hk0 (And.intro hm0 (And.intro hb0 (And.intro hp0 (And.intro hk1 (And.intro q1 (And.intro q2 (And.intro hs0 hs1)))))))); clear hk0 hm0 hb0 hp0 hk1 q1 q2 hs0 hs1
  gi_wp2
  obtain ⟨hk0, hm0, hb0, hp0, hk1, q1, q2, hs0, hs1⟩ := HH.out
  have hN := HN.out
  have hk01 : Keeps [] w W1 := hk0.trans hk1 (by simp)
  have hgw : g < w.heap.size := HR.out.lt (g := g) rfl
  refine wpIn_range_n (α := Nat) rfl h11 (gf := 73) (lb := #[.pointer (some ⟨N + 3, 0, none⟩), .pointer (some ⟨N + 3 + 1, 0, none⟩)]) rfl trivial (enters_of Tryz.func73 (by kernel_rfl) rfl)
    (chunk1_seq (n - 1) (by omega) (N + 3) (N + 3 + 1) g off cap m W1 q1 q2 (by omega) hcap hcap2)
    (fun x X Y Z h1 h2 => ⟨h2.1.trans h1.1, h2.2.trans h1.2⟩)
    (fun x W l o o' hl ho hcells hwalk => ⟨World.putObj_heap_other (by omega), World.putObj_heap_other (by omega)⟩)
    (fun _ => rfl)
    (OfI w N bs) (fun _ _ _ _ => False) (ofI_abd (by omega) (by omega)) (fun c nb s W W' row _ h _ _ => h.elim)
    (fun nb hnb => ⟨.slice none 0 0, hb0.keeps hk1 trivial, (hk1.block _ hp0.lt (by simp)).trans hp0, hm0.same (hk1.block _ hm0.lt (by simp)), RowAt.nil _ _ _, fun k _ e => (by cases e), fun g e => (by cases e), hk01, by omega, rfl⟩)
    (fun nb pre x a' W => a' = { tmps := #[.slice (some ⟨g, off, none⟩) (8 * m) cap, undef, .pointer none, .int .i64 0, .pointer (some ⟨N + 1 + 1, 0, none⟩), .slice (some ⟨g, off + 8 * x, none⟩) 8 8, undef, undef, .slice (some ⟨g, off, none⟩) (8 * m) cap, .int .i64 (8 * m), .bool true, .bool false, .map (some N), .agg #[.slice none 0 0, .slice none 0 0, .map (some N), .int .u64 0, .int .u64 0, .int .u64 0, .int .u64 0], .pointer (some ⟨N + 1, 0, none⟩), .slice (some ⟨g, off, none⟩) (8 * m) cap, .func (.func 73) #[] #[.pointer (some ⟨N + 3, 0, none⟩), .pointer (some ⟨N + 3 + 1, 0, none⟩)], .slice (some ⟨g, off + 8 * x, none⟩) 8 8, undef, undef, undef, undef, undef, undef, undef, undef, undef, undef, undef, undef, undef, undef, undef, undef, undef, undef, undef, undef, undef, undef, undef, undef, undef, undef, undef, undef, undef, undef, undef, undef, undef, undef, undef], defers := [] } ∧ OfI w N bs nb pre W ∧ NbOk (W1.heap.size + 2) nb ∧ x = pre.length ∧ x < m)
    ?ax ?assign ?body ?done ?stop
  case ax =>
    rintro nb pre x a' W l o o' ⟨h1, h2, h3, h4⟩ hl ho hcells hwalk
    exact ⟨h1, (ofI_abd (by omega) (by omega)).putObj _ h3 h2 hl ho hcells hwalk, h3, h4⟩
  case assign =>
    intro l nb pre x W K hnb hnl hi hpx hlen hK
    dsimp only [pieceEnc]
    have HP := Lib.hid hpx
    clear hpx hN
    gi_wp2
    have hpx := HP.out
    exact hK _ _ (KeepsRec.refl _ _) ⟨rfl, rfl⟩ ⟨rfl, hi, hnb, hpx⟩
  case body =>
    rintro l nb pre x a' W hnb hnl ⟨rfl, ⟨v, hv1, hv2, hv3, hv4, hne, hvn, hkeep, hsz, hpre⟩, _, hx, hxm⟩ hlt2 hl
    have hbl : bs.length = 8 * m := by have := HR.out.1; simpa using this
    have hrw : RowAt W 5 1 (.slice (some ⟨g, off, none⟩) (8 * m) cap) (8 * m) (bs.map (Value.int .u8)) := HR.out.same fun q hq => by cases hq; exact hkeep.block g hgw (by simp)
    have hcell : ∀ (i : Nat) (c : Int), bs[8 * x + i]? = some c → W.cell? ⟨g, off + 8 * x + i, none⟩ = some (.int .u8 c) := fun i c h => by
      have := hrw.cell (j := 8 * x + i) (u := .int .u8 c) (by simp [h])
      rwa [← Nat.add_assoc] at this
    have hpl : (pieceAt bs x).length = 8 := by simp [pieceAt]; omega
    have hpc : ∀ i, i < 8 → (pieceAt bs x)[i]? = bs[8 * x + i]? := fun i hi => by simp [pieceAt, hi]
    have HX := Lib.hid (And.intro hv1 (And.intro hv2 (And.intro hv3 (And.intro hv4 (And.intro hne (And.intro hvn (And.intro hkeep (And.intro hsz (And.intro hpre (And.intro hx hxm)))))))))); clear hv1 hv2 hv3 hv4 hne hvn hkeep hsz hpre hx hxm
    have HC := Lib.hid (And.intro hbl (And.intro hcell (And.intro hpl hpc))); clear hbl hcell hpl hpc hrw
    have HB := Lib.hid hb
    clear hN hb
    gi_wp2
    gi_loopw [6, 20] (fun s6 s20 wr => ∃ i : Nat, i ≤ 8 ∧ s20 = .int .i64 i ∧ s6 = .int .u64 (wd ((pieceAt bs x).take i)) ∧ wr = W) (fun _ s20 _ => 8 - (RowKit.intOf s20).toNat)
    case atStart => exact ⟨0, by omega, rfl, rfl, rfl⟩
    case round =>
      obtain ⟨i, hi, rfl, rfl, hwr⟩ := hrel
      rw [hwr]
      clear hwr
      by_cases hlt : i < 8
      · obtain ⟨hbl, hcell, hpl, hpc⟩ := HC.out
        have hxm := HX.out.2.2.2.2.2.2.2.2.2.2
        obtain ⟨c, hc⟩ : ∃ c, bs[8 * x + i]? = some c := ⟨_, List.getElem?_eq_getElem (by omega)⟩
        have hcb := HB.out c (List.mem_of_getElem? hc)
        have hc1 := hcell i c hc
        have htl : ((pieceAt bs x).take i).length = i := by simp [hpl]; omega
        have hor := or_byte ((pieceAt bs x).take i) c (by omega) (fun d hd => HB.out d (List.mem_of_mem_drop (List.mem_of_mem_take (List.mem_of_mem_take hd)))) hcb
        rw [htl] at hor
        have hsn : (pieceAt bs x).take i ++ [c] = (pieceAt bs x).take (i + 1) := by rw [List.take_add_one, hpc i hlt, hc]; rfl
        rw [hsn] at hor
        obtain ⟨ho1, ho2⟩ := hor
        have hw8 : IntKind.u64.wrap c = c := IntWalk.u64_in _ (by unfold Byte at hcb; omega)
        have hm8 : IntKind.i64.wrap (8 * (i : Int)) = 8 * (i : Int) := IntWalk.i64_in _ (by omega)
        have hltI : (i : Int) < 8 := by omega
        have h80 : (0 : Int) ≤ 8 * (i : Int) := by omega
        clear hc hbl hcell hpl hpc htl hsn hcb hxm
        rw [show min (8 * (i : Int)).toNat 64 = 8 * i by omega] at ho1
        gi_wp2
        refine ⟨⟨i + 1, by omega, by go_num, (by first | rfl | rw [ho1, ho2]), trivial⟩, by simp [RowKit.intOf]; omega⟩
      · obtain rfl : i = 8 := by omega
        clear hlt hi
        gi_upto_region 12 with fail
        obtain ⟨y, hy⟩ : ∃ y, y = wd (List.take 8 (pieceAt bs x)) := ⟨_, rfl⟩
        rw [← hy]
        obtain ⟨hv1, hv2, hv3, hv4, hne, hvn, hkeep, hsz, hpre, hx, hxm⟩ := HX.out
        obtain ⟨i0, hi0, hz0, hz1, hz2⟩ := info_parts u64Info
        obtain ⟨Wa, hWa⟩ : ∃ Wa, Wa = W.drew.alloc (.cells #[.int .u64 y] 26) := ⟨_, rfl⟩
        have hka : Keeps [] W Wa := by rw [hWa]; exact (Keeps.drew W).trans (Keeps.alloc _ _) (by simp)
        have hsa : Wa.heap.size = W.heap.size + 1 := by rw [hWa]; simp
        obtain ⟨v', w', hrun, r1, r2, r3, r4⟩ := run_append_row (P := Tryz.prog) (w := Wa) 22 22 26 i0 (.int .u64 0) 1 8 Tryz.underlying22 hi0 hz0 hz1 hz2 rfl (hv4.same fun q hq => hka.block q (hv4.lt hq) (by simp)) (xv := .slice (some ⟨W.heap.size, 0, none⟩) 1 1) (m := 1) (news := [.int .u64 y])
          (.inr ⟨⟨W.heap.size, 0, none⟩, 1, rfl, rfl, fun j u hj => by
            have hc := alloc_new (w := W.drew) (o := .cells #[.int .u64 y] 26)
            rw [← hWa] at hc
            match j, hj with
            | 0, hj => cases hj; exact cell_of hc rfl⟩) rfl (by intro u hu; simp only [List.mem_singleton] at hu; subst hu; rfl) (by unfold maxLen; omega) (by omega)
        obtain ⟨g', off', cap', rfl⟩ := r4 (by omega)
        have hgn : g' ≠ N + 1 ∧ N + 5 ≤ g' ∧ (∀ k, nb = some k → g' ≠ k) := by
          rcases r3 with h | ⟨q, h, hq⟩
          · have hv' : v.ownBlock = some g' := h.symm
            have := hvn g' hv'
            exact ⟨by omega, this, fun k hk e => hne k hk (by rw [hv', e])⟩
          · obtain rfl : g' = q := by simpa [Value.ownBlock] using h
            exact ⟨by omega, by omega, fun k hk e => by have := hnl k hk; omega⟩
        have hkw : ∀ q, q < W.heap.size → v.ownBlock ≠ some q → w'.heap[q]? = W.heap[q]? := fun q hq hne2 => (r2.block q (by omega) (Ne.symm hne2)).trans (hka.block q hq (by simp))
        have hvl : ∀ q, q < N + 5 → v.ownBlock ≠ some q := fun q hq e => by have := hvn q e; omega
        have hW1w : MemAt w' (N + 1) (.slice none 0 0) v N 0 0 0 0 := (hkw _ (by omega) (hvl _ (by omega))).trans hv1
        have hW2w : Boxed w' (N + 1 + 1) 46 (.pointer (some ⟨N + 1, 0, none⟩)) := (hkw _ (by omega) (hvl _ (by omega))).trans hv2
        have cA1 : W.cell? ⟨N + 1 + 1, 0, none⟩ = some (.pointer (some ⟨N + 1, 0, none⟩)) := hv2.cell
        have cA2 : Wa.cell? ⟨N + 1 + 1, 0, none⟩ = some (.pointer (some ⟨N + 1, 0, none⟩)) := (show Boxed Wa (N + 1 + 1) 46 _ from (hka.block _ hv2.lt (by simp)).trans hv2).cell
        have cA3 : w'.cell? ⟨N + 1 + 1, 0, none⟩ = some (.pointer (some ⟨N + 1, 0, none⟩)) := hW2w.cell
        have cB1 : W.cell? ⟨N + 1, 1, none⟩ = some v := hv1.cells.2.1
        have cB2 : Wa.cell? ⟨N + 1, 1, none⟩ = some v := (show MemAt Wa (N + 1) _ _ _ _ _ _ _ from (hka.block _ (lt_of hv1) (by simp)).trans hv1).cells.2.1
        have cB3 : w'.cell? ⟨N + 1, 1, none⟩ = some v := hW1w.cells.2.1
        have fB3 : w'.frozen? ⟨N + 1, 1, none⟩ = false := hW1w.free 1
        obtain ⟨ao, cn, cp, hvs⟩ : ∃ ao cn cp, v = .slice ao cn cp := by
          rcases hv4.2 with ⟨e, _⟩ | ⟨q, off, cp, cur, e, _⟩ <;> exact ⟨_, _, _, e⟩
        subst hvs
        have HZ := Lib.hid (And.intro hW1w (And.intro hW2w (And.intro hkw (And.intro hvl (And.intro hgn (And.intro r1 (And.intro r2 (And.intro hka (And.intro hsa hy)))))))))
        clear hW1w hW2w hkw hvl hgn r1 r2 r3 r4 hka hsa hy hv1 hv2 hv3 hv4 hne hvn hkeep hsz hpre hx hxm
        have hal : W.drew.alloc (.cells #[.int .u64 y] 26) = Wa := hWa.symm
        clear hWa
        refine wpIn_mono (Q := fun e _ w2 => e = .normal ∧ w2 = w'.setCell ⟨N + 1, 1, none⟩ (.slice (some ⟨g', off', none⟩) (pre.length + 1) cap')) ?reg ?fin
        case reg =>
          clear HZ HX HC HB HR HH HN h0 h1 h2 hcap hcap2 hk01 hgw hi0 hz0 hz1 hz2 hnb hnl
          --<S
          gi_region
          all_goals exact ⟨rfl, rfl⟩
          --S>
        case fin =>
          rintro e a2 w2 ⟨rfl, rfl⟩
          obtain ⟨hW1w, hW2w, hkw, hvl, hgn, r1, r2, hka, hsa, hy⟩ := HZ.out
          obtain ⟨hv1, hv2, hv3, hv4, hne, hvn, hkeep, hsz, hpre, hx, hxm⟩ := HX.out
          have hN := HN.out
          rw [show List.take 8 (pieceAt bs x) = pieceAt bs x by simp [pieceAt, List.take_take]] at hy
          have hgr := grownBy_set1 w' (N + 1) 1 (.slice (some ⟨g', off', none⟩) (pre.length + 1) cap')
          obtain ⟨W5, hW5⟩ : ∃ W5, W5 = w'.setCell ⟨N + 1, 1, none⟩ (.slice (some ⟨g', off', none⟩) (pre.length + 1) cap') := ⟨_, rfl⟩
          rw [← hW5] at hgr ⊢
          have hsw : W.heap.size ≤ w'.heap.size := by have := r2.size; omega
          have hs5 : w'.heap.size ≤ W5.heap.size := hgr.size
          have hkk : ∀ q, q < W.heap.size → (Value.slice ao cn cp).ownBlock ≠ some q → q ≠ N + 1 → W5.heap[q]? = W.heap[q]? := fun q hq hn1 hn2 => (hgr.block q (by omega) (fun e => hn2 (by cases e; rfl))).trans (hkw q hq hn1)
          have hM5 : MemAt W5 (N + 1) (.slice none 0 0) (.slice (some ⟨g', off', none⟩) (pre.length + 1) cap') N 0 0 0 0 := by rw [hW5]; exact set_same hW1w
          have hX5 : Keeps [] w W5 := ⟨by have := hkeep.size; omega, fun k hk _ => (hkk k (by have := hkeep.size; omega) (hvl k (by omega)) (by omega)).trans (hkeep.block k hk (by simp)), by rw [hgr.os, r2.os, hka.os, hkeep.os], by rw [hgr.tape, r2.tape, hka.tape, hkeep.tape], by rw [hgr.output, r2.output, hka.output, hkeep.output]⟩
          refine ⟨⟨by omega, fun k o hB hko hc hwk => ?_⟩, ⟨hkk _ (by omega) (hvl _ (by omega)) (by omega), hkk _ (by omega) (hvl _ (by omega)) (by omega)⟩, .slice (some ⟨g', off', none⟩) (pre.length + 1) cap', hM5, ?_, ?_, ?_, fun k hk e => ?_, fun q e => ?_, hX5, by omega, ?_⟩
          · have hne3 : (Value.slice ao cn cp).ownBlock ≠ some k := fun e => by
              rcases hv4.2 with ⟨e2, _⟩ | ⟨q, off, cp, cur, e2, hb, _⟩
              · rw [e2] at e; cases e
              · rw [e2] at e; cases e; rw [hko] at hb; cases hb; cases hc
            rw [hkk k (lt_of hko) hne3 (by omega)]; exact hko
          · exact (hgr.block _ (by have := hW2w.lt; omega) (by intro e; cases e)).trans hW2w
          · exact hv3.same (hkk _ hv3.lt (hvl _ (by omega)) (by omega))
          · rw [List.length_append, List.length_singleton, wordsOf_succ, List.map_append, List.map_singleton, ← hx, ← hy]
            refine (show RowAt w' 26 1 (.slice (some ⟨g', off', none⟩) (x + 1) cap') (x + 1) _ by rw [hx]; exact r1).same fun q hq => ?_
            cases hq
            have := r1.lt (g := g') rfl
            exact hgr.block g' this (fun e => by cases e; exact hgn.1 rfl)
          · cases e; exact hgn.2.2 _ hk rfl
          · cases e; exact hgn.2.1
          · rw [List.length_append, List.length_singleton, List.range_succ, ← hpre, ← hx]
  case done =>
    rintro D nb ys W hD hys ⟨v, hv1, hv2, hv3, hv4, hne, hvn, hkeep, hsz, hpre⟩ hK
    have hyl : ys.length = m := by rw [hys, List.length_range]
    rw [hyl] at hv4
    obtain ⟨ws, hws⟩ : ∃ ws, ws = wordsOf bs m := ⟨_, rfl⟩
    have hwl : ws.length = m := by rw [hws, wordsOf_length]
    rw [← hws] at hv4
    obtain ⟨ib, io, ic, rfl⟩ : ∃ ib io ic, v = .slice (some ⟨ib, io, none⟩) m ic := by
      rcases hv4.2 with ⟨_, e⟩ | ⟨q, off, cp, cur, e, _⟩
      · omega
      · exact ⟨_, _, _, e⟩
    have hib := hvn ib rfl
    rw [← hwl] at hv1 hv4
    have hcl : ∀ wx, Keeps [] W wx → Calls Tryz.prog 39 #[.slice (some ⟨ib, io, none⟩) ws.length ic] wx (ClonePost 26 1 wx (.slice (some ⟨ib, io, none⟩) ws.length ic) ws.length (ws.map (Value.int .u64))) := fun wx hk =>
      cloneU64_any (hv4.same fun q hq => hk.block q (hv4.lt hq) (by simp)).reads (by simp) (by simp [Value.oneCell']) (by omega)
    have HC := Lib.hid hcl; clear hcl
    have HQ : Hid (∀ wx, Keeps [] W wx → (wx.cell? ⟨N + 1 + 1, 0, none⟩ = some (.pointer (some ⟨N + 1, 0, none⟩)) ∧ wx.cell? ⟨N + 1, 0, none⟩ = some (.slice none 0 0) ∧ wx.cell? ⟨N + 1, 1, none⟩ = some (.slice (some ⟨ib, io, none⟩) ws.length ic) ∧ wx.frozen? ⟨N + 1, 0, none⟩ = false)) := Lib.hid (fun w3 hk3 =>
      have hm : MemAt w3 (N + 1) _ _ N 0 0 0 0 := hv1.keeps hk3 trivial
      ⟨(show Boxed w3 (N + 1 + 1) 46 _ from (hk3.block _ hv2.lt (by simp)).trans hv2).cell, hm.cells.1, hm.cells.2.1, hm.free 0⟩)
    obtain ⟨d1, q0, q1, f0⟩ := HQ.out W (Keeps.refl _ _)
    have HX := Lib.hid (And.intro hv1 (And.intro hv2 (And.intro hv3 (And.intro hv4 (And.intro hib (And.intro hkeep (And.intro hsz (And.intro hK (And.intro hD (And.intro hwl hws)))))))))); clear hv1 hv2 hv3 hv4 hib hkeep hsz hK hD hwl hws hvn hne hpre hN
    gi_upto_region 13 with fail
    refine wpIn_wide_normal ?_
    go_region_with (first
      | (go_at_call 39; refine (HC.out _ (Keeps.drew W)).mono ?_; rintro e w3 ⟨v', rfl, r1, k1, n1, _, s1⟩; obtain ⟨g1, o1, cc1, rfl⟩ := s1 _ _ _ rfl; obtain ⟨d1', q0', q1', f0'⟩ := HQ.out _ (Keeps.trans (Keeps.drew W) k1 (by simp)))
      | fail)
    all_goals
      simp only [onlyNormal]
      obtain ⟨W4, hW4⟩ : ∃ W4, W4 = w3.setCell ⟨N + 1, 0, none⟩ (.slice (some ⟨g1, o1, none⟩) ws.length cc1) := ⟨_, rfl⟩
      rw [← hW4]
      have K1 : Keeps [] W w3 := Keeps.trans (Keeps.drew W) k1 (by simp)
      have e1 : W4.cell? ⟨N + 1 + 1, 0, none⟩ = some (.pointer (some ⟨N + 1, 0, none⟩)) := by rw [hW4, cell_set_ne (by omega)]; exact d1'
      have HZ := Lib.hid (And.intro hW4 (And.intro r1 (And.intro n1 K1)))
      clear hW4 K1 r1 k1 n1 s1 d1 d1' q0 q1 f0 q0' q1' f0' HC HQ
      gi_wp2
      obtain ⟨hv1, hv2, hv3, hv4, hib, hkeep, hsz, hK, hD, hwl, hws⟩ := HX.out
      obtain ⟨hW4, r1, n1, K1⟩ := HZ.out
      obtain ⟨hD5, p2, hI6, hk6, hf6⟩ := of_end hv1 hv3 hv4 hib K1 hW4 r1 (n1 g1 rfl) hK (by omega) rfl hkeep HN.out hsz
      refine ⟨by simp, .inl ⟨_, _, rfl, run_takeDeferred hD5, ?_⟩⟩
      refine ⟨_, ?_, N + 1, p2, rfl, by rw [← hws]; exact hI6, hk6, hf6⟩
      simp [results, Tryz.results16, go_sem]
  case stop =>
    rintro D nb c pre W _ _ h _
    exact h.elim

theorem of_any {w : World} {g off cap m : Nat} {bs : List Int} (hrow : RowAt w 5 1 (.slice (some ⟨g, off, none⟩) (8 * m) cap) (8 * m) (bs.map (Value.int .u8))) (hb : ∀ b ∈ bs, Byte b) (h0 : 8 ≤ m) (h1 : m ≤ 131072) (h2 : m % 8 = 0) (hcap : 8 * m ≤ cap) (hcap2 : cap ≤ maxLen) :
    Calls Tryz.prog 16 #[.slice (some ⟨g, off, none⟩) (8 * m) cap] w fun e W' => ∃ b p, e = .returned (.tuple #[.pointer (some ⟨b, 0, none⟩), .int .i64 0]) ∧ IsMem W' b p ⟨wordsOf bs m, wordsOf bs m, [], 0, 0, 0, 0⟩ ∧ Keeps [] w W' ∧ ∀ i ∈ p.foot b, w.heap.size ≤ i :=
  (callsIn_wide (n := 5)).1 (of_in 5 (Nat.le_refl _) hrow hb h0 h1 h2 hcap hcap2)
end Go.Proofs.YtdbbbaallalhoaaGreat.pm
