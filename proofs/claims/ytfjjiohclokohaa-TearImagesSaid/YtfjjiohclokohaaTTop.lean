/-
  PROVED HERE: the law's top of a memory, and tear.Count. Conditions: the receiver is a memory; few lines, few stores.
-/
import Derived.Test.YtfjjiohclokohaaTNext
namespace Go.Proofs.Ytfjjiohclokohaa.pm
open Go.RowKit Go.Proofs.Ytfjjiohclokohaa.tp
set_option linter.unusedVariables false

/-- How many stores are pending of each line, the lines rising. -/
def Mod.tops (M : Mod) : List Nat := M.keys.map M.pendK
theorem Mod.tops_length (M : Mod) : M.tops.length = M.lines.length := by unfold Mod.tops Mod.keys; rw [List.length_map, ksort_length, List.length_map]
theorem Mod.keys_length (M : Mod) : M.keys.length = M.lines.length := by unfold Mod.keys; rw [ksort_length, List.length_map]
theorem Mod.tops_le {M : Mod} {c : Nat} (h : ∀ q ∈ M.lines, q.2.puts.length ≤ c) : ∀ t ∈ M.tops, t ≤ c := by
  intro t ht
  obtain ⟨k, _, rfl⟩ := List.mem_map.1 ht
  unfold Mod.pendK
  cases e : pm.get M.lines k with
  | none => simp [noLine]
  | some l => exact h (k, l) (get_mem e)
theorem key_facts {M : Mod} (hw : WF M) {k : Int} (hk : k ∈ M.keys) : 0 ≤ k ∧ k / 8 < M.view.length ∧ k % 8 = 0 ∧ M.pend k = M.pendK k := by
  obtain ⟨q, hq, rfl⟩ := List.mem_map.1 ((ksort_perm _).mem_iff.1 hk)
  have h := hw.lines q hq
  unfold LineWf at h
  have h64 : q.1 % 64 = 0 := by have := h.2.1; omega
  refine ⟨h.1, by omega, by omega, ?_⟩
  unfold Mod.pend Mod.pendK
  rw [h64, Int.sub_zero]

set_option maxRecDepth 100000 in
set_option maxHeartbeats 2000000 in
theorem tearTop_any {w : World} {b : Nat} {p : Pl} {M : Mod} (h : IsMem w b p M) (hw : WF M) (hN : M.lines.length ≤ 1000) (hf : ∀ q ∈ M.lines, q.2.puts.length ≤ 1000) :
    Calls Try.prog 7 #[.pointer (some ⟨b, 0, none⟩)] w fun e W' => ∃ v, e = .returned v ∧ RowAt W' 3 1 v M.lines.length (M.tops.map nv) ∧ Keeps [] w W' ∧ ∀ g, v.ownBlock = some g → w.heap.size ≤ g := by
  obtain ⟨i0, hi0, hz0, hz1, hz2⟩ := info_parts intInfo
  have hkl := M.keys_length
  have HL := Lib.hid (lines_any h hw (by omega))
  obtain ⟨L, hL⟩ : ∃ L, L = M.lines.length := ⟨_, rfl⟩
  rw [← hL] at HL hN hkl ⊢
  have HM := Lib.hid (And.intro h (And.intro hw (And.intro hf (And.intro hL hkl)))); clear h hw hf hL hkl
  go_enter Try.func7, Try.ntmps7
  go_wp2_with fail
  refine HL.out.mono ?_
  rintro e w1 ⟨v, rfl, hrow, hk1, hg1⟩
  obtain ⟨ao, cp, rfl⟩ := reads_shape hrow.reads
  have HR := Lib.hid (And.intro hrow (And.intro hk1 hg1)); clear hrow hk1 hg1
  go_wp2_with fail
  go_loopw [3, 5] (fun s3 s5 wr => ∃ j : Nat, j ≤ L ∧ s5 = .int .i64 j ∧ RowAt wr 3 1 s3 j ((M.tops.take j).map nv) ∧ Keeps [] w1 wr ∧ ∀ g, s3.ownBlock = some g → w1.heap.size ≤ g) (fun _ s5 _ => L - (intOf s5).toNat)
  case atStart => exact ⟨0, Nat.zero_le _, rfl, RowAt.nil _ _ _, Keeps.refl _ _, fun g e => by cases e⟩
  case round =>
    obtain ⟨j, hj, rfl, hrow, hk, hown⟩ := hrel
    by_cases hlt : j < L
    · obtain ⟨h, hw, hf, hL, hkl⟩ := HM.out
      obtain ⟨hr1, hk1, hg1⟩ := HR.out
      obtain ⟨k, hkj⟩ : ∃ k, M.keys[j]? = some k := ⟨_, List.getElem?_eq_getElem (by omega)⟩
      obtain ⟨b2, of2, rfl, c1⟩ := reads_cell (wr := wr) hr1.reads (fun q _ hq => hk.block q hq (by simp)) (j := j) (u := .int .u64 k) (by simp [hkj])
      obtain ⟨hk0, hk8, hkm, hpe⟩ := key_facts hw (List.mem_of_getElem? hkj)
      have hIr : IsMem wr b p M := h.keeps (hk1.trans hk (by simp)) (by simp)
      have HP := Lib.hid (pending_any hIr hw.pos hw.small k hk0 hk8 hkm)
      rw [hpe] at HP
      obtain ⟨t, ht⟩ : ∃ t, t = M.pendK k := ⟨_, rfl⟩
      rw [← ht] at HP
      have htj : M.tops[j]? = some t := by unfold Mod.tops; rw [List.getElem?_map, hkj, ht]; rfl
      have hjL : (j : Int) < (L : Int) := by omega
      have HX := Lib.hid (And.intro htj (And.intro hrow (And.intro hk hown)))
      clear h hw hf hL hkl hr1 hk1 hg1 hkj hk0 hk8 hkm hpe hIr ht htj hk hown
      go_wp2_with fail
      refine HP.out.mono ?_
      rintro e w2 ⟨rfl, hw2⟩
      have hk2 : Keeps [] wr w2 := by rw [hw2]; exact Keeps.drew wr
      have hrow2 := hrow.same (w' := w2) (fun g hg => hk2.block g (hrow.lt hg) (by simp))
      clear hw2
      have HK2 := Lib.hid hk2
      go_wp2_with (at_builtin; refine wpList_append_row _ rfl _ _ 26 rfl 3 i0 (.int .i64 0) 1 8 Try.underlying26 hi0 hz0 hz1 hz2 rfl _ (.slice (some ⟨w2.heap.size, 0, none⟩) 1 1) rfl rfl j _ (hrow2.same fun g hg => (MapKept.heap_alloc w2 _).2 g (hrow2.lt hg)) 1 [.int .i64 t] ?hr rfl ?ho ?hm ?hby ?_)
      case hr => exact .inr ⟨⟨w2.heap.size, 0, none⟩, 1, rfl, rfl, fun q u hq => by
        have hc := alloc_new (w := w2) (o := .cells #[.int .i64 t] 3)
        match q, hq with
        | 0, hq => cases hq; exact cell_of hc rfl⟩
      case ho => intro u hu; simp only [List.mem_singleton] at hu; subst hu; rfl
      case hm => unfold maxLen; omega
      case hby => omega
      intro v' w3 hrow' hgrow hblk' g' off' cap' hsl
      subst hsl
      have HY := Lib.hid (And.intro hrow' (And.intro hgrow hblk')); clear hrow' hgrow hblk' hrow hrow2 hk2
      go_wp2_with fail
      go_roundw
      case rel =>
        obtain ⟨htj, hrow, hk, hown⟩ := HX.out
        obtain ⟨hrow', hgrow, hblk'⟩ := HY.out
        refine ⟨j + 1, by omega, by go_num, ?_, ?_, fun g hg => ?_⟩
        · rw [List.take_add_one, htj, Option.toList_some, List.map_append, List.map_take]; exact hrow'
        · exact (((hk.trans HK2.out (by simp)).trans (Keeps.alloc w2 _) (by simp)).mono (by simp)).trans (Keeps.grown hgrow) (fun i hi => .inr (hown i (by simpa using hi)))
        · rcases hblk' with h1 | ⟨g2, h1, h2⟩
          · exact hown g (by rw [← h1]; exact hg)
          · rw [h1] at hg; cases hg; have := hk.size; have := HK2.out.size; omega
      case measure => simp [intOf]; omega
    · obtain rfl : j = L := by omega
      have HX := Lib.hid (And.intro hrow (And.intro hk hown)); clear hrow hk hown
      go_wp2_with fail
      go_ret
      obtain ⟨hrow, hk, hown⟩ := HX.out
      obtain ⟨h, hw, hf, hL, hkl⟩ := HM.out
      obtain ⟨hr1, hk1, hg1⟩ := HR.out
      refine ⟨_, rfl, ?_, hk1.trans hk (by simp), fun g hg => by have := hown g hg; have := hk1.size; omega⟩
      rw [List.take_of_length_le (by rw [M.tops_length]; omega)] at hrow
      exact hrow

set_option maxRecDepth 100000 in
set_option maxHeartbeats 2000000 in
theorem tearCount_any {w : World} {b : Nat} {p : Pl} {M : Mod} (h : IsMem w b p M) (hw : WF M) (hN : M.lines.length ≤ 1000) (hf : ∀ q ∈ M.lines, q.2.puts.length ≤ 1000) :
    Calls Try.prog 8 #[.pointer (some ⟨b, 0, none⟩)] w fun e W' => e = .returned (.int .u64 (cntT 1 M.tops)) ∧ Keeps [] w W' := by
  have hkl := M.keys_length
  have HL := Lib.hid (lines_any h hw (by omega))
  have HTh := Lib.hid (tthere_any h.blkAt hw.pos hw.small)
  obtain ⟨L, hL⟩ : ∃ L, L = M.lines.length := ⟨_, rfl⟩
  rw [← hL] at HL hN hkl
  have HM := Lib.hid (And.intro h (And.intro hw (And.intro hf (And.intro hL hkl)))); clear h hw hf hL hkl
  go_enter Try.func8, Try.ntmps8
  go_wp2_with fail
  refine HTh.out.mono ?_
  rintro e w1 ⟨rfl, rfl⟩
  go_wp2_with fail
  refine HL.out.mono ?_
  rintro e w1 ⟨v, rfl, hrow, hk1, hg1⟩
  obtain ⟨ao, cp, rfl⟩ := reads_shape hrow.reads
  have HR := Lib.hid (And.intro hrow (And.intro hk1 hg1)); clear hrow hk1 hg1
  go_wp2_with fail
  go_loopw [3, 13] (fun s3 s13 wr => ∃ j n : Nat, j ≤ L ∧ s3 = .int .u64 n ∧ s13 = .int .i64 j ∧ n ≤ 9223372036854775808 ∧ cntT 1 M.tops = cntT n (M.tops.drop j) ∧ Keeps [] w1 wr) (fun _ s13 _ => L - (intOf s13).toNat)
  case atStart => exact ⟨0, 1, Nat.zero_le _, rfl, rfl, by omega, rfl, Keeps.refl _ _⟩
  case round =>
    obtain ⟨j, n, hj, rfl, rfl, hn, hpre, hk⟩ := hrel
    by_cases hlt : j < L
    · obtain ⟨h, hw, hf, hL, hkl⟩ := HM.out
      obtain ⟨hr1, hk1, hg1⟩ := HR.out
      obtain ⟨k, hkj⟩ : ∃ k, M.keys[j]? = some k := ⟨_, List.getElem?_eq_getElem (by omega)⟩
      obtain ⟨b2, of2, rfl, c1⟩ := reads_cell (wr := wr) hr1.reads (fun q _ hq => hk.block q hq (by simp)) (j := j) (u := .int .u64 k) (by simp [hkj])
      obtain ⟨hk0, hk8, hkm, hpe⟩ := key_facts hw (List.mem_of_getElem? hkj)
      have hIr : IsMem wr b p M := h.keeps (hk1.trans hk (by simp)) (by simp)
      have HP := Lib.hid (pending_any hIr hw.pos hw.small k hk0 hk8 hkm)
      rw [hpe] at HP
      obtain ⟨t, ht⟩ : ∃ t, t = M.pendK k := ⟨_, rfl⟩
      rw [← ht] at HP
      have htj : M.tops[j]? = some t := by unfold Mod.tops; rw [List.getElem?_map, hkj, ht]; rfl
      have htb : t ≤ 1000 := Mod.tops_le hf t (List.mem_of_getElem? htj)
      have hdr : M.tops.drop j = t :: M.tops.drop (j + 1) := by rw [← (List.getElem?_eq_some_iff.1 htj).2]; exact List.drop_eq_getElem_cons (List.getElem?_eq_some_iff.1 htj).1
      rw [hdr, cntT] at hpre
      obtain ⟨t1, ht1⟩ : ∃ t1, t1 = t + 1 := ⟨_, rfl⟩
      rw [← ht1] at hpre
      have e1 : IntKind.u64.wrap (t : Int) = (t : Int) := IntWalk.u64_in _ (by omega)
      have e2 : IntKind.u64.wrap ((t : Int) + 1) = (t1 : Int) := by rw [ht1]; exact IntWalk.u64_in _ (by omega)
      have e3 : (9223372036854775808 : Int).tdiv (t1 : Int) = ((9223372036854775808 / t1 : Nat) : Int) := rfl
      have e4 : ¬ ((t1 : Int) = 0) := by omega
      have hjL : (j : Int) < (L : Int) := by omega
      obtain ⟨d, hd⟩ : ∃ d, d = 9223372036854775808 / t1 := ⟨_, rfl⟩
      rw [← hd] at e3 hpre
      have hdl : d ≤ 9223372036854775808 := by rw [hd]; exact Nat.div_le_self _ _
      have e5 : IntKind.u64.wrap (d : Int) = (d : Int) := IntWalk.u64_in _ (by omega)
      have HX := Lib.hid (And.intro hpre (And.intro hk (And.intro hd (And.intro ht1 htb))))
      clear h hw hf hL hkl hr1 hk1 hg1 hkj hk0 hk8 hkm hpe hIr ht htj hdr hpre hk hd ht1
      go_wp2_with fail
      refine HP.out.mono ?_
      rintro e w2 ⟨rfl, hw2⟩
      have HK2 := Lib.hid (show Keeps [] wr w2 by rw [hw2]; exact Keeps.drew wr); clear hw2
      by_cases hb : n > d
      · have hbI : (d : Int) < (n : Int) := by omega
        go_wp2_with fail
        go_ret
        obtain ⟨hpre, hk, hd, ht1, _⟩ := HX.out
        rw [if_pos hb] at hpre
        exact ⟨by rw [hpre]; rfl, (HR.out.2.1.trans hk (by simp)).trans HK2.out (by simp)⟩
      · have hbI : (n : Int) ≤ (d : Int) := by omega
        have hmul : n * t1 ≤ 9223372036854775808 := by
          obtain ⟨_, _, hd, ht1, _⟩ := HX.out
          have : n ≤ 9223372036854775808 / t1 := by rw [← hd]; omega
          exact (Nat.le_div_iff_mul_le (by omega)).1 this
        have e6 : IntKind.u64.wrap ((n : Int) * (t1 : Int)) = ((n * t1 : Nat) : Int) := by rw [Int.natCast_mul]; exact IntWalk.u64_in _ (by rw [← Int.natCast_mul]; omega)
        obtain ⟨q, hq⟩ : ∃ q, q = n * t1 := ⟨_, rfl⟩
        rw [← hq] at e6 hmul
        have HQ := Lib.hid (And.intro hq hb); clear hq hb
        go_wp2_with fail
        go_roundw
        case rel =>
          obtain ⟨hpre, hk, hd, ht1, _⟩ := HX.out
          rw [if_neg HQ.out.2, ← HQ.out.1] at hpre
          exact ⟨j + 1, q, by omega, rfl, by go_num, hmul, hpre, hk.trans HK2.out (by simp)⟩
        case measure => simp [intOf]; omega
    · obtain rfl : j = L := by omega
      have HX := Lib.hid (And.intro hpre hk); clear hpre hk
      go_wp2_with fail
      go_ret
      obtain ⟨h, hw, hf, hL, hkl⟩ := HM.out
      obtain ⟨hpre, hk⟩ := HX.out
      rw [List.drop_of_length_le (by rw [M.tops_length]; omega), cntT] at hpre
      exact ⟨by rw [hpre]; rfl, HR.out.2.1.trans hk (by simp)⟩
end Go.Proofs.Ytfjjiohclokohaa.pm
