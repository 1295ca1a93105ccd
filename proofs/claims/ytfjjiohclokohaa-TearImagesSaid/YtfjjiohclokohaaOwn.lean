/-
  PROVED HERE: the contract of 'own': the lines in new memory. Conditions: the map holds lines, each key once, of few puts.
-/
import Derived.Test.YtfjjiohclokohaaClone
import Derived.Test.YtfjjiohclokohaaFence
namespace Go.Proofs.Ytfjjiohclokohaa.pm
open Go.RowKit

def OwnPost (w : World) (M : List (Int × Line)) (e : Ending) (w' : World) : Prop :=
  ∃ nm L' qs, e = .returned (.map (some nm)) ∧ qs.Perm M ∧ MapIs w' nm L' ∧ LinesAt w' L' qs ∧ Uniq L' ∧ (nm :: blks L').Nodup ∧ (∀ i ∈ nm :: blks L', w.heap.size ≤ i) ∧ Keeps [] w w'

theorem flat_one : ∀ (l : List (Int × Int)), ∀ u ∈ flat l, u.oneCell' = true
  | [], u, h => by simp [flat] at h
  | p :: r, u, h => by
    simp only [flat, List.mem_cons] at h
    rcases h with rfl | rfl | h
    · rfl
    · rfl
    · exact flat_one r u h

theorem put_new {α : Type} {L : List (Int × α)} {k : Int} (h : ∀ q ∈ L, q.1 ≠ k) (v : α) : put L k v = L ++ [(k, v)] := by
  rcases idx_cases L k with ⟨L1, L2, v0, hL, _⟩ | ⟨_, _, hp, _⟩
  · exact absurd rfl (h (k, v0) (by rw [hL]; simp))
  · exact hp v

set_option maxRecDepth 100000 in
set_option maxHeartbeats 1000000 in
theorem own_any {w : World} {mb : Nat} {L : List (Int × Value)} {M : List (Int × Line)} (hm : MapIs w mb L) (hl : LinesAt w L M) (hu : Uniq L) (hfew : ∀ q ∈ M, q.2.puts.length ≤ 1000000) :
    Calls Try.prog 30 #[.map (some mb)] w (OwnPost w M) := by
  have hmk := @run_makeMap Try.prog
  go_enter Try.func30, Try.ntmps30
  go_upto_region 2 with fail
  obtain ⟨W1, hW1⟩ : ∃ W1, W1 = w.alloc (.map #[] 0) := ⟨_, rfl⟩
  rw [← hW1]
  have hk1 : Keeps [] w W1 := by rw [hW1]; exact Keeps.alloc w _
  have hs1 : W1.heap.size = w.heap.size + 1 := by rw [hW1]; simp
  have hn1 : MapIs W1 w.heap.size [] := ⟨#[], 0, by rw [hW1]; exact alloc_new (w := w), rfl, by simp, by simp⟩
  have hm1 : MapIs W1 mb L := hm.same (hk1.block _ hm.lt (by simp))
  obtain ⟨W2, hrg, ⟨o2, hW2⟩, hit⟩ := run_range_map (P := Try.prog) (T := 64) (E := 75) hm1 Try.underlying64
  have hk2 : Keeps [] W1 W2 := by rw [hW2]; exact Keeps.alloc W1 _
  have hs2 : W2.heap.size = W1.heap.size + 1 := by rw [hW2]; simp
  have hn2 : MapIs W2 w.heap.size [] := hn1.same (hk2.block _ hn1.lt (by simp))
  have HW1 := Lib.hid hW1; clear hW1
  have HW2 := Lib.hid hW2; clear hW2
  obtain ⟨nm, hnm⟩ : ∃ nm, nm = w.heap.size := ⟨_, rfl⟩
  obtain ⟨r, hr⟩ : ∃ r, r = W1.heap.size := ⟨_, rfl⟩
  rw [← hr] at hrg hit
  rw [← hnm] at hn2 ⊢
  have hmlt := hm.lt
  have HN := Lib.hid hnm; clear hnm
  have HR := Lib.hid hr; clear hr
  have HS1 := Lib.hid hs1; clear hs1
  have HS2 := Lib.hid hs2; clear hs2
  have hk02 : Keeps [] w W2 := hk1.trans hk2 (by simp)
  clear hm1 hn1
  go_wp2_with fail
  clear hrg
  go_loopw [4] (fun _ wx => ∃ R RM qs L', Iter wx r mb L R ∧ LinesAt w R RM ∧ (qs ++ RM).Perm M ∧ MapIs wx nm L' ∧ LinesAt wx L' qs ∧ Uniq L' ∧ (nm :: blks L').Nodup ∧ (∀ i ∈ blks L', W2.heap.size ≤ i) ∧ Keeps [r, nm] W2 wx) (fun _ wx => wx.rangeLeft mb r)
  case atStart =>
    exact ⟨L, M, [], [], hit, hl, List.Perm.refl _, hn2, ⟨rfl, by simp⟩, by simp [Uniq], by simp [blks], by simp [blks], Keeps.refl _ _⟩
  case round =>
    obtain ⟨R, RM, qs, L', hitx, hlx, hperm, hmx, hLx, hux, hndx, hnewx, hkx⟩ := hrel
    by_cases hR : R = []
    · have hnx := run_next_over (P := Try.prog) (hR ▸ hitx)
      have hRM : RM = [] := by
        have := hlx.1
        rw [hR] at this
        exact List.eq_nil_of_length_eq_zero this.symm
      have HP := Lib.hid hperm; clear hperm
      have HRM := Lib.hid hRM; clear hRM
      have HRN := Lib.hid hR; clear hR
      go_wp2_with fail
      go_ret
      refine ⟨nm, L', qs, rfl, ?_, hmx, hLx, hux, hndx, fun i hi => ?_, ?_⟩
      · have := HP.out; rw [HRM.out, List.append_nil] at this; exact this
      · rcases List.mem_cons.1 hi with rfl | h1
        · exact Nat.le_of_eq HN.out.symm
        · have := hnewx i h1; have := hk02.size; omega
      · refine (hk02.trans hkx (fun i hi => ?_))
        simp only [List.mem_cons, List.not_mem_nil, or_false] at hi
        have a1 := HN.out; have a2 := HR.out; have a3 := HS1.out
        rcases hi with rfl | rfl
        · right; omega
        · right; omega
    · obtain ⟨i, k, v, w1, d, hRi, hnx, ⟨o, hw1⟩, hit1, hen⟩ := run_next_some (P := Try.prog) hitx hR
      have HRN := Lib.hid hR; clear hR
      obtain ⟨l, hll, sv, rfl, hml, hrw⟩ := hlx.2 i k v hRi
      have hk1x : Keeps [r] wr w1 := by rw [hw1]; exact (Keeps.putB wr r o).trans ((Keeps.drewBy _ d).mono (G := [r]) (by simp)) (fun i hi => .inl hi)
      have hs1x : w1.heap.size = wr.heap.size := by rw [hw1]; exact putB_size
      have HW1x := Lib.hid hw1; clear hw1
      have hA1 : (lineArr sv l.marks).size = 66 := lineArr_size hml
      have hst := store_line0 w1 hA1 (lineArr_one hrw.oneCell)
      obtain ⟨A, hA⟩ : ∃ A, A = lineArr sv l.marks := ⟨_, rfl⟩
      rw [← hA] at hst hnx hen hA1
      have hmem : (k, l) ∈ M := hperm.subset (List.mem_append_right _ (List.mem_of_getElem? hll))
      have hfl := hfew _ hmem
      simp only [] at hfl
      have HA := Lib.hid hA; clear hA
      have HML := Lib.hid hml; clear hml
      have HS1x := Lib.hid hs1x; clear hs1x
      have HP := Lib.hid hperm; clear hperm
      have HL := Lib.hid hll; clear hll
      have HRI := Lib.hid hRi; clear hRi
      go_upto_region 5 with fail
      obtain ⟨w2, hw2⟩ : ∃ w2, w2 = w1.alloc (.cells A 75) := ⟨_, rfl⟩
      rw [← hw2]
      have hk2x : Keeps [] w1 w2 := by rw [hw2]; exact Keeps.alloc w1 _
      have hs2x : w2.heap.size = w1.heap.size + 1 := by rw [hw2]; simp
      have hb2 : w2.heap[w1.heap.size]? = some (.cells A 75 (0, 0)) := by rw [hw2]; exact alloc_new (w := w1)
      obtain ⟨hh, hhh⟩ : ∃ hh, hh = w1.heap.size := ⟨_, rfl⟩
      rw [← hhh] at hb2 ⊢
      have HH := Lib.hid hhh; clear hhh
      have HW2x := Lib.hid hw2; clear hw2
      have HS2x := Lib.hid hs2x; clear hs2x
      have q0 : w2.cell? ⟨hh, 0, none⟩ = some sv := cell_of hb2 (by rw [HA.out]; exact lineArr_zero)
      clear hst hnx hen
      have hkw2 : Keeps [r, nm] W2 w2 := (hkx.trans (hk1x.mono (G := [r, nm]) (by simp)) (fun i hi => .inl hi)).trans (hk2x.mono (G := [r, nm]) (by simp)) (fun i hi => .inl hi)
      have hrw2 : RowAt w2 56 2 sv l.puts.length (flat l.puts) := hrw.same fun g hg => by
        have h1 := hrw.lt hg
        have a1 := HN.out; have a2 := HR.out; have a3 := HS1.out
        rw [hkw2.block g (Nat.lt_of_lt_of_le h1 hk02.size) (by simp; omega)]
        exact hk02.block g h1 (by simp)
      go_wp2_with fail
      refine (clonePut_any hrw2.reads hrw2.1 (flat_one _) (by omega)).mono ?_
      rintro e w3 ⟨sv', rfl, hrw3, hk3, hnew3, hnil3, hsl3⟩
      have hlen : ∃ ao cp, sv' = .slice ao l.puts.length cp := by
        obtain ⟨_, ⟨rfl, h2⟩ | ⟨g, off, cap, cur, rfl, _⟩⟩ := hrw3
        · exact ⟨none, 0, by rw [h2]⟩
        · exact ⟨_, _, rfl⟩
      obtain ⟨ao, cp, rfl⟩ := hlen
      have hb3 : w3.heap[hh]? = some (.cells A 75 (0, 0)) := (hk3.block hh (lt_of hb2) (by simp)).trans hb2
      have q3 : w3.cell? ⟨hh, 0, none⟩ = some sv := cell_of hb3 (by rw [HA.out]; exact lineArr_zero)
      have f3 : w3.frozen? ⟨hh, 0, none⟩ = false := free_of hb3
      have R3 := Lib.hid (And.intro hnil3 hsl3); clear hnil3 hsl3
      go_upto_region 6 with fail
      obtain ⟨w4, hw4⟩ : ∃ w4, w4 = w3.setCell ⟨hh, 0, none⟩ (.slice ao l.puts.length cp) := ⟨_, rfl⟩
      rw [← hw4]
      have hk4 : Keeps [hh] w3 w4 := by rw [hw4]; exact Keeps.setCell w3 hh 0 _
      obtain ⟨A', hA'⟩ : ∃ A', A' = lineArr (.slice ao l.puts.length cp) l.marks := ⟨_, rfl⟩
      have hb4 : w4.heap[hh]? = some (.cells A' 75 (0, 0)) := by rw [hw4, set_same hb3, HA.out, lineArr_set, hA']
      have hA66 : A'.size = 66 := by rw [hA']; exact lineArr_size HML.out
      have hs1 := HS1.out
      have hs2 := HS2.out
      have hnn := HN.out
      have hrr := HR.out
      have hsx := HS1x.out
      have hs2x := HS2x.out
      have hhx := HH.out
      have hkx0 := hkx.size
      have hk24 : Keeps [hh] w2 w4 := (hk3.mono (G := [hh]) (by simp)).trans hk4 (fun i hi => .inl hi)
      have hkr4 : Keeps [r] wr w4 := (hk1x.trans (hk2x.mono (G := [r]) (by simp)) (fun i hi => .inl hi)).trans (hk24.mono (G := [r, hh]) (by simp) |>.mono (G := [r, hh]) (fun i hi => .inl hi)) (fun i hi => by
        simp only [List.mem_cons, List.not_mem_nil, or_false] at hi
        rcases hi with rfl | rfl
        · exact .inl (by simp)
        · right; omega)
      have hm4 : MapIs w4 nm L' := hmx.same (hkr4.block _ hmx.lt (by simp; omega))
      obtain ⟨es, clock, hup, hm5⟩ := run_update_u64 (P := Try.prog) (w := w4) (T := 64) (E := 75) hm4 Try.underlying64 Try.underlying48 k (.agg A')
      have HW4 := Lib.hid hw4; clear hw4
      have HA' := Lib.hid hA'; clear hA'
      obtain ⟨w5, hw5⟩ : ∃ w5, w5 = putB w4 nm (.map es clock) := ⟨_, rfl⟩
      rw [← hw5] at hup hm5
      have hk5 : Keeps [nm] w4 w5 := by rw [hw5]; exact Keeps.putB w4 nm _
      have HW5 := Lib.hid hw5; clear hw5
      clear q0 q3 f3
      have H1 := Lib.hid (And.intro hs1 (And.intro hs2 (And.intro hnn (And.intro hrr (And.intro hsx (And.intro hs2x hhx))))))
      clear hs1 hs2 hnn hrr hsx hs2x hhx
      go_wp2_with (refine wpList_load_row rfl 75 _ rfl hh rfl 75 A' (0, 0) _ hb4 Try.underlying75 rfl (by rw [lineInfo]; exact congrArg some hA66.symm) ?_)
      obtain ⟨hs1, hs2, hnn, hrr, hsx, hs2x, hhx⟩ := H1.out
      have hk45 : Keeps [r, nm] wr w5 := (hkr4.mono (G := [r, nm]) (by simp)).trans (hk5.mono (G := [r, nm]) (by simp)) (fun i hi => .inl hi)
      have hit5 : Iter w5 r mb L (R.eraseIdx i) := by
        have a1 : mb < w1.heap.size := by have := hk02.size; omega
        have a2 : r < w1.heap.size := by omega
        refine hit1.same ?_ ?_
        · rw [hk5.block mb (by have := hk24.size; omega) (by simp; omega), hk24.block mb (by omega) (by simp; omega), hk2x.block mb a1 (by simp)]
        · rw [hk5.block r (by have := hk24.size; omega) (by simp; omega), hk24.block r (by omega) (by simp; omega), hk2x.block r a2 (by simp)]
      go_roundw
      case rel =>
        have hux0 : ∀ q ∈ L', q.1 ≠ k := by
          intro q hq he
          have e1 := hLx.keys
          have e2 : k ∈ qs.map (·.1) := by rw [← e1]; exact List.mem_map.2 ⟨q, hq, he⟩
          have e3 := (HP.out.map (·.1))
          have e4 : (M.map (·.1)).Nodup := by rw [← hl.keys]; exact hu
          have e5 := (e3.nodup_iff).2 e4
          rw [List.map_append, List.nodup_append] at e5
          exact e5.2.2 k e2 k (List.mem_map.2 ⟨(k, l), List.mem_of_getElem? HL.out, rfl⟩) rfl
        have hput := put_new hux0 (Value.agg A')
        rw [hput] at hm5
        have hblkA : blk (.agg A') = (Value.slice ao l.puts.length cp).ownBlock := by rw [HA'.out, blk_lineArr]
        have hnewb : ∀ g, (Value.slice ao l.puts.length cp).ownBlock = some g → w2.heap.size ≤ g := hnew3
        refine ⟨R.eraseIdx i, RM.eraseIdx i, qs ++ [(k, l)], L' ++ [(k, .agg A')], hit5, hlx.erase i, ?_, hm5, ?_, ?_, ?_, ?_, ?_⟩
        · refine (List.Perm.trans ?_ HP.out)
          rw [List.append_assoc]
          exact List.Perm.append_left qs (perm_step RM i HL.out)
        · have hq : put qs k l = qs ++ [(k, l)] := put_new (by
            intro q hq he
            have e1 := hLx.keys
            have e2 : k ∈ L'.map (·.1) := by rw [e1]; exact List.mem_map.2 ⟨q, hq, he⟩
            obtain ⟨q', h1, h2⟩ := List.mem_map.1 e2
            exact hux0 q' h1 h2) l
          rw [← hq, ← hput]
          refine LinesAt.put (hLx.same fun g hg => hk45.block g ?_ ?_) k ⟨_, by rw [HA'.out], HML.out, hrw3.same fun g hg => ?_⟩
          · obtain ⟨q, hq, hg2⟩ := mem_blks.1 hg
            obtain ⟨j, hj⟩ := List.getElem?_of_mem hq
            obtain ⟨l2, _, hl2⟩ := hLx.2 j q.1 q.2 hj
            exact hl2.lt hg2
          · have := hnewx g hg
            simp; omega
          · have h1 := hnewb g hg
            have h2 := hrw3.lt hg
            rw [hk5.block g (by have := hk4.size; omega) (by simp; omega), hk4.block g h2 (by simp; omega)]
        · have := uniq_put hux k (Value.agg A')
          rw [hput] at this; exact this
        · rw [blks_append]
          cases c : (Value.slice ao l.puts.length cp).ownBlock with
          | none =>
            have : blks [(k, Value.agg A')] = [] := by simp [blks, hblkA, c]
            rw [this, List.append_nil]; exact hndx
          | some g =>
            have : blks [(k, Value.agg A')] = [g] := by simp [blks, hblkA, c]
            rw [this, ← List.cons_append, List.nodup_append]
            refine ⟨hndx, by simp, ?_⟩
            intro a ha b' hb' hab
            simp only [List.mem_singleton] at hb'
            have h1 := hnewb g c
            rcases List.mem_cons.1 ha with rfl | h2
            · omega
            · obtain ⟨q, hq, hg2⟩ := mem_blks.1 h2
              obtain ⟨j, hj⟩ := List.getElem?_of_mem hq
              obtain ⟨l2, _, hl2⟩ := hLx.2 j q.1 q.2 hj
              have := hl2.lt hg2
              omega
        · intro i hi
          rw [blks_append, List.mem_append] at hi
          rcases hi with h1 | h1
          · exact hnewx i h1
          · obtain ⟨q, hq, hg2⟩ := mem_blks.1 h1
            simp only [List.mem_singleton] at hq
            subst hq
            simp only [hblkA] at hg2
            have := hnewb i hg2
            omega
        · exact hkx.trans hk45 (fun i hi => .inl hi)
      case measure =>
        rw [hit5.left, hitx.left]
        have := (List.getElem?_eq_some_iff.1 HRI.out).1
        rw [List.length_eraseIdx_of_lt this]
        omega
end Go.Proofs.Ytfjjiohclokohaa.pm
