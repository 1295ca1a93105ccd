/-
  PROVED HERE: the contract of maps.EqualFunc and Same, at two memories of the same data: true. Conditions: the lines are the same up to their order in the map.
-/
import Derived.Test.YtfjjiohclokohaaSame
namespace Go.Proofs.Ytfjjiohclokohaa.pm
open Go.RowKit

theorem run_len_map {P : Program} {w : World} {mb : Nat} {L : List (Int × Value)} {T K E : TypeId} (h : MapIs w mb L) (ht : P.underlying T = some (.map K E)) (ty : TypeId) :
    (Builtin.len_ #[T] ty #[.map (some mb)]).run P w = .ok (.int .i64 L.length) w := by
  obtain ⟨es, clock, hb, he, _⟩ := h
  have hl := ents_length he
  rw [Array.length_toList] at hl
  simp [Builtin.len_, run_underlying ht, MapKept.run_getObj_map hb, hl, goInt]

set_option maxRecDepth 100000 in
set_option maxHeartbeats 1000000 in
theorem equalFunc_any {w : World} {m1 m2 : Nat} {L1 L2 : List (Int × Value)} {M1 M2 : List (Int × Line)} (h1 : MapIs w m1 L1) (h2 : MapIs w m2 L2) (l1 : LinesAt w L1 M1) (l2 : LinesAt w L2 M2) (u2 : Uniq L2)
    (hp : M1.Perm M2) (hfew : ∀ q ∈ M1, q.2.puts.length ≤ 1000000) :
    Calls Try.prog 33 #[.map (some m1), .map (some m2), .func (.func 34) #[] #[]] w fun e w' => e = .returned (.bool true) ∧ Keeps [] w w' := by
  have hL : L1.length = L2.length := by rw [l1.1, l2.1, hp.length_eq]
  have e1 := run_len_map (P := Try.prog) h1 Try.underlying64
  have e2 := run_len_map (P := Try.prog) h2 Try.underlying64
  rw [hL] at e1
  have u2M : Uniq M2 := by unfold Uniq at u2 ⊢; rw [← l2.keys]; exact u2
  have HU := Lib.hid u2M; clear u2M
  have HL := Lib.hid hL; clear hL
  obtain ⟨W, hrg, ⟨o, hW⟩, hit⟩ := run_range_map (P := Try.prog) (T := 64) (E := 75) h1 Try.underlying64
  have hkW : Keeps [] w W := by rw [hW]; exact Keeps.alloc w _
  have hsW : W.heap.size = w.heap.size + 1 := by rw [hW]; simp
  have HW := Lib.hid hW; clear hW
  have HSW := Lib.hid hsW; clear hsW
  have h2lt := h2.lt
  have h1lt := h1.lt
  go_enter Try.func33, Try.ntmps33
  go_wp2_with fail
  clear e1 e2 hrg
  obtain ⟨r, hr⟩ : ∃ r, r = w.heap.size := ⟨_, rfl⟩
  rw [← hr] at hit ⊢
  have HR := Lib.hid hr; clear hr
  go_loopw [7] (fun _ wx => ∃ R RM, Iter wx r m1 L1 R ∧ LinesAt w R RM ∧ (∀ q ∈ RM, q ∈ M1) ∧ Keeps [r] W wx) (fun _ wx => wx.rangeLeft m1 r)
  case atStart => exact ⟨L1, M1, hit, l1, fun q hq => hq, Keeps.refl _ _⟩
  case round =>
    obtain ⟨R, RM, hitx, hlx, hsub, hkx⟩ := hrel
    by_cases hR : R = []
    · have hnx := run_next_over (P := Try.prog) (hR ▸ hitx)
      have HRN := Lib.hid hR; clear hR
      go_wp2_with fail
      go_ret
      refine ⟨rfl, hkW.trans hkx (fun i hi => ?_)⟩
      simp only [List.mem_singleton] at hi
      right; rw [hi, HR.out]; exact Nat.le_refl _
    · obtain ⟨i, k, v, w1, d, hRi, hnx, ⟨o, hw1⟩, hit1, hen⟩ := run_next_some (P := Try.prog) hitx hR
      have HRN := Lib.hid hR; clear hR
      obtain ⟨l, hll, sv, rfl, hml, hrw⟩ := hlx.2 i k v hRi
      have hk1x : Keeps [r] wr w1 := by rw [hw1]; exact (Keeps.putB wr r o).trans ((Keeps.drewBy _ d).mono (G := [r]) (by simp)) (fun i hi => .inl hi)
      have hs1x : w1.heap.size = wr.heap.size := by rw [hw1]; exact putB_size
      have HW1x := Lib.hid hw1; clear hw1
      have hA1 : (lineArr sv l.marks).size = 66 := lineArr_size hml
      have hst := store_line0 w1 hA1 (lineArr_one hrw.oneCell)
      have hmem : (k, l) ∈ M1 := hsub _ (List.mem_of_getElem? hll)
      have hfl := hfew _ hmem
      simp only [] at hfl
      -- the other map's line
      have hg2 : get M2 k = some l := mem_get HU.out (hp.subset hmem)
      obtain ⟨v2, hv2, sv2, hrw2, hv2e⟩ : ∃ v2, get L2 k = some v2 ∧ ∃ sv2, RowAt w 56 2 sv2 l.puts.length (flat l.puts) ∧ v2 = .agg (lineArr sv2 l.marks) := by
        cases c : get L2 k with
        | none => have := l2.get_none c; rw [this] at hg2; cases hg2
        | some v2 =>
          obtain ⟨l', h3, sv2, h4, _, h5⟩ := l2.get_some c
          rw [h3] at hg2; cases hg2
          exact ⟨v2, rfl, sv2, h5, h4⟩
      obtain ⟨A, hA⟩ : ∃ A, A = lineArr sv l.marks := ⟨_, rfl⟩
      obtain ⟨B, hB⟩ : ∃ B, B = lineArr sv2 l.marks := ⟨_, rfl⟩
      rw [← hA] at hst hnx hen hA1
      obtain ⟨w2, hw2⟩ : ∃ w2, w2 = w1.alloc (.cells A 75) := ⟨_, rfl⟩
      have hk2x : Keeps [] w1 w2 := by rw [hw2]; exact Keeps.alloc w1 _
      have hs2x : w2.heap.size = w1.heap.size + 1 := by rw [hw2]; simp
      have hb2 : w2.heap[w1.heap.size]? = some (.cells A 75 (0, 0)) := by rw [hw2]; exact alloc_new (w := w1)
      rw [← hw2] at hst
      have hkW2 : Keeps [r] W w2 := (hkx.trans hk1x (fun i hi => .inl hi)).trans (hk2x.mono (G := [r]) (by simp)) (fun i hi => .inl hi)
      have old : ∀ i, i < w.heap.size → w2.heap[i]? = w.heap[i]? := fun i hi => by
        have a1 := HR.out
        rw [hkW2.block i (Nat.lt_of_lt_of_le hi hkW.size) (by simp; omega)]; exact hkW.block i hi (by simp)
      have h2x : MapIs w2 m2 L2 := h2.same (old _ h2lt)
      have hlk : (Instr.lookup 64 (.map (some m2)) (.int .u64 k) true).run Try.prog w2 = .ok (.tuple #[.agg B, .bool true]) w2 := by
        rw [run_lookup2_u64 (P := Try.prog) h2x Try.underlying64 Try.underlying48 (lineZero _) k, hv2, hv2e, hB]; rfl
      have hB1 : B.size = 66 := by rw [hB]; exact lineArr_size hml
      have hst2 := store_line0 w2 hB1 (by rw [hB]; exact lineArr_one hrw2.oneCell)
      obtain ⟨w3, hw3⟩ : ∃ w3, w3 = w2.alloc (.cells B 75) := ⟨_, rfl⟩
      have hk3x : Keeps [] w2 w3 := by rw [hw3]; exact Keeps.alloc w2 _
      have hbA3 : w3.heap[w1.heap.size]? = some (.cells A 75 (0, 0)) := by rw [hw3]; exact alloc_old hb2
      have hbB3 : w3.heap[w2.heap.size]? = some (.cells B 75 (0, 0)) := by rw [hw3]; exact alloc_new (w := w2)
      rw [← hw3] at hst2
      have hlA := run_loadVar_row (P := Try.prog) w3 w1.heap.size 75 75 A (0, 0) _ hbA3 Try.underlying75 rfl (by rw [lineInfo]; exact congrArg some hA1.symm)
      have hlB := run_loadVar_row (P := Try.prog) w3 w2.heap.size 75 75 B (0, 0) _ hbB3 Try.underlying75 rfl (by rw [lineInfo]; exact congrArg some hB1.symm)
      have hrA3 : RowAt w3 56 2 sv l.puts.length (flat l.puts) := hrw.same fun g hg => by
        have := hrw.lt hg
        rw [hk3x.block g (by have := hkW2.size; have := hkW.size; omega) (by simp)]; exact old g this
      have hrB3 : RowAt w3 56 2 sv2 l.puts.length (flat l.puts) := hrw2.same fun g hg => by
        have := hrw2.lt hg
        rw [hk3x.block g (by have := hkW2.size; have := hkW.size; omega) (by simp)]; exact old g this
      have hcall := sameFn_any hrA3 hrB3 hml hfl
      rw [← hA, ← hB] at hcall
      have HC := Lib.hid hcall; clear hcall
      have HLA := Lib.hid hlA; clear hlA
      have HLB := Lib.hid hlB; clear hlB
      obtain ⟨x1, hx1⟩ : ∃ x1, x1 = w1.heap.size := ⟨_, rfl⟩
      obtain ⟨x2, hx2⟩ : ∃ x2, x2 = w2.heap.size := ⟨_, rfl⟩
      have HA := Lib.hid hA; clear hA
      have HB := Lib.hid hB; clear hB
      have HW2 := Lib.hid hw2; clear hw2
      have HW3 := Lib.hid hw3; clear hw3
      have HS2x := Lib.hid hs2x; clear hs2x
      have HS1x := Lib.hid hs1x; clear hs1x
      have HL2 := Lib.hid hll; clear hll
      have HRI := Lib.hid hRi; clear hRi
      have HG2 := Lib.hid hg2; clear hg2
      have HV2 := Lib.hid hv2; clear hv2
      have HV2e := Lib.hid hv2e; clear hv2e
      have HML := Lib.hid hml; clear hml
      clear hx1 hx2 x1 x2
      go_upto_region 6 with fail
      go_upto_region 7 with fail
      have hlA := HLA.out
      have hlB := HLB.out
      clear hst hst2 hlk hnx hen
      go_wp2_with (first
        | (refine wpList_run (o := ⟨some 33, _, _, _, _, _⟩) rfl (v := .agg A) (w' := w3) (exec_load rfl rfl hlA) ?_)
        | (refine wpList_run (o := ⟨some 34, _, _, _, _, _⟩) rfl (v := .agg B) (w' := w3) (exec_load rfl rfl hlB) ?_)
        | (go_at_call 34; refine HC.out.mono ?_; rintro e w4 ⟨rfl, hk4⟩))
      have hk24 : Keeps [] w2 w4 := hk3x.trans hk4 (by simp)
      have hit4 : Iter w4 r m1 L1 (R.eraseIdx i) := by
        have a1 := HR.out
        have a2 := HSW.out
        have a3 := HS1x.out
        have a4 := HS2x.out
        have a5 := hkx.size
        refine hit1.same ?_ ?_
        · rw [hk24.block m1 (by omega) (by simp), hk2x.block m1 (by omega) (by simp)]
        · rw [hk24.block r (by omega) (by simp), hk2x.block r (by omega) (by simp)]
      go_roundw
      case rel =>
        refine ⟨R.eraseIdx i, RM.eraseIdx i, hit4, hlx.erase i, fun q hq => hsub q ((List.eraseIdx_sublist _ _).mem hq), hkW2.trans (hk24.mono (G := [r]) (by simp)) (fun i hi => .inl hi)⟩
      case measure =>
        rw [hit4.left, hitx.left]
        have := (List.getElem?_eq_some_iff.1 HRI.out).1
        rw [List.length_eraseIdx_of_lt this]
        omega

/-- The same data, the lines in another order. -/
structure Alike (M M' : Mod) : Prop where
  view : M.view = M'.view
  image : M.image = M'.image
  lines : M.lines.Perm M'.lines

set_option maxRecDepth 100000 in
set_option maxHeartbeats 1000000 in
theorem same_any {w : World} {b b' : Nat} {p p' : Pl} {M M' : Mod} (h : IsMem w b p M) (h' : IsMem w b' p' M') (hw : WF M) (hw' : WF M') (ha : Alike M M') (hfew : ∀ q ∈ M.lines, q.2.puts.length ≤ 1000000) :
    Calls Try.prog 15 #[.pointer (some ⟨b, 0, none⟩), .pointer (some ⟨b', 0, none⟩)] w fun e w' => e = .returned (.bool true) ∧ Keeps [] w w' := by
  obtain ⟨c0, c1, c2, _⟩ := h.blkAt.cells
  obtain ⟨d0, d1, d2, _⟩ := h'.blkAt.cells
  have hv : M'.view = M.view := ha.view.symm
  have hi : M'.image = M.image := ha.image.symm
  have R1 := h.view.reads
  have R2 : Reads w (p'.view M'.view.length) M.view.length (M.view.map (Value.int .u64)) := by have := h'.view.reads; rw [hv] at this ⊢; exact this
  have R3 := h.image.reads
  have R4 : Reads w (p'.image M'.image.length) M.image.length (M.image.map (Value.int .u64)) := by have := h'.image.reads; rw [hi] at this ⊢; exact this
  have HR1 := Lib.hid R1; clear R1
  have HR2 := Lib.hid R2; clear R2
  have HR3 := Lib.hid R3; clear R3
  have HR4 := Lib.hid R4; clear R4
  clear hv hi
  have hS : ∀ wx, Keeps [] w wx → (wx.cell? ⟨b, 0, none⟩ = some (p.view M.view.length) ∧ wx.cell? ⟨b, 1, none⟩ = some (p.image M.image.length) ∧ wx.cell? ⟨b, 2, none⟩ = some (.map (some p.mb)) ∧ wx.cell? ⟨b', 0, none⟩ = some (p'.view M'.view.length) ∧ wx.cell? ⟨b', 1, none⟩ = some (p'.image M'.image.length) ∧ wx.cell? ⟨b', 2, none⟩ = some (.map (some p'.mb)) ∧ Keeps [] w wx) := fun wx hk => by
    obtain ⟨c0, c1, c2, _⟩ := (h.keeps hk (by simp)).blkAt.cells
    obtain ⟨d0, d1, d2, _⟩ := (h'.keeps hk (by simp)).blkAt.cells
    exact ⟨c0, c1, c2, d0, d1, d2, hk⟩
  have HS := Lib.hid hS; clear hS
  have hk0 : Keeps [] w w.drew := Keeps.drew w
  have HFEW := Lib.hid hfew; clear hfew
  have hsm := hw.small
  have hsm2 : M.image.length ≤ 131072 := by rw [hw.len]; exact hw.small
  have HRD := Lib.hid (fun (wx : World) (v : Value) (n : Nat) (xs : List Value) (hk : Keeps [] w wx) (hr : Reads w v n xs) => (show Reads wx v n xs from by
    rcases hr with ⟨e, h2, h3⟩ | ⟨a, cap, e, h2, h3⟩
    · exact .inl ⟨e, h2, h3⟩
    · exact .inr ⟨a, cap, e, h2, fun j u hj => by
        have hc := h3 j u hj
        rw [World.cell?_of_block (hk.block _ (World.block_lt_of_cell? _ _ hc) (by simp))]; exact hc⟩))
  clear c0 c1 c2 d0 d1 d2
  go_enter Try.func15, Try.ntmps15
  go_wp2_with fail
  refine (there_yes h.blkAt hw.pos).mono ?_; rintro e w' ⟨rfl, rfl⟩
  go_wp2_with fail
  refine (there_yes h'.blkAt hw'.pos).mono ?_; rintro e w' ⟨rfl, rfl⟩
  go_wp2_with fail
  go_region_held3 (fun wx => wx.cell? ⟨b, 0, none⟩ = some (p.view M.view.length) ∧ wx.cell? ⟨b, 1, none⟩ = some (p.image M.image.length) ∧ wx.cell? ⟨b, 2, none⟩ = some (.map (some p.mb)) ∧ wx.cell? ⟨b', 0, none⟩ = some (p'.view M'.view.length) ∧ wx.cell? ⟨b', 1, none⟩ = some (p'.image M'.image.length) ∧ wx.cell? ⟨b', 2, none⟩ = some (.map (some p'.mb)) ∧ Keeps [] w wx)
    (first | exact HS.out _ (by assumption))
    (first
      | (go_at_call_of 32 (Pl.view p M.view.length); refine (equalU64_same (HRD.out _ _ _ _ (by assumption) HR1.out) (HRD.out _ _ _ _ (by assumption) HR2.out) hsm).mono ?_; rintro e w1 ⟨rfl, k1, _⟩; have K1 : Keeps [] w w1 := Keeps.trans (by assumption) k1 (by simp))
      | (go_at_call_of 32 (Pl.image p M.image.length); refine (equalU64_same (HRD.out _ _ _ _ (by assumption) HR3.out) (HRD.out _ _ _ _ (by assumption) HR4.out) hsm2).mono ?_; rintro e w2 ⟨rfl, k2, _⟩; have K2 : Keeps [] w w2 := Keeps.trans (by assumption) k2 (by simp))
      | (go_at_call 33; refine (equalFunc_any (h.keeps (by assumption) (by simp)).map (h'.keeps (by assumption) (by simp)).map (h.keeps (by assumption) (by simp)).lines (h'.keeps (by assumption) (by simp)).lines h'.uniq ha.lines HFEW.out).mono ?_; rintro e w3 ⟨rfl, k3⟩; have K3 : Keeps [] w w3 := Keeps.trans (by assumption) k3 (by simp)))
  all_goals go_wp2_with fail
  all_goals go_ret
  all_goals exact ⟨rfl, K3⟩
end Go.Proofs.Ytfjjiohclokohaa.pm
