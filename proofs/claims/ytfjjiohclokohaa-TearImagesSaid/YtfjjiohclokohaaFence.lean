/-
  PROVED HERE: Fence's contract. Conditions: the receiver is a memory, the client one.
-/
import Derived.Test.YtfjjiohclokohaaWf
import Derived.Shelf.SlMaps.Clone
import Derived.Outline
namespace Go.Proofs.Ytfjjiohclokohaa.pm
open Go.RowKit

set_option maxRecDepth 1000000 in
theorem call_clone (w : World) (args : Array Value) : (callFunc 51 args).run Try.prog w = ((Extern.MapsClone.clone args).run Try.prog w).andThen fun v w' => .ok (.value v) w' :=
  run_callFunc_extern Try.func51 (by kernel_rfl) (by kernel_rfl) (by kernel_rfl) (e := Extern.MapsClone.clone) (by kernel_rfl) args w

set_option maxRecDepth 100000 in
/-- the library's clone of a map: a new map of the same entries -/
theorem clone_any {w : World} {mb : Nat} {L : List (Int × Value)} (h : MapIs w mb L) :
    Calls Try.prog 44 #[.map (some mb)] w fun e w' => e = .returned (.map (some w.heap.size)) ∧ Keeps [] w w' ∧ MapIs w' w.heap.size L ∧ w'.heap.size = w.heap.size + 1 := by
  have hlt := h.lt
  obtain ⟨es, clock, hb, hr⟩ := h
  have HR := Lib.hid hr; clear hr
  have hq := fun w => run_eql_map_nil_sl (P := Try.prog) w 64 _ _ (some mb) Try.underlying64
  go_enter Try.func44, Try.ntmps44
  go_wp2_with fail
  rw [call_clone, run_maps_clone_sl w 64 hb]
  simp only [Result.andThen]
  rw [Oper.upon_value]
  go_wp2_with fail
  rw [run_typeAssert_map_sl _ 64 20 _ _ _ Try.underlying64]
  simp only [Result.andThen]
  rw [Oper.upon_value]
  go_wp2_with fail
  go_ret
  exact ⟨rfl, Keeps.alloc w _, ⟨es, clock, alloc_new (w := w), HR.out⟩, by simp⟩

theorem Iter.left {w : World} {r mb : Nat} {L R : List (Int × Value)} (h : Iter w r mb L R) : w.rangeLeft mb r = R.length := by
  obtain ⟨es, clock, seen, hb, hr, he, hc, hn, hR⟩ := h
  simp only [World.rangeLeft, hb, hr, leftOf]
  rw [← ents_length hR, ← Array.length_toList, Array.toList_filter]

theorem Iter.same {w w' : World} {r mb : Nat} {L R : List (Int × Value)} (h : Iter w r mb L R) (h1 : w'.heap[mb]? = w.heap[mb]?) (h2 : w'.heap[r]? = w.heap[r]?) : Iter w' r mb L R := by
  obtain ⟨es, clock, seen, hb, hr, rest⟩ := h
  exact ⟨es, clock, seen, h1.trans hb, h2.trans hr, rest⟩

theorem LinesAt.erase {w : World} {L : List (Int × Value)} {M : List (Int × Line)} (h : LinesAt w L M) (i : Nat) : LinesAt w (L.eraseIdx i) (M.eraseIdx i) := by
  refine ⟨by simp [List.length_eraseIdx, h.1], fun j k v hq => ?_⟩
  simp only [List.getElem?_eraseIdx] at hq ⊢
  split at hq
  · rename_i e; simp only [e, if_true]; exact h.2 _ k v hq
  · rename_i e; simp only [e, if_false]; exact h.2 _ k v hq

theorem perm_step {α : Type} (l : List α) (i : Nat) {x : α} (h : l[i]? = some x) : (x :: l.eraseIdx i).Perm l := by
  obtain ⟨hi, he⟩ := List.getElem?_eq_some_iff.1 h
  have e1 : l = l.take i ++ x :: l.drop (i + 1) := by
    conv => lhs; rw [← List.take_append_drop i l, List.drop_eq_getElem_cons hi, he]
  have e2 : l.eraseIdx i = l.take i ++ l.drop (i + 1) := List.eraseIdx_eq_take_drop_succ ..
  rw [e2]
  conv => rhs; rw [e1]
  exact List.perm_middle.symm

/-- One line's fence, and all of them, one behind the other. -/
def Mod.fence1 (c : Nat) (M : Mod) (q : Int × Line) : Mod := M.last q.1 (min (q.2.marks.getD c 0).toNat (M.pendK q.1))
def Mod.fences (c : Nat) (M : Mod) (qs : List (Int × Line)) : Mod := qs.foldl (Mod.fence1 c) M

theorem WF.fences {c : Nat} : ∀ (qs : List (Int × Line)) {M : Mod}, WF M → WF (M.fences c qs)
  | [], _, h => h
  | _ :: qs, _, h => WF.fences qs (h.last)

set_option maxRecDepth 100000 in
set_option maxHeartbeats 1000000 in
theorem fence_any {w : World} {b : Nat} {p : Pl} {M : Mod} (h : IsMem w b p M) (hw : WF M) (c : Nat) (hc : c ≤ 64) (hfew : ∀ q ∈ M.lines, q.2.puts.length ≤ 1000000) :
    Calls Try.prog 23 #[.pointer (some ⟨b, 0, none⟩), .int .i64 c] w fun e w' => e = .returned (.int .i64 0) ∧
      ∃ qs p', qs.Perm M.lines ∧ IsMem w' b p' (Mod.fences c { M with s3 := IntKind.u64.wrap (M.s3 + 1) } qs) ∧ Keeps (p.foot b) w w' ∧ ∀ i ∈ p'.foot b, i ∈ p.foot b ∨ w.heap.size ≤ i := by
  have hcl : cliE c = 0 := by unfold cliE; rw [if_neg (by omega)]
  have hsep := h.sep
  simp only [Pl.foot, List.nodup_cons, List.mem_cons, not_or] at hsep
  obtain ⟨⟨hbv, hbi, hbm, hbL⟩, ⟨hvi, hvm, hvL⟩, ⟨him, hiL⟩, hmL, hLL⟩ := hsep
  have c6 := h.blkAt.cells.2.2.2.2.2.2
  have fr := h.blkAt.free 6
  go_enter Try.func23, Try.ntmps23
  go_wp2_with fail
  refine (there_yes h.blkAt hw.pos).mono ?_; rintro e w' ⟨rfl, rfl⟩
  go_wp2_with fail
  refine (client_any _ _).mono ?_; rintro e w' ⟨rfl, rfl⟩
  rw [hcl]
  clear hcl
  go_upto_region 7 with fail
  obtain ⟨W, hW⟩ : ∃ W, W = w.setCell ⟨b, 6, none⟩ (.int .u64 (IntKind.u64.wrap (M.s3 + 1))) := ⟨_, rfl⟩
  rw [← hW]
  have hkW : Keeps [b] w W := by rw [hW]; exact Keeps.setCell w b 6 _
  have hsz : W.heap.size = w.heap.size := by rw [hW]; simp
  obtain ⟨M0, hM0⟩ : ∃ M0 : Mod, M0 = { M with s3 := IntKind.u64.wrap (M.s3 + 1) } := ⟨_, rfl⟩
  have hI : IsMem W b p M0 := by
    rw [hM0]
    have k0 : ∀ i ∈ p.foot b, i ≠ b → W.heap[i]? = w.heap[i]? := fun i hi hne => hkW.block i (h.lt i hi) (by simp [hne])
    refine ⟨?_, h.view.same fun g hg => ?_, h.image.same fun g hg => ?_, ?_, ?_, h.sep, h.uniq⟩
    · rw [hW]; exact set_same h.blkAt
    · cases hg; exact k0 _ (by simp [Pl.foot]) (Ne.symm hbv)
    · cases hg; exact k0 _ (by simp [Pl.foot]) (Ne.symm hbi)
    · exact h.map.same (k0 _ (by simp [Pl.foot]) (Ne.symm hbm))
    · exact h.lines.same fun g hg => k0 g (by simp [Pl.foot, hg]) (fun e => hbL (e ▸ hg))
  have hw0 : WF M0 := by rw [hM0]; exact ⟨hw.len, hw.pos, hw.small, hw.lines, hw.view, hw.image⟩
  have hlM : M0.lines = M.lines := by rw [hM0]
  have d2 := hI.blkAt.cells.2.2.1
  have HW := Lib.hid hW; clear hW
  have HM0 := Lib.hid hM0; clear hM0
  have HLM := Lib.hid hlM; clear hlM
  have HS := Lib.hid hsz; clear hsz
  clear c6 fr
  go_wp2_with fail
  refine (clone_any hI.map).mono ?_
  rintro e W1 ⟨rfl, hk1, hm1, hs1⟩
  obtain ⟨W2, hrg, ⟨o2, hW2⟩, hit⟩ := run_range_map (P := Try.prog) (T := 64) (E := 75) hm1 Try.underlying64
  have hk2 : Keeps [] W1 W2 := by rw [hW2]; exact Keeps.alloc W1 _
  have hs2 : W2.heap.size = W1.heap.size + 1 := by rw [hW2]; simp
  have HW2 := Lib.hid hW2; clear hW2
  have HS1 := Lib.hid hs1; clear hs1
  have HS2 := Lib.hid hs2; clear hs2
  go_wp2_with fail
  obtain ⟨cb, hcb⟩ : ∃ cb, cb = W.heap.size := ⟨_, rfl⟩
  obtain ⟨r, hr⟩ : ∃ r, r = W1.heap.size := ⟨_, rfl⟩
  rw [← hcb, ← hr] at hit
  rw [← hr]
  have HCB := Lib.hid hcb; clear hcb
  have HR := Lib.hid hr; clear hr
  have hk02 : Keeps [] W W2 := hk1.trans hk2 (by simp)
  clear hm1 hrg
  go_loopw [6] (fun _ wx => ∃ R RM qs p', Iter wx r cb p.L R ∧ LinesAt W R RM ∧ (qs ++ RM).Perm M.lines ∧ IsMem wx b p' (Mod.fences c M0 qs) ∧ Keeps (r :: p.foot b) W2 wx ∧ (∀ i ∈ p'.foot b, i ∈ p.foot b ∨ W2.heap.size ≤ i)) (fun _ wx => wx.rangeLeft cb r)
  case atStart =>
    exact ⟨p.L, M.lines, [], p, hit, by rw [← HLM.out]; exact hI.lines, List.Perm.refl _, hI.keeps hk02 (by simp), Keeps.refl _ _, fun i hi => .inl hi⟩
  case round =>
    obtain ⟨R, RM, qs, p', hitx, hlx, hperm, hIx, hkx, hfx⟩ := hrel
    have hrf : ∀ i ∈ p'.foot b, i ≠ r ∧ i ≠ cb := fun i hi => by
      have a1 := HR.out; have a2 := HCB.out; have a3 := HS1.out; have a4 := HS2.out; have a5 := HS.out
      rcases hfx i hi with h1 | h1
      · have := h.lt i h1; omega
      · omega
    have hwx : WF (Mod.fences c M0 qs) := WF.fences qs hw0
    by_cases hR : R = []
    · have hnx := run_next_over (P := Try.prog) (hR ▸ hitx)
      have hRM : RM = [] := by
        have := hlx.1
        rw [hR] at this
        exact List.eq_nil_of_length_eq_zero this.symm
      have HP := Lib.hid hperm; clear hperm
      have HRM := Lib.hid hRM; clear hRM
      have HRN := Lib.hid hR; clear hR
      go_wp2_with fail
      go_ret
      refine ⟨rfl, qs, p', ?_, ?_, ?_, fun i hi => ?_⟩
      · have := HP.out; rw [HRM.out, List.append_nil] at this; exact this
      · rw [← HM0.out]; exact hIx
      · refine (hkW.mono (G := p.foot b) (by simp [Pl.foot])).trans ((hk02.mono (G := r :: p.foot b) (by simp)).trans hkx (fun i hi => .inl hi)) (fun i hi => ?_)
        rcases List.mem_cons.1 hi with rfl | h2
        · right; have a1 := HR.out; have a3 := HS1.out; have a5 := HS.out; omega
        · exact .inl h2
      · rcases hfx i hi with h1 | h1
        · exact .inl h1
        · right; have a3 := HS1.out; have a4 := HS2.out; have a5 := HS.out; omega
    · obtain ⟨i, k, v, w1, d, hRi, hnx, ⟨o, hw1⟩, hit1, hen⟩ := run_next_some (P := Try.prog) hitx hR
      have HRN := Lib.hid hR; clear hR
      obtain ⟨l, hl, sv, rfl, hml, hrw⟩ := hlx.2 i k v hRi
      have hk1x : Keeps [r] wr w1 := by rw [hw1]; exact (Keeps.putB wr r o).trans ((Keeps.drewBy _ d).mono (G := [r]) (by simp)) (fun i hi => .inl hi)
      have hs1x : w1.heap.size = wr.heap.size := by rw [hw1]; exact putB_size
      have HW1 := Lib.hid hw1; clear hw1
      have hA1 : (lineArr sv l.marks).size = 66 := lineArr_size hml
      have hst := store_line0 w1 hA1 (lineArr_one hrw.oneCell)
      obtain ⟨A, hA⟩ : ∃ A, A = lineArr sv l.marks := ⟨_, rfl⟩
      rw [← hA] at hst hnx hen hA1
      have hmem : (k, l) ∈ M.lines := hperm.subset (List.mem_append_right _ (List.mem_of_getElem? hl))
      obtain ⟨m, hm⟩ : ∃ m, l.marks[c]? = some m := ⟨_, List.getElem?_eq_getElem (by omega)⟩
      have hmb := (hw.lines _ hmem).2.2.2.2.2 m (List.mem_of_getElem? hm)
      have hfl := hfew _ hmem
      simp only [] at hmb hfl
      obtain ⟨mn, rfl⟩ : ∃ mn : Nat, m = mn := ⟨m.toNat, by omega⟩
      have hmn : mn ≤ 1000000 := by omega
      have hAc : A[c + 1]? = some (.int .i64 mn) := by rw [hA]; exact lineArr_mark hm
      have HA := Lib.hid hA; clear hA
      have HML := Lib.hid hml; clear hml
      have HHM := Lib.hid hm; clear hm
      have HS1x := Lib.hid hs1x; clear hs1x
      have HP := Lib.hid hperm; clear hperm
      have HL := Lib.hid hl; clear hl
      have HRI := Lib.hid hRi; clear hRi
      have HMB := Lib.hid hmb; clear hmb
      have HAC := Lib.hid hAc; clear hAc
      go_upto_region 10 with fail
      obtain ⟨w2, hw2⟩ : ∃ w2, w2 = w1.alloc (.cells A 75) := ⟨_, rfl⟩
      rw [← hw2]
      have hk2x : Keeps [] w1 w2 := by rw [hw2]; exact Keeps.alloc w1 _
      have hb2 : w2.heap[w1.heap.size]? = some (.cells A 75 (0, 0)) := by rw [hw2]; exact alloc_new (w := w1)
      have q0 : w2.cell? ⟨w1.heap.size, 1 + c, none⟩ = some (.int .i64 mn) := cell_of hb2 (by rw [Nat.add_comm]; exact HAC.out)
      have HW2x := Lib.hid hw2; clear hw2
      clear hst hnx hen
      have hkx2 : Keeps [r] wr w2 := hk1x.trans (hk2x.mono (G := [r]) (by simp)) (fun i hi => .inl hi)
      have hI2 : IsMem w2 b p' (Mod.fences c M0 qs) := hIx.keeps hkx2 (fun i hi => by simp only [List.mem_singleton]; exact (hrf i hi).1)
      have hsm : (Mod.fences c M0 qs).image.length ≤ 131072 := by rw [hwx.len]; exact hwx.small
      go_wp2_with fail
      refine (last_any hI2 hwx.putsIn hwx.marksIn hsm k mn (by omega)).mono ?_
      rintro e w3 ⟨rfl, p3, hI3, hk3, hf3⟩
      go_wp2_with fail
      have hs1 := HS1.out
      have hs2 := HS2.out
      have hsW := HS.out
      have hrr := HR.out
      have hcc := HCB.out
      have hsx := HS1x.out
      have k13 : ∀ i, i < W2.heap.size → i ∉ p.foot b → i ≠ r → w3.heap[i]? = w1.heap[i]? := fun i h1 h2 h3 => by
        have h4 : i < w1.heap.size := by rw [hsx]; exact Nat.lt_of_lt_of_le h1 hkx.size
        rw [hk3.block i (Nat.lt_of_lt_of_le h4 hk2x.size) (fun hm => (hfx i hm).elim h2 (fun h5 => by omega)), hk2x.block i h4 (by simp)]
      have nf : ∀ i, w.heap.size ≤ i → i ∉ p.foot b := fun i hi hm => by have := h.lt i hm; omega
      have hit3 : Iter w3 r cb p.L (R.eraseIdx i) := by
        refine hit1.same (k13 cb (by omega) (nf _ (by omega)) (by omega)) ?_
        have h4 : r < w1.heap.size := by rw [hsx]; have := hkx.size; omega
        rw [hk3.block r (Nat.lt_of_lt_of_le h4 hk2x.size) (fun hm => (hrf r hm).1 rfl), hk2x.block r h4 (by simp)]
      go_roundw
      case rel =>
        refine ⟨R.eraseIdx i, RM.eraseIdx i, qs ++ [(k, l)], p3, hit3, hlx.erase i, ?_, ?_, ?_, ?_⟩
        · refine (List.Perm.trans ?_ HP.out)
          rw [List.append_assoc]
          exact List.Perm.append_left qs (perm_step RM i HL.out)
        · have he : Mod.fences c M0 (qs ++ [(k, l)]) = (Mod.fences c M0 qs).last k (min mn ((Mod.fences c M0 qs).pendK k)) := by
            simp only [Mod.fences, List.foldl_append, List.foldl_cons, List.foldl_nil, Mod.fence1, List.getD_eq_getElem?_getD, HHM.out, Option.getD_some, Int.toNat_natCast]
          rw [he]; exact hI3
        · refine (hkx.trans (hkx2.mono (G := r :: p.foot b) (fun i hi => .inl (by simp only [List.mem_singleton] at hi; simp [hi]))) (fun i hi => .inl hi)).trans hk3 (fun i hi => ?_)
          rcases hfx i hi with h1 | h1
          · exact .inl (List.mem_cons_of_mem _ h1)
          · exact .inr h1
        · intro i hi
          rcases hf3 i hi with h1 | h1
          · exact hfx i h1
          · right; have := hkx.size; have := hkx2.size; omega
      case measure =>
        rw [hit3.left, hitx.left]
        have := (List.getElem?_eq_some_iff.1 HRI.out).1
        rw [List.length_eraseIdx_of_lt this]
        omega
end Go.Proofs.Ytfjjiohclokohaa.pm
