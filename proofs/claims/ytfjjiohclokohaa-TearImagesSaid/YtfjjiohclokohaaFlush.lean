/-
  PROVED HERE: Flush's contract. Conditions: the receiver is a memory, the client one, the address a word's.
-/
import Derived.Test.YtfjjiohclokohaaMemB
namespace Go.Proofs.Ytfjjiohclokohaa.pm
open Go.RowKit

def Mod.flush (M : Mod) (c : Nat) (a : Int) : Mod :=
  { M with
    lines := match get M.lines (a - a % 64) with
      | some l => put M.lines (a - a % 64) ⟨l.puts, l.marks.set c l.puts.length⟩
      | none => M.lines
    s2 := IntKind.u64.wrap (M.s2 + 1) }

/-- What a call leaves that makes M' of M. -/
def ModPost (w : World) (b : Nat) (p : Pl) (M' : Mod) (e : Ending) (w' : World) : Prop :=
  e = .returned (.int .i64 0) ∧ ∃ p', IsMem w' b p' M' ∧ Keeps (p.foot b) w w' ∧ ∀ i ∈ p'.foot b, i ∈ p.foot b ∨ w.heap.size ≤ i

theorem lineArr_get {sv : Value} {marks : List Int} (i : Nat) (h : i < marks.length) : (lineArr sv marks)[i + 1]? = some (.int .i64 (marks[i])) := by simp [lineArr, h]

set_option maxRecDepth 100000 in
set_option maxHeartbeats 1000000 in
theorem flush_any {w : World} {b : Nat} {p : Pl} {M : Mod} (h : IsMem w b p M) (hn : 0 < M.view.length) (hn2 : M.view.length ≤ 131072)
    (c : Nat) (hc : c ≤ 64) (a : Int) (h0 : 0 ≤ a) (h1 : a / 8 < M.view.length) (h8 : a % 8 = 0) :
    Calls Try.prog 22 #[.pointer (some ⟨b, 0, none⟩), .int .i64 c, .int .u64 a] w (ModPost w b p (M.flush c a)) := by
  have hat : atE M.view.length a = 0 := by unfold atE; rw [if_neg (by omega)]
  have hcl : cliE c = 0 := by unfold cliE; rw [if_neg (by omega)]
  have hsep := h.sep
  simp only [Pl.foot, List.nodup_cons, List.mem_cons, not_or] at hsep
  obtain ⟨⟨hbv, hbi, hbm, hbL⟩, ⟨hvi, hvm, hvL⟩, ⟨him, hiL⟩, hmL, hLL⟩ := hsep
  have c5 := h.blkAt.cells.2.2.2.2.2.1
  have fr := h.blkAt.free 5
  have H8 := Lib.hid h8; clear h8
  go_enter Try.func22, Try.ntmps22
  go_wp2_with fail
  refine (there_yes h.blkAt hn).mono ?_; rintro e w' ⟨rfl, rfl⟩
  go_wp2_with fail
  refine (client_any _ _).mono ?_; rintro e w' ⟨rfl, rfl⟩
  rw [hcl]
  go_wp2_with fail
  refine (at_any h.blkAt hn hn2 a h0 (by omega)).mono ?_; rintro e w' ⟨rfl, rfl⟩
  rw [hat]
  clear hat hcl
  go_wp2_with fail
  obtain ⟨W, hW⟩ : ∃ W, W = w.setCell ⟨b, 5, none⟩ (.int .u64 (IntKind.u64.wrap (M.s2 + 1))) := ⟨_, rfl⟩
  rw [← hW]
  have hkW : Keeps [b] w W := by rw [hW]; exact Keeps.setCell w b 5 _
  have hMW : MemAt W b (p.view M.view.length) (p.image M.image.length) p.mb M.s0 M.s1 (IntKind.u64.wrap (M.s2 + 1)) M.s3 := by
    rw [hW]; exact set_same h.blkAt
  have d2 := hMW.cells.2.2.1
  have hsz : W.heap.size = w.heap.size := by rw [hW]; simp
  have hLW : MapIs W p.mb p.L := h.map.same (hkW.block _ h.map.lt (by simp; exact Ne.symm hbm))
  have hlines : LinesAt W p.L M.lines := h.lines.same fun g hg => hkW.block g (h.lt g (by simp [Pl.foot, hg])) (by
    simp only [List.mem_cons, List.not_mem_nil, or_false]; exact fun e => hbL (e ▸ hg))
  obtain ⟨sv, marks, puts, hget, hgetM, hmk, hrow, hblk⟩ := line_of hlines (a - a % 64)
  have hA1 : (lineArr sv marks).size = 66 := lineArr_size hmk
  have hA2 : (lineArr sv marks).all (·.oneCell') = true := lineArr_one hrow.oneCell
  have hlk : (Instr.lookup 64 (.map (some p.mb)) (.int .u64 (a - a % 64)) true).run Try.prog W.drew = .ok (.tuple #[.agg (lineArr sv marks), .bool (get p.L (a - a % 64)).isSome]) W.drew := by
    rw [← hget]; exact run_lookup2_u64 (w := W.drew) (hLW.same rfl) Try.underlying64 Try.underlying48 (lineZero _) _
  have hlk2 : (Instr.lookup 64 (.map (some p.mb)) (.int .u64 (a - a % 64)) true).run Try.prog (W.alloc (.cells Try.zeroCells75 75)).drew = .ok (.tuple #[.agg (lineArr sv marks), .bool (get p.L (a - a % 64)).isSome]) (W.alloc (.cells Try.zeroCells75 75)).drew := by
    rw [← hget]; exact run_lookup2_u64 (w := (W.alloc (.cells Try.zeroCells75 75)).drew) (hLW.same ((MapKept.heap_alloc W _).2 _ hLW.lt)) Try.underlying64 Try.underlying48 (lineZero _) _
  have hst := store_line W hA1 hA2
  have d2' : (W.alloc (.cells Try.zeroCells75 75)).cell? ⟨b, 2, none⟩ = some (.map (some p.mb)) := (World.cell?_alloc_lt _ _ _ (World.block_lt_of_cell? _ _ d2)).trans d2
  obtain ⟨A, hA⟩ : ∃ A, A = lineArr sv marks := ⟨_, rfl⟩
  obtain ⟨ok, hok⟩ : ∃ ok, ok = (get p.L (a - a % 64)).isSome := ⟨_, rfl⟩
  rw [← hA, ← hok] at hlk hlk2
  rw [← hA] at hst hA1 hA2
  have HA := Lib.hid hA; clear hA
  have HW := Lib.hid hW; clear hW
  have HG := Lib.hid hgetM; clear hgetM
  have HS := Lib.hid hsz; clear hsz
  have HO := Lib.hid hok; clear hok
  have HM := Lib.hid hmk; clear hmk
  have HGL := Lib.hid hget; clear hget
  have hblk0 := Lib.hid hblk; clear hblk
  clear c5 fr
  go_cut [9, 10] (fun s9 s10 wx => s9 = .pointer (some ⟨W.heap.size, 0, none⟩) ∧ s10 = .bool ok ∧ wx = (W.alloc (.cells A 75)).drew)
  case first =>
    go_region_with (go_at_call 39; refine (begin_any _ _ h0 (by omega)).mono ?_; rintro e w' ⟨rfl, rfl⟩)
    all_goals (go_wp2_with fail; go_meet; exact ⟨rfl, rfl, rfl⟩)
  case rest =>
    obtain ⟨rfl, rfl, rfl⟩ := hcut
    clear hlk hlk2 hst d2'
    obtain ⟨W2, hW2⟩ : ∃ W2, W2 = (W.alloc (.cells A 75)).drew := ⟨_, rfl⟩
    rw [← hW2]
    have hk2 : Keeps [] W W2 := by rw [hW2]; exact (Keeps.alloc W _).trans (Keeps.drew _) (by simp)
    have hb2 : W2.heap[W.heap.size]? = some (.cells A 75 (0, 0)) := by rw [hW2]; exact alloc_new (w := W)
    have HW2 := Lib.hid hW2; clear hW2
    obtain ⟨hh, hhh⟩ : ∃ hh, hh = W.heap.size := ⟨_, rfl⟩
    rw [← hhh] at hb2 ⊢
    have HH := Lib.hid hhh; clear hhh
    have hkw2 : Keeps [b] w W2 := hkW.trans (hk2.mono (G := [b]) (by simp)) (fun i hi => .inl hi)
    cases ok with
    | false =>
      have hgl : get p.L (a - a % 64) = none := by
        have := HO.out; cases c : get p.L (a - a % 64) with
        | none => rfl
        | some v => rw [c] at this; cases this
      have hfl : M.flush c a = { M with s2 := IntKind.u64.wrap (M.s2 + 1) } := by unfold Mod.flush; rw [h.lines.get_none hgl]
      have HF := Lib.hid hfl; clear hfl
      have HGN := Lib.hid hgl; clear hgl
      go_wp2
      go_ret
      refine ⟨rfl, p, ?_, hkw2.mono (by simp [Pl.foot]), fun i hi => .inl hi⟩
      rw [HF.out]
      refine ⟨(hk2.block b (lt_of hMW) (by simp)).trans hMW, h.view.same fun g hg => ?_, h.image.same fun g hg => ?_, ?_, ?_, h.sep, h.uniq⟩
      · cases hg; exact hkw2.block _ (h.view.lt rfl) (by simp; exact Ne.symm hbv)
      · cases hg; exact hkw2.block _ (h.image.lt rfl) (by simp; exact Ne.symm hbi)
      · exact h.map.same (hkw2.block _ h.map.lt (by simp; exact Ne.symm hbm))
      · exact h.lines.same fun g hg => hkw2.block g (h.lt g (by simp [Pl.foot, hg])) (by simp only [List.mem_cons, List.not_mem_nil, or_false]; exact fun e => hbL (e ▸ hg))
    | true =>
      have q0 : W2.cell? ⟨hh, 0, none⟩ = some sv := cell_of hb2 (by rw [HA.out]; exact lineArr_zero)
      obtain ⟨m0, hm0⟩ : ∃ m0, W2.cell? ⟨hh, 1 + c, none⟩ = some (.int .i64 m0) := ⟨_, cell_of hb2 (by rw [HA.out, Nat.add_comm]; exact lineArr_get c (by have := HM.out; omega))⟩
      have f0 := free_of (i := 1 + c) hb2
      have hlen : ∃ ao cp, sv = .slice ao puts.length cp := by
        obtain ⟨_, ⟨rfl, h2⟩ | ⟨g, off, cap, cur, rfl, _⟩⟩ := hrow
        · exact ⟨none, 0, by rw [h2]⟩
        · exact ⟨_, _, rfl⟩
      obtain ⟨ao, cp, rfl⟩ := hlen
      go_wp2
      obtain ⟨W4, hW4⟩ : ∃ W4, W4 = W2.setCell ⟨hh, 1 + c, none⟩ (.int .i64 puts.length) := ⟨_, rfl⟩
      rw [← hW4]
      have hk4 : Keeps [hh] W2 W4 := by rw [hW4]; exact Keeps.setCell W2 hh _ _
      have hkW4 : Keeps [] W W4 := (hk2.mono (by simp)).trans hk4 (fun i hi => .inr (by simp only [List.mem_singleton] at hi; rw [hi, HH.out]; exact Nat.le_refl _))
      have hM4 : MemAt W4 b (p.view M.view.length) (p.image M.image.length) p.mb M.s0 M.s1 (IntKind.u64.wrap (M.s2 + 1)) M.s3 := (hkW4.block b (lt_of hMW) (by simp)).trans hMW
      have d4 := hM4.cells.2.2.1
      have hL4 : MapIs W4 p.mb p.L := hLW.same (hkW4.block _ hLW.lt (by simp))
      obtain ⟨A', hA'⟩ : ∃ A', A' = lineArr (.slice ao puts.length cp) (marks.set c puts.length) := ⟨_, rfl⟩
      have hb4 : W4.heap[hh]? = some (.cells A' 75 (0, 0)) := by
        rw [hW4, set_same hb2, HA.out, Nat.add_comm, lineArr_setMark, hA']
      have hA66 : A'.size = 66 := by rw [hA']; exact lineArr_size (by rw [List.length_set]; exact HM.out)
      obtain ⟨es, clock, hup, hm5⟩ := run_update_u64 (P := Try.prog) (w := W4.drew) (T := 64) (E := 75) (hL4.same rfl) Try.underlying64 Try.underlying48 (a - a % 64) (.agg A')
      have HA' := Lib.hid hA'; clear hA'
      have HW4 := Lib.hid hW4; clear hW4
      obtain ⟨W5, hW5⟩ : ∃ W5, W5 = putB W4.drew p.mb (.map es clock) := ⟨_, rfl⟩
      rw [← hW5] at hup hm5
      have HW5 := Lib.hid hW5; clear hW5
      clear q0 f0 hb2 hm0
      refine wp_region_still_tail 7 (by kernel_rfl) (by kernel_rfl) ?_
      simp only [List.take_succ_cons, List.take_zero, List.drop_succ_cons, List.drop_zero]
      still_step
      still_step
      still_step
      still_step
      still_step
      still_call ((begin_any _ _ h0 (by omega)).mono fun _ _ h => ⟨h.1, h.2.symm⟩)
      refine wpStill_load_row rfl 75 _ rfl hh rfl 75 A' (0, 0) _ hb4 Try.underlying75 rfl (by rw [lineInfo]; exact congrArg some hA66.symm) ?_
      simp only [Act.put, List.setIfInBounds_toArray, List.set_cons_succ, List.set_cons_zero]
      refine wpStill_nil ?_
      go_wp2
      go_ret
      refine ⟨rfl, ?_⟩
      have hk : Keeps ([b, p.vb] ++ (Value.slice ao puts.length cp).ownBlock.toList) w W4 := (hkW.mono (fun i hi => .inl (by simp only [List.mem_singleton] at hi; simp [hi]))).trans (hkW4.mono (G := [b, p.vb] ++ (Value.slice ao puts.length cp).ownBlock.toList) (by simp)) (fun i hi => .inl hi)
      have hfin := store_fin (k := a - a % 64) (v := .agg A') (l := ⟨puts, marks.set c puts.length⟩) (V := M.view) h hk (svb := (Value.slice ao puts.length cp).ownBlock)
        (fun g hg => (hblk0.out g hg).2) rfl hM4
        (h.view.same fun g hg => by
            cases hg
            rw [hkW4.block _ (by rw [HS.out]; exact h.view.lt rfl) (by simp)]
            exact hkW.block _ (h.view.lt rfl) (by simp; exact Ne.symm hbv))
        ⟨_, by rw [HA'.out], by rw [List.length_set]; exact HM.out, hrow.same fun g hg => hkW4.block _ (hrow.lt hg) (by simp)⟩
        (fun g hg => by
          rw [HA'.out, blk_lineArr] at hg
          exact .inl hg)
        HW5.out hm5
      have he : (M.flush c a) = { M with view := M.view, lines := put M.lines (a - a % 64) ⟨puts, marks.set c puts.length⟩, s1 := M.s1, s2 := IntKind.u64.wrap (M.s2 + 1) } := by
        unfold Mod.flush
        cases c1 : get M.lines (a - a % 64) with
        | none =>
          exfalso
          have h2 := HO.out
          cases c2 : get p.L (a - a % 64) with
          | none => rw [c2] at h2; cases h2
          | some v => obtain ⟨l, hl, _⟩ := h.lines.get_some c2; rw [c1] at hl; cases hl
        | some l =>
          have h3 := HG.out
          rw [c1] at h3
          simp only [Option.getD_some] at h3
          subst h3; rfl
      rw [he]
      exact hfin
end Go.Proofs.Ytfjjiohclokohaa.pm
