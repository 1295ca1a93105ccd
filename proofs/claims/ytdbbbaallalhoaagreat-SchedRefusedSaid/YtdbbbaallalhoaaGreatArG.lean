/-
  PROVED HERE: keys in rising order (Rising): at most so many numbers, in new memory; nothing that was there is turned. Conditions: the keys can be read; at most 30.
-/
import Derived.Test.YtdbbbaallalhoaaGreatArF
namespace Go.Proofs.YtdbbbaallalhoaaGreat.ar
open Go.RowKit Go.Proofs.YtdbbbaallalhoaaGreat.pm
set_option linter.unusedVariables false
attribute [-go_sem] Builtin.append_ Instr.buildSlice run_sliceAt_slice

theorem reads_sliced {w : World} {T : TypeId} {sz n cp l h : Nat} {ao : Option Addr} {xs : List Value} (hr : RowAt w T sz (.slice ao n cp) n xs) (hl : l ≤ h) (hn : h ≤ n) : Reads w (sliced ao l h cp sz) (h - l) ((xs.drop (l * sz)).take ((h - l) * sz)) := by
  have hxl := hr.1
  have h0 := hr
  obtain ⟨_, ⟨e, h1⟩ | ⟨g, off, cap, cur, e, hg, h1, h2, h3, ht⟩⟩ := hr
  · cases e
    obtain rfl : h = 0 := by omega
    obtain rfl : l = 0 := by omega
    exact .inl ⟨by simp [sliced], rfl, by simp⟩
  · cases e
    refine .inr ⟨if cp = l then ⟨g, off, none⟩ else (⟨g, off, none⟩ : Addr).add (l * sz), cp - l, by unfold sliced; split <;> rfl, ?_, fun j u hj => ?_⟩
    · split
      · rfl
      · rw [addr_add]
    · split
      · obtain rfl : h = l := by omega
        simp at hj
      · rw [addr_add]
        simp only [List.getElem?_take, List.getElem?_drop] at hj
        split at hj
        · have := h0.cell (j := l * sz + j) (u := u) hj
          rwa [← Nat.add_assoc] at this
        · cases hj

/-- What is laid down between two rounds. -/
structure RiseI (w : World) (wx : World) (v : Value) (os : List Int) : Prop where
  row : RowAt wx 26 1 v os.length (os.map (Value.int .u64))
  le : os.length ≤ 30
  u : ∀ x ∈ os, U64 x
  own : ∀ q, v.ownBlock = some q → w.heap.size ≤ q
  keep : Keeps [] w wx
def RisePost (w : World) (e : Ending) (w' : World) : Prop := ∃ (v : Value) (os : List Int), e = .returned v ∧ RiseI w w' v os
theorem RiseI.same {w wx wy : World} {v : Value} {os : List Int} (h : RiseI w wx v os) (hk : Keeps [] wx wy) : RiseI w wy v os :=
  ⟨h.row.same fun q hq => hk.block q (h.row.lt hq) (by simp), h.le, h.u, h.own, h.keep.trans hk (by simp)⟩
theorem one_u64 (x : Int) (w : World) : (Instr.buildSlice 22 1 #[(0, .int .u64 x)]).run Tryz.prog w = .ok (.slice (some ⟨w.heap.size, 0, none⟩) 1 1) (w.alloc (.cells #[.int .u64 x] 26)) := by
  obtain ⟨i0, hi0, hz0, hz1, hz2⟩ := info_parts u64Info
  refine run_buildSlice w 22 26 1 _ #[.int .u64 x] i0 (.int .u64 0) Tryz.underlying22 hi0 hz0 (by rw [hz1]; decide) (by rw [hz1]; decide) ?_
  have := Go.Great.fill_whole (s := i0.size) (by rw [hz1]; decide) [Value.int .u64 x] ((Array.range (1 * i0.size)).map ((Value.int .u64 0).cells[· % (Value.int .u64 0).cells.size]!)) (fun u hu => by simp at hu; subst hu; rw [hz1]; rfl) (by simp)
  simp only [List.zipIdx_cons, List.zipIdx_nil, List.map_cons, List.map_nil, List.flatMap_cons, List.flatMap_nil, List.append_nil] at this
  exact this.trans (congrArg some rfl)

theorem reads_keep {w w' : World} {v : Value} {n : Nat} {xs : List Value} {F : List Nat} (h : Reads w v n xs) (hk : Keeps F w w') (hb : ∀ q, v.ownBlock = some q → q ∉ F) : Reads w' v n xs := by
  rcases h with h | ⟨a, cap, rfl, h2, h3⟩
  · exact .inl h
  · refine .inr ⟨a, cap, rfl, h2, fun j u hu => ?_⟩
    have hc := h3 j u hu
    rw [World.cell?_of_block (hk.block _ (World.block_lt_of_cell? _ _ hc) (hb _ (by cases a; cases h2; rfl)))]; exact hc
theorem app1 {w wx : World} {v : Value} {os : List Int} (h : RiseI w wx v os) {xv : Value} {ns : List Int} (hr : Reads wx xv ns.length (ns.map (Value.int .u64))) (hu : ∀ x ∈ ns, U64 x) (hle : os.length + ns.length ≤ 30) :
    ∃ v' w', (Builtin.append_ #[22, 22] 22 #[v, xv]).run Tryz.prog wx = .ok v' w' ∧ RiseI w w' v' (os ++ ns) ∧ Keeps v.ownBlock.toList wx w' ∧ (v'.ownBlock = v.ownBlock ∨ ∃ q, v'.ownBlock = some q ∧ wx.heap.size ≤ q) := by
  obtain ⟨i0, hi0, hz0, hz1, hz2⟩ := info_parts u64Info
  obtain ⟨v', w', hrun, r1, r2, r3, r4⟩ := run_append_row (P := Tryz.prog) (w := wx) 22 22 26 i0 (.int .u64 0) 1 8 Tryz.underlying22 hi0 hz0 hz1 hz2 rfl h.row hr (by simp) (fun u hu => by obtain ⟨x, _, rfl⟩ := List.mem_map.1 hu; rfl) (by unfold maxLen; omega) (by omega)
  have hk := Keeps.grown r2
  refine ⟨v', w', hrun, ⟨by rw [List.length_append, List.map_append]; exact r1, by simp; omega, fun x hx => (List.mem_append.1 hx).elim (h.u x) (hu x), fun q hq => ?_, h.keep.trans hk (fun j hj => .inr (h.own j (by simpa only [Option.mem_toList] using hj)))⟩, hk, r3⟩
  rcases r3 with e | ⟨q', e, hle⟩
  · exact h.own q (by rw [← e]; exact hq)
  · rw [e] at hq; cases hq; exact Nat.le_trans h.keep.size hle
theorem own_sliced (ao : Option Addr) (l h m s : Nat) : ∀ q, (sliced ao l h m s).ownBlock = some q → ∀ n cp, (Value.slice ao n cp).ownBlock = some q := by
  intro q hq n cp
  cases ao with
  | none => unfold sliced at hq; split at hq <;> cases hq
  | some a =>
    unfold sliced at hq
    split at hq
    · exact hq
    · rw [← hq]; obtain ⟨b, o, sp⟩ := a; simp only [Option.map_some, Value.ownBlock, Addr.add]; split <;> rfl
theorem rise3 {w wc : World} {ao : Option Addr} {n cp : Nat} {os : List Int} (hI : RiseI w wc (.slice ao n cp) os) (hn : n = os.length) (t : Nat) (ht : t ≤ n) (hn30 : n < 30) (x : Int) (hx : U64 x) {W0 : World} (hk0 : Keeps [] wc W0) :
    ∃ vA wA, (Builtin.append_ #[22, 22] 22 #[.slice none 0 0, sliced ao 0 t cp 1]).run Tryz.prog W0 = .ok vA wA ∧ Keeps [] wc wA ∧ Keeps [] W0 wA ∧
      ∀ wA2 b1, Keeps [] wA wA2 → wA2.cell? ⟨b1, 0, none⟩ = some (.int .u64 x) → ∃ vB wB, (Builtin.append_ #[22, 22] 22 #[vA, .slice (some ⟨b1, 0, none⟩) 1 1]).run Tryz.prog wA2 = .ok vB wB ∧ Keeps [] wc wB ∧
        ∃ vC wC, (Builtin.append_ #[22, 22] 22 #[vB, sliced ao t n cp 1]).run Tryz.prog wB = .ok vC wC ∧ RiseI w wC vC (os.take t ++ [x] ++ os.drop t) := by
  have hr0 := hI.row
  rw [← hn] at hr0
  have hu1 : Reads wc (sliced ao 0 t cp 1) (os.take t).length ((os.take t).map (Value.int .u64)) := by
    have := reads_sliced hr0 (l := 0) (h := t) (by omega) ht
    simp only [Nat.sub_zero, Nat.mul_one, List.drop_zero, ← List.map_take] at this
    rw [show (os.take t).length = t by rw [List.length_take]; omega]
    exact this
  have hu2 : Reads wc (sliced ao t n cp 1) (os.drop t).length ((os.drop t).map (Value.int .u64)) := by
    have := reads_sliced hr0 (l := t) (h := n) ht (Nat.le_refl _)
    rw [List.take_of_length_le (by simp; omega), Nat.mul_one, ← List.map_drop] at this
    rw [show (os.drop t).length = n - t by rw [List.length_drop]; omega]
    exact this
  have hlt : ∀ q, (Value.slice ao n cp).ownBlock = some q → q < wc.heap.size := fun q hq => hI.row.lt hq
  have h00 : RiseI w W0 (.slice none 0 0) [] := ⟨RowAt.nil _ _ _, by simp, by simp, fun q hq => (by cases hq), hI.keep.trans hk0 (by simp)⟩
  obtain ⟨vA, wA, r1, hA, kA, oA⟩ := app1 h00 (reads_keep hu1 hk0 (by simp)) (fun x hx => hI.u x (List.mem_of_mem_take hx)) (by simp; omega)
  have kA' : Keeps [] wc wA := hk0.trans kA (fun j hj => by simp [Value.ownBlock] at hj)
  have oA' : ∀ q, vA.ownBlock = some q → wc.heap.size ≤ q := fun q hq => by
    rcases oA with e | ⟨q', e, hle⟩
    · rw [e] at hq; cases hq
    · rw [e] at hq; cases hq; exact Nat.le_trans hk0.size hle
  rw [List.nil_append] at hA
  refine ⟨vA, wA, r1, kA', kA, fun wA2 b1 k2 hc => ?_⟩
  have hA2 := hA.same k2
  obtain ⟨vB, wB, r2, hB, kB, oB⟩ := app1 hA2 (xv := .slice (some ⟨b1, 0, none⟩) 1 1) (ns := [x]) (.inr ⟨⟨b1, 0, none⟩, 1, rfl, rfl, fun j u hu => by
    cases j with
    | zero => cases hu; exact hc
    | succ j => simp at hu⟩) (fun y hy => by simp at hy; subst hy; exact hx) (by simp; omega)
  have kB' : Keeps [] wc wB := (kA'.trans k2 (by simp)).trans kB (fun j hj => .inr (oA' j (by simpa only [Option.mem_toList] using hj)))
  have oB' : ∀ q, vB.ownBlock = some q → wc.heap.size ≤ q := fun q hq => by
    rcases oB with e | ⟨q', e, hle⟩
    · exact oA' q (by rw [← e]; exact hq)
    · rw [e] at hq; cases hq; exact Nat.le_trans (Nat.le_trans kA'.size k2.size) hle
  refine ⟨vB, wB, r2, kB', ?_⟩
  obtain ⟨vC, wC, r3, hC, kC, oC⟩ := app1 hB (reads_keep hu2 kB' (by simp)) (fun x hx => hI.u x (List.mem_of_mem_drop hx)) (by simp; omega)
  exact ⟨vC, wC, r3, hC⟩

set_option maxHeartbeats 4000000 in
theorem rising_any {w : World} {kv : Value} {ks : List Int} (hks : Reads w kv ks.length (ks.map (Value.int .u64))) (hku : ∀ k ∈ ks, U64 k) (hkn : ks.length ≤ 64) :
    Calls Tryz.prog 15 #[kv, .int .i64 30] w (RisePost w) := by
  obtain ⟨kao, kcp, rfl⟩ := reads_shape hks
  have HK := Lib.hid (And.intro hks (And.intro hku hkn)); clear hks hku hkn
  go_enter Tryz.func15, Tryz.ntmps15
  go_wp2_with fail
  go_loopw [5, 6] (fun s5 s6 wr => ∃ (i : Nat) (os : List Int) (ao : Option Addr) (cp : Nat), i ≤ ks.length ∧ s6 = .int .i64 i ∧ s5 = .slice ao os.length cp ∧ RiseI w wr (.slice ao os.length cp) os) (fun _ s6 _ => ks.length - (intOf s6).toNat)
  case atStart => exact ⟨0, [], none, 0, by omega, rfl, rfl, ⟨RowAt.nil _ _ _, by simp, by simp, fun q hq => (by cases hq), Keeps.refl _ _⟩⟩
  case round =>
    obtain ⟨i, os, ao, cp, hi, rfl, rfl, hI⟩ := hrel
    obtain ⟨n, hn⟩ : ∃ n, n = os.length := ⟨_, rfl⟩
    rw [← hn] at hI ⊢
    have hn30 : n ≤ 30 := by rw [hn]; exact hI.le
    have HI := Lib.hid (And.intro hI hn); clear hI hn
    by_cases hlt : i < ks.length
    · have hiI : (i : Int) < (ks.length : Int) := by omega
      obtain ⟨hks, hku, hkn⟩ := HK.out
      obtain ⟨x, hx⟩ : ∃ x, ks[i]? = some x := ⟨_, List.getElem?_eq_getElem hlt⟩
      have hxu := hku x (List.mem_of_getElem? hx)
      obtain ⟨⟨ag, aof, asp⟩, rfl, hsp, hck⟩ := reads_at hks hlt (u := .int .u64 x) (by rw [List.getElem?_map, hx]; rfl)
      dsimp only at hsp hck
      subst hsp
      have HCK := Lib.hid hck; clear hck hx hks hku
      by_cases hnl : n < 30
      · have hnI : (n : Int) < 30 := by omega
        obtain ⟨wo, rfl⟩ : ∃ wo : World, wo = wr := ⟨_, rfl⟩
        go_upto_block 2 with fail
        go_cut [7] from 20 to 36 (fun s7 wx => ∃ t : Nat, s7 = .int .i64 t ∧ t ≤ n ∧ Keeps [] wo wx)
        case first =>
          go_wp2_with fail
          go_loopw [7] (fun s7 wz => ∃ t : Nat, t ≤ n ∧ s7 = .int .i64 t ∧ Keeps [] wo wz) (fun s7 _ => n - (intOf s7).toNat)
          case atStart => exact ⟨0, by omega, rfl, Keeps.refl _ _⟩
          case round =>
            obtain ⟨t, ht, rfl, hkz⟩ := hrel
            by_cases htn : t < n
            · have htI : (t : Int) < (n : Int) := by omega
              have hIz := HI.out.1.same hkz
              obtain ⟨g1, o1, rfl⟩ := row_addr (by have := hIz.row; rw [← HI.out.2] at this; exact this) (by omega)
              obtain ⟨y, hy⟩ : ∃ y, os[t]? = some y := ⟨_, List.getElem?_eq_getElem (by have := HI.out.2; omega)⟩
              have cy : wr.cell? ⟨g1, o1 + t, none⟩ = some (.int .u64 y) := by
                have h1 := hIz.row
                rw [← HI.out.2] at h1
                exact h1.cell (j := t) (by rw [List.getElem?_map, hy]; rfl)
              have cx := HCK.out wr (HI.out.1.keep.trans hkz (by simp))
              have HZ := Lib.hid hkz
              clear hIz hy hkz
              by_cases hyx : y < x
              · go_wp2_with fail
                go_quiet (fail)
                go_wp2_with fail
                go_roundw
                case rel => exact ⟨t + 1, by omega, by go_num, HZ.out.trans (Keeps.drewBy wr nq) (by simp)⟩
                case measure => simp [intOf]; omega
              · go_wp2_with fail
                go_quiet (fail)
                go_wp2_with fail
                go_meet
                exact ⟨t, rfl, by omega, HZ.out.trans (Keeps.drewBy wr nq) (by simp)⟩
            · obtain rfl : t = n := by omega
              have HZ := Lib.hid hkz
              clear hkz
              go_wp2_with fail
              go_quiet (fail)
              go_wp2_with fail
              go_meet
              exact ⟨t, rfl, by omega, HZ.out.trans (Keeps.drewBy wr nq) (by simp)⟩
        case rest =>
        obtain ⟨t, rfl, ht, hkz⟩ := hcut
        have HZ := Lib.hid hkz; clear hkz
        go_upto_region 8 with fail
        go_cut [51] from 37 to 51 (fun s51 wx => ∃ c : Bool, s51 = .bool c ∧ Keeps [] wc wx)
        case first =>
          by_cases htn : t < n
          · have htI : (t : Int) < (n : Int) := by omega
            have hIz := HI.out.1.same HZ.out
            obtain ⟨g1, o1, rfl⟩ := row_addr (by have := hIz.row; rw [← HI.out.2] at this; exact this) (by omega)
            obtain ⟨y, hy⟩ : ∃ y, os[t]? = some y := ⟨_, List.getElem?_eq_getElem (by have := HI.out.2; omega)⟩
            have cy : wc.cell? ⟨g1, o1 + t, none⟩ = some (.int .u64 y) := by
              have h1 := hIz.row
              rw [← HI.out.2] at h1
              exact h1.cell (j := t) (by rw [List.getElem?_map, hy]; rfl)
            have cx := HCK.out wc (HI.out.1.keep.trans HZ.out (by simp))
            clear hIz hy
            go_wp2_with fail
            go_quiet (fail)
            go_wp2_with fail
            go_meet
            exact ⟨_, rfl, Keeps.drewBy wc nq⟩
          · obtain rfl : t = n := by omega
            go_wp2_with fail
            go_quiet (fail)
            go_wp2_with fail
            go_meet
            exact ⟨_, rfl, Keeps.drewBy wc nq⟩
        case rest =>
        obtain ⟨c, rfl, hkc⟩ := hcut
        obtain ⟨w5, rfl⟩ : ∃ w5 : World, w5 = wc := ⟨_, rfl⟩
        have hI5 := HI.out.1.same (HZ.out.trans hkc (by simp))
        cases c with
        | true =>
          have H5 := Lib.hid hI5; clear hI5 hkc
          go_wp2_with fail
          go_roundw
          case rel =>
            have hn := HI.out.2
            have h5 := H5.out
            rw [hn] at h5 ⊢
            exact ⟨i + 1, os, ao, cp, by omega, by go_num, rfl, h5⟩
          case measure => simp [intOf]; omega
        | false =>
          have hcp : n ≤ cp := by
            obtain ⟨_, _, e, h1, _⟩ := row_shape hI5.row
            cases e; have := HI.out.2; omega
          have hel : Tryz.prog.underlying 22 = some (.slice (Tryz.prog.elem 22)) := by simp [Program.elem, Tryz.underlying22]
          have hsz : ∀ wx, (sizeOf (Tryz.prog.elem 22)).run Tryz.prog wx = .ok 1 wx := fun wx => by
            obtain ⟨i0, hi0, hz0, hz1, hz2⟩ := info_parts u64Info
            simp [Program.elem, Tryz.underlying22, sizeOf, typeInfo, hi0, hz1]
          have hs1 : ∀ wx, (Instr.sliceAt 22 (.slice ao n cp) none (some (.int .i64 t)) none).run Tryz.prog wx = .ok (sliced ao 0 t cp 1) wx := fun wx => by
            rw [run_sliceAt_slice wx _ _ _ _ _ hel, run_slice_h wx _ _ _ _ hel .i64 t (by omega) (by omega), hsz]; simp [Result.andThen]
          have hs2 : ∀ wx, (Instr.sliceAt 22 (.slice ao n cp) (some (.int .i64 t)) none none).run Tryz.prog wx = .ok (sliced ao t n cp 1) wx := fun wx => by
            rw [run_sliceAt_slice wx _ _ _ _ _ hel, run_slice_l wx _ _ _ _ hel .i64 t (by omega) (by omega), hsz]; simp [Result.andThen]
          have hb := fun wx => one_u64 x wx
          obtain ⟨vA, wA, r1, kA, _, hA⟩ := rise3 hI5 HI.out.2 t ht hnl x hxu (Keeps.drew w5)
          obtain ⟨wD, hD⟩ : ∃ wD, wA.alloc (.cells #[.int .u64 x] 26) = wD := ⟨_, rfl⟩
          obtain ⟨vB, wB, r2, kB, vC, wC, r3, hC⟩ := hA wD wA.heap.size (by rw [← hD]; exact Keeps.alloc _ _) (by rw [← hD]; exact cell_of alloc_new rfl)
          obtain ⟨wE, hE⟩ : ∃ wE, w5.drew.alloc (.cells #[.int .u64 x] 26) = wE := ⟨_, rfl⟩
          obtain ⟨vF, wF, s1, kF, kEF, hF⟩ := rise3 hI5 HI.out.2 t ht hnl x hxu (W0 := wE) (by rw [← hE]; exact (Keeps.drew w5).trans (Keeps.alloc _ _) (by simp))
          obtain ⟨vG, wG, s2, kG, vH, wH, s3, hH⟩ := hF wF w5.heap.size (Keeps.refl _ _) (by
            have hc : wE.cell? ⟨w5.heap.size, 0, none⟩ = some (.int .u64 x) := by rw [← hE]; exact cell_of (alloc_new (w := w5.drew)) rfl
            rw [World.cell?_of_block (kEF.block _ (World.block_lt_of_cell? _ _ hc) (by simp))]; exact hc)
          have hkw : Keeps [] w w5 := hI5.keep
          have x1 := HCK.out w5 hkw
          have x2 := HCK.out wA (hkw.trans kA (by simp))
          have x3 := HCK.out wE (hkw.trans (by rw [← hE]; exact (Keeps.drew w5).trans (Keeps.alloc _ _) (by simp)) (by simp))
          have x4 := HCK.out wF (hkw.trans kF (by simp))
          obtain ⟨u1, hu1⟩ : ∃ u1, u1 = sliced ao 0 t cp 1 := ⟨_, rfl⟩
          obtain ⟨u2, hu2⟩ : ∃ u2, u2 = sliced ao t n cp 1 := ⟨_, rfl⟩
          rw [← hu1] at hs1 r1 s1
          rw [← hu2] at hs2 r3 s3
          have HH := Lib.hid (And.intro hC hH)
          clear hu1 hu2 hA hF hC hH kA kB kF kG kEF hkw hI5 hkc hcp hel hsz
          go_wp2_with fail
          go_region
          · obtain ⟨ao', cp', rfl, _, _⟩ := row_shape HH.out.1.row
            go_wp2_with fail
            go_roundw
            case rel => exact ⟨i + 1, _, ao', cp', by omega, by go_num, rfl, HH.out.1⟩
            case measure => simp [intOf]; omega
          · obtain ⟨ao', cp', rfl, _, _⟩ := row_shape HH.out.2.row
            go_wp2_with fail
            go_roundw
            case rel => exact ⟨i + 1, _, ao', cp', by omega, by go_num, rfl, HH.out.2⟩
            case measure => simp [intOf]; omega
      · obtain rfl : n = 30 := by omega
        go_wp2_with fail
        go_ret
        exact ⟨_, os, rfl, HI.out.1⟩
    · obtain rfl : i = ks.length := by omega
      go_wp2_with fail
      go_ret
      exact ⟨_, os, rfl, HI.out.1⟩
end Go.Proofs.YtdbbbaallalhoaaGreat.ar
