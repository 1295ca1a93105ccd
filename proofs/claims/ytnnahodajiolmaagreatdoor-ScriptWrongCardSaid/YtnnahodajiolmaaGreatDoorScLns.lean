/-
  PROVED HERE: the contracts of strings.Lines and of its closure, as an iterator: the lines of a text, each with its newline. Conditions: a text that is not as long as the largest int.
-/
import Derived.Test.YtnnahodajiolmaaGreatDoorScTexty
import Derived.Test.YtnnahodajiolmaaGreatDoorScFirst
namespace Go.Proofs.YtnnahodajiolmaaGreatDoor.sc
open Go Go.RowKit
set_option linter.unusedVariables false

/-! ### Lines, in plain words -/
def linesL : Bs → List Bs
  | [] => []
  | b :: r => if b = 10 then [10] :: linesL r else match linesL r with
    | [] => [[b]]
    | x :: t => (b :: x) :: t
theorem linesL_len : ∀ s : Bs, (linesL s).length ≤ s.length
  | [] => by simp [linesL]
  | b :: r => by
    have h := linesL_len r
    rw [linesL]
    split
    · simp; omega
    · split
      · simp
      · next x t e => rw [e] at h; simp at h ⊢; omega
theorem linesL_ne {s : Bs} (h : s ≠ []) : linesL s ≠ [] := by
  cases s with
  | nil => exact absurd rfl h
  | cons b r =>
    rw [linesL]
    split
    · simp
    · split <;> simp
theorem linesL_flat : ∀ s : Bs, (linesL s).flatten = s
  | [] => rfl
  | b :: r => by
    have h := linesL_flat r
    rw [linesL]
    split
    · next e => simp [h, e]
    · split
      · next e => rw [e] at h; simp at h ⊢; exact h
      · next x t e => rw [e] at h; simp at h ⊢; exact h
theorem linesL_mem {s x : Bs} (h : x ∈ linesL s) : x.length ≤ s.length := by
  have h2 := linesL_flat s
  rw [← h2]
  exact (List.sublist_flatten_of_mem h).length_le
theorem linesL_none : ∀ s : Bs, s ≠ [] → Go.Lib.indexByte s 10 < 0 → linesL s = [s]
  | [], h, _ => absurd rfl h
  | b :: r, _, hi => by
    rw [Go.Lib.indexByte] at hi
    split at hi
    · omega
    · next hb =>
      have hb' : b ≠ 10 := by simpa using hb
      rw [linesL, if_neg hb']
      cases r with
      | nil => simp [linesL]
      | cons c t =>
        have hlt : Go.Lib.indexByte (c :: t) 10 < 0 := by
          split at hi
          · next e =>
            have : Go.Lib.indexByte (c :: t) 10 = -1 := by simpa using e
            omega
          · next e =>
            have h1 := (indexByte_bd (c :: t) 10).1
            omega
        rw [linesL_none (c :: t) (by simp) hlt]
theorem linesL_some : ∀ (s : Bs) (i : Nat), Go.Lib.indexByte s 10 = (i : Int) → i < s.length ∧ linesL s = s.take (i + 1) :: linesL (s.drop (i + 1))
  | [], i, hi => by simp [Go.Lib.indexByte] at hi
  | b :: r, i, hi => by
    rw [Go.Lib.indexByte] at hi
    split at hi
    · next hb =>
      have hb' : b = 10 := by simpa using hb
      obtain rfl : i = 0 := by omega
      rw [linesL, if_pos hb', hb']
      simp
    · next hb =>
      have hb' : b ≠ 10 := by simpa using hb
      split at hi
      · omega
      · next e =>
        obtain ⟨j, hj⟩ : ∃ j : Nat, Go.Lib.indexByte r 10 = j := by
          have h1 := (indexByte_bd r 10).1
          have h2 : Go.Lib.indexByte r 10 ≠ -1 := by simpa using e
          exact ⟨(Go.Lib.indexByte r 10).toNat, by omega⟩
        obtain rfl : i = j + 1 := by omega
        obtain ⟨h1, h2⟩ := linesL_some r j hj
        refine ⟨by simp; omega, ?_⟩
        rw [linesL, if_neg hb', h2]
        simp

def sizeS (cb : Nat) (w : World) : Nat := match w.cell? ⟨cb, 0, none⟩ with
  | some (.string s) => s.size
  | _ => 0

theorem mk_extract (l : Bs) (a b : Nat) : (mk l).extract a b = mk ((l.take b).drop a) := by
  apply ByteArray.ext
  simp [mk, ByteArray.data_extract, List.drop_take]
theorem sizeS_blk {cb : Nat} {w : World} {t : Bs} (h : Blk w cb 9 #[.string (mk t)]) : sizeS cb w = t.length := by
  unfold sizeS
  rw [show w.cell? ⟨cb, 0, none⟩ = some (.string (mk t)) from h.cell 0]
  exact mk_size t
set_option maxRecDepth 100000 in
theorem strLines_any {w : World} (s : Bs) :
    Calls Tryz.prog 7 #[.string (mk s)] w fun e w' => e = .returned (.func (.func 17) #[] #[.pointer (some ⟨w.heap.size, 0, none⟩)]) ∧ w' = w.alloc (.cells #[.string (mk s)] 9) := by
  have hmf : ∀ (fn : Fn) (first cap : Array Value) (w : World), (Instr.makeFunc fn first cap).run Tryz.prog w = .ok (.func fn first cap) w := fun _ _ _ _ => rfl
  go_enter Tryz.func7, Tryz.ntmps7
  go_wp2_with fail
  go_ret
  exact ⟨rfl, rfl⟩

/-- One line of the text. -/
abbrev LineX (s : Bs) := { x : Bs // x ∈ linesL s }

set_option maxHeartbeats 4000000 in
set_option maxRecDepth 100000 in
theorem linesFn_seq {w0 w : World} (s : Bs) (cb n : Nat) (hs : s.length ≤ 1000000000000) (hcb : Blk w cb 9 #[.string (mk s)]) (hb0 : Below w0.heap.size w0 w) (hlt : w0.heap.size ≤ cb) :
    SeqC Fence.wide n Tryz.prog 17 #[.pointer (some ⟨cb, 0, none⟩)] (fun x : LineX s => #[.string (mk x.1)]) (KpR w0.heap.size cb) 9 cb (fun xs => xs.map Subtype.val = linesL s) (fun pre => ∃ t, pre.map Subtype.val ++ t = linesL s) s.length w := by
  intro l J Jx W hW hJ hJx hY h0
  refine callsIn_wide.2 ?_
  have HI := Lib.hid (And.intro hW (And.intro hJ (And.intro hJx (And.intro h0 hs))))
  have HY := Lib.hid hY
  have hcW : Blk W cb 9 #[.string (mk s)] := hcb.below hW hcb.lt
  have hbW : Below w0.heap.size w0 W := hb0.trans (hW.mono hb0.size)
  clear hW hJ hJx h0 hs hY
  go_enter Tryz.func17, Tryz.ntmps17
  go_wp2_with fail
  go_loopw [3] (fun s3 wr => ∃ (pre : List (LineX s)) (rest : Bs), Blk wr cb 9 #[.string (mk rest)] ∧ J pre wr ∧ pre.map Subtype.val ++ linesL rest = linesL s ∧ rest.length ≤ s.length ∧ Below w0.heap.size w0 wr) (fun _ wr => sizeS cb wr)
  case atStart => exact ⟨[], s, hcW, HI.out.2.2.2.1, rfl, Nat.le_refl _, hbW⟩
  case round =>
    obtain ⟨pre, rest, hblk, hj, hrows, hlen, hbel⟩ := hrel
    have cc : wr.cell? ⟨cb, 0, none⟩ = some (.string (mk rest)) := hblk.cell 0
    have cz := hblk.frozen 0
    have HR := Lib.hid (And.intro hblk (And.intro hj (And.intro hrows (And.intro hlen hbel))))
    clear hblk hj hrows hlen hbel
    by_cases hr0 : rest = []
    · subst hr0
      go_wp2_with fail
      go_end0
      exact ⟨⟨_, rfl⟩, .inl ⟨pre, by have := HR.out.2.2.1; rw [linesL, List.append_nil] at this; exact this, HR.out.2.1⟩⟩
    · have hpos : 0 < rest.length := List.length_pos_iff.2 hr0
      have hne := linesL_ne hr0
      have HNE := Lib.hid (And.intro hr0 hne)
      have hlen : pre.length < s.length := by
        have h1 := HR.out.2.2.1
        have h2 := linesL_len s
        rw [← h1, List.length_append, List.length_map] at h2
        have := List.length_pos_iff.2 hne
        omega
      have HLN := Lib.hid hlen
      clear hr0 hne hlen
      have hpos2 : (0 : Int) < (rest.length : Int) := by omega
      have HP := Lib.hid hpos
      clear hpos
      go_upto_region 2 with fail
      go_wp2_with fail
      refine (Tryz.strings_IndexByte (mk rest) 10 wr).mono ?_; rintro e w2 ⟨rfl, hw2⟩
      rw [hw2]; clear hw2 w2
      rw [show (mk rest).data.toList = rest from rfl, show (10 : Int).toNat.toUInt8 = 10 from rfl]
      obtain ⟨ix, hix⟩ : ∃ ix, Go.Lib.indexByte rest 10 = ix := ⟨_, rfl⟩
      have HX := Lib.hid hix
      rw [hix]
      clear hix
      by_cases hi : ix < 0
      · have hge : decide (0 ≤ ix) = false := by simpa using hi
        have HL := Lib.hid (linesL_none rest HNE.out.1 (by rw [HX.out]; exact hi))
        clear hi
        go_upto_region 6 with fail
        obtain ⟨wc, hwc⟩ : ∃ wc, wc = wr.setCell ⟨cb, 0, none⟩ (.string ⟨#[]⟩) := ⟨_, rfl⟩
        have hxt : rest :: linesL ([] : Bs) = linesL rest := by rw [HL.out]; rfl
        have htl : ([] : Bs).length < rest.length := HP.out
        have hblk : Blk wc cb 9 #[.string (mk ([] : Bs))] := by rw [hwc]; exact HR.out.1.set_ 0 _
        have hjc : J pre wc := by rw [hwc]; exact HI.out.2.1 _ _ _ (some cb) HR.out.2.1 (grownBy_setCell' _ _ _) (fun r e => by cases e; exact ⟨rfl, _, HR.out.1.set_ 0 _⟩)
        have hbc : Below w0.heap.size w0 wc := by rw [hwc]; exact HR.out.2.2.2.2.setCell (p := ⟨cb, 0, none⟩) hlt _
        rw [← hwc]
        clear cc cz hwc
        have HC := Lib.hid (And.intro hxt (And.intro htl (And.intro hblk (And.intro hjc hbc)))); clear hxt htl hblk hjc hbc
        have hmem : rest ∈ linesL s := by rw [← HR.out.2.2.1, ← HC.out.1]; simp
        have HM := Lib.hid hmem; clear hmem
        obtain ⟨fn, tmps, assign, body, hy, hR⟩ := HY.out pre ⟨rest, HM.out⟩ wc HC.out.2.2.2.1 HLN.out
        dsimp only at hy
        refine (wpIn_wide (n := n)).1 ?_
        gi_wp2
        refine ⟨fun h => (by cases h), hR.mono ?_⟩
        clear hR hy
        rintro e W' (⟨rfl, hJ2, hk2⟩ | ⟨rfl, hJx2⟩)
        · have hb2 : Blk W' cb 9 #[.string (mk ([]))] := hk2.2.trans HC.out.2.2.1
          have hbW2 : Below w0.heap.size w0 W' := HC.out.2.2.2.2.trans hk2.1
          have H2 := Lib.hid (And.intro hJ2 (And.intro hb2 hbW2)); clear hJ2 hk2 hb2 hbW2
          gi_wp2
          go_wp2_with fail
          go_roundw
          case rel =>
            refine ⟨pre ++ [⟨rest, HM.out⟩], [], H2.out.2.1, H2.out.1, ?_, ?_, H2.out.2.2⟩
            · rw [List.map_append, List.map_cons, List.map_nil, List.append_assoc, List.singleton_append, HC.out.1]; exact HR.out.2.2.1
            · have h1 := HC.out.2.1; have h2 := HR.out.2.2.2.1; omega
          case measure =>
            rw [sizeS_blk HR.out.1, sizeS_blk H2.out.2.1]
            exact HC.out.2.1
        · gi_wp2
          go_wp2_with fail
          refine bodyPost_ret (results_none rfl _ _ _) rfl ?_
          exact ⟨⟨_, rfl⟩, .inr ⟨pre ++ [⟨rest, HM.out⟩], ⟨linesL ([]), by rw [List.map_append, List.map_cons, List.map_nil, List.append_assoc, List.singleton_append, HC.out.1]; exact HR.out.2.2.1⟩, hJx2⟩⟩
      · obtain ⟨i, rfl⟩ : ∃ i : Nat, ix = i := ⟨ix.toNat, by omega⟩
        obtain ⟨hli0, hli⟩ := linesL_some rest i HX.out
        have HL := Lib.hid (And.intro hli0 hli); clear hli
        have hge : decide (0 ≤ (i : Int)) = true := by simp
        have hw1 : IntKind.i64.wrap ((i : Int) + 1) = (i : Int) + 1 := IntWalk.i64_in _ (by have := HR.out.2.2.2.1; have := HI.out.2.2.2.2; omega)
        have hw2 : (0 : Int) ≤ (i : Int) + 1 := by omega
        have hw3 : (i : Int) + 1 ≤ (rest.length : Int) := by omega
        have hw4 : ((i : Int) + 1).toNat = i + 1 := by omega
        clear hi
        go_upto_region 4 with fail
        go_region
        go_upto_region 6 with fail
        have ex1 : (mk rest).extract 0 (i + 1) = mk (rest.take (i + 1)) := by rw [mk_extract]; simp
        have ex2 : (mk rest).extract (i + 1) rest.length = mk (rest.drop (i + 1)) := by rw [mk_extract]; simp
        rw [ex1, ex2]
        clear ex1 ex2 hw1 hw2 hw3 hw4 hge
        obtain ⟨x, hx⟩ : ∃ x, x = rest.take (i + 1) := ⟨_, rfl⟩
        obtain ⟨t, ht⟩ : ∃ t, t = rest.drop (i + 1) := ⟨_, rfl⟩
        rw [← hx, ← ht]
        obtain ⟨wc, hwc⟩ : ∃ wc, wc = (wr.setCell ⟨cb, 0, none⟩ (.string (mk t))).drew := ⟨_, rfl⟩
        have hxt : x :: linesL t = linesL rest := by rw [HL.out.2, hx, ht]
        have htl : t.length < rest.length := by rw [ht, List.length_drop]; have := HL.out.1; omega
        have hblk : Blk wc cb 9 #[.string (mk t)] := by rw [hwc]; exact (HR.out.1.set_ 0 _).drew
        have hg := Below.grown0 (((Below.refl wr.heap.size wr)).drew)
        have hjc : J pre wc := by
          rw [hwc]
          have h1 : J pre (wr.setCell ⟨cb, 0, none⟩ (.string (mk t))) := HI.out.2.1 _ _ _ (some cb) HR.out.2.1 (grownBy_setCell' _ _ _) (fun r e => by cases e; exact ⟨rfl, _, HR.out.1.set_ 0 _⟩)
          exact HI.out.2.1 _ _ _ none h1 (Below.grown0 ((Below.refl _ _).drew)) (fun r e => by cases e)
        have hbc : Below w0.heap.size w0 wc := by rw [hwc]; exact (HR.out.2.2.2.2.setCell (p := ⟨cb, 0, none⟩) hlt _).drew
        rw [← hwc]
        clear cc cz hwc hx ht
        have HC := Lib.hid (And.intro hxt (And.intro htl (And.intro hblk (And.intro hjc hbc)))); clear hxt htl hblk hjc hbc
        have hmem : x ∈ linesL s := by rw [← HR.out.2.2.1, ← HC.out.1]; simp
        have HM := Lib.hid hmem; clear hmem
        obtain ⟨fn, tmps, assign, body, hy, hR⟩ := HY.out pre ⟨x, HM.out⟩ wc HC.out.2.2.2.1 HLN.out
        dsimp only at hy
        refine (wpIn_wide (n := n)).1 ?_
        gi_wp2
        refine ⟨fun h => (by cases h), hR.mono ?_⟩
        clear hR hy
        rintro e W' (⟨rfl, hJ2, hk2⟩ | ⟨rfl, hJx2⟩)
        · have hb2 : Blk W' cb 9 #[.string (mk (t))] := hk2.2.trans HC.out.2.2.1
          have hbW2 : Below w0.heap.size w0 W' := HC.out.2.2.2.2.trans hk2.1
          have H2 := Lib.hid (And.intro hJ2 (And.intro hb2 hbW2)); clear hJ2 hk2 hb2 hbW2
          gi_wp2
          go_wp2_with fail
          go_roundw
          case rel =>
            refine ⟨pre ++ [⟨x, HM.out⟩], t, H2.out.2.1, H2.out.1, ?_, ?_, H2.out.2.2⟩
            · rw [List.map_append, List.map_cons, List.map_nil, List.append_assoc, List.singleton_append, HC.out.1]; exact HR.out.2.2.1
            · have h1 := HC.out.2.1; have h2 := HR.out.2.2.2.1; omega
          case measure =>
            rw [sizeS_blk HR.out.1, sizeS_blk H2.out.2.1]
            exact HC.out.2.1
        · gi_wp2
          go_wp2_with fail
          refine bodyPost_ret (results_none rfl _ _ _) rfl ?_
          exact ⟨⟨_, rfl⟩, .inr ⟨pre ++ [⟨x, HM.out⟩], ⟨linesL (t), by rw [List.map_append, List.map_cons, List.map_nil, List.append_assoc, List.singleton_append, HC.out.1]; exact HR.out.2.2.1⟩, hJx2⟩⟩
end Go.Proofs.YtnnahodajiolmaaGreatDoor.sc
