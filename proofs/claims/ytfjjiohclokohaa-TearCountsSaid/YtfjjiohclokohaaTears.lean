/-
  PROVED HERE: tear.Tears: the tears of a memory, rising, each once. Conditions: the receiver is a memory; few lines, few stores.
-/
import Derived.Test.YtfjjiohclokohaaTLaid
import Derived.Sort.LoopGhostIn
import Derived.Scope
namespace Go.Proofs.Ytfjjiohclokohaa.pm
open Go.RowKit Go.Shelf Go.Proofs.Ytfjjiohclokohaa.tp Go.Proofs.Ytfjjiohclokohaa.rn
set_option linter.unusedVariables false
attribute [local go_sem] Oper.semAt_some

/-- The k-th tear. -/
def nth (ts : List Nat) : Nat → List Nat
  | 0 => List.replicate ts.length 0
  | k + 1 => (nextT ts (nth ts k)).1
theorem nth_ok (ts : List Nat) : ∀ k, k < prodT ts → isT ts (nth ts k) ∧ valT ts (nth ts k) = k
  | 0, _ => ⟨isT_zero ts, valT_zero ts⟩
  | k + 1, h => by
    obtain ⟨h1, h2⟩ := nth_ok ts k (by omega)
    obtain ⟨a, b⟩ := nextT_spec h1
    cases e : (nextT ts (nth ts k)).2 with
    | true =>
      have := a e
      exact ⟨this.1, by rw [nth, this.2, h2]⟩
    | false => have := (b e).2; omega
theorem nth_more (ts : List Nat) (k : Nat) (h : k < prodT ts) : (nextT ts (nth ts k)).2 = decide (k + 1 < prodT ts) := by
  obtain ⟨h1, h2⟩ := nth_ok ts k h
  obtain ⟨a, b⟩ := nextT_spec h1
  cases e : (nextT ts (nth ts k)).2 with
  | true =>
    have := a e
    have := valT_lt this.1
    symm; rw [decide_eq_true_eq]; omega
  | false =>
    have := (b e).2
    symm; rw [decide_eq_false_iff_not]; omega
theorem nth_last (ts : List Nat) (k : Nat) (h : k + 1 = prodT ts) : nth ts (k + 1) = List.replicate ts.length 0 := by
  have h3 := nth_more ts k (by omega)
  obtain ⟨a, b⟩ := nextT_spec (nth_ok ts k (by omega)).1
  rw [decide_eq_false (by omega)] at h3
  exact (b h3).1

theorem wpIn_scope_wide {n : Nat} {P : Program} {c : Code} {Q : Exit → Act → World → Prop} {a : Act} {w : World} (h : c.wpIn Fence.wide n P (Exit.noGoto Q) a w) : (Code.scope c).wpIn Fence.wide n P Q a w := wpIn_wide.2 (wp_scope_straight (wpIn_wide.1 h))
theorem noGoto_ret {Q : Exit → Act → World → Prop} {a : Act} {w : World} (h : Q .ret a w) : Exit.noGoto Q .ret a w := h
theorem noGoto_normal {Q : Exit → Act → World → Prop} {a : Act} {w : World} (h : Q .normal a w) : Exit.noGoto Q .normal a w := h
theorem set_zero2 (l : List Nat) (i k m : Nat) (h : i < l.length) : ((l.take i ++ [m]) ++ List.replicate k 0).set i 0 = l.take i ++ List.replicate (k + 1) 0 := by
  rw [List.set_append_left _ _ (by simp; omega), List.set_append_right _ _ (by simp; omega), List.replicate_succ]
  simp [Nat.min_eq_left (Nat.le_of_lt h)]
/-- What is handed on: a slice of the call's own. -/
def tearPx (ts : List Nat) (B : Nat) (nb : Option Nat) (pre : List Value) (x : Value) (W : World) : Prop :=
  pre.length < prodT ts ∧ RowAt W 3 1 x ts.length ((nth ts pre.length).map nv) ∧ ∃ g o c, x = .slice (some ⟨g, o, none⟩) ts.length c ∧ B ≤ g ∧ nb ≠ some g
theorem Keeps.grownNone {w w' : World} (h : Keeps [] w w') : w.grownBy w' none := ⟨by first | exact h.os | exact h.tape | exact h.output, by first | exact h.os | exact h.tape | exact h.output, by first | exact h.os | exact h.tape | exact h.output, h.size, fun k hk _ => h.block k hk (by simp)⟩
def tearKp (B : Nat) (x : Value) (W W' : World) : Prop := KpX B (x.ownBlock.getD 0) W W'
theorem makeInts (n : Nat) : (madeCells (Value.int .i64 0).cells (n * 1)).toList = (List.replicate n (0 : Nat)).map nv := by
  rw [show (Value.int .i64 0).cells = #[.int .i64 0] from rfl, toList_madeCells_one, Nat.mul_one, List.map_replicate]; rfl

set_option maxRecDepth 100000 in
set_option maxHeartbeats 4000000 in
theorem tears1_seq (n : Nat) (hn : 1 ≤ n) (bx : Nat) {w : World} {b : Nat} {p : Pl} {M : Mod} (hc : w.cell? ⟨bx, 0, none⟩ = some (.pointer (some ⟨b, 0, none⟩))) (h : IsMem w b p M) (hw : WF M) (hN : M.lines.length ≤ 1000) (hf : ∀ q ∈ M.lines, q.2.puts.length ≤ 1000) :
    SeqN Fence.wide n Try.prog 26 #[.pointer (some ⟨bx, 0, none⟩)] (fun x : Value => #[x]) tearKp (tearPx M.tops) (fun xs => xs.length = prodT M.tops) (fun _ => True) (prodT M.tops) w := by
  intro l J Jx W hW hJ hJx hY h0
  obtain ⟨i0, hi0, hz0, hz1, hz2⟩ := info_parts intInfo
  have hkW : Keeps [] w W := Keeps.below hW
  have hc' : W.cell? ⟨bx, 0, none⟩ = some (.pointer (some ⟨b, 0, none⟩)) := (hW.cell (p := ⟨bx, 0, none⟩) (World.block_lt_of_cell? _ _ hc)).trans hc
  have hbx := World.block_lt_of_cell? _ _ hc'
  have hI : IsMem W b p M := h.keeps hkW (by simp)
  have HY := Lib.hid hY; clear hY
  have HJ := Lib.hid (And.intro hJ (And.intro hJx h0)); clear hJ hJx h0
  have HL := Lib.hid (callsIn_wide (n := n - 1) |>.2 (lines_any hI hw (by omega)))
  have HTh := Lib.hid (callsIn_wide (n := n - 1) |>.2 (tthere_any hI.blkAt hw.pos hw.small))
  obtain ⟨L, hL⟩ : ∃ L, L = M.lines.length := ⟨_, rfl⟩
  have hkl := M.keys_length
  have htl := M.tops_length
  rw [← hL] at HL hN hkl htl
  have HM := Lib.hid (And.intro hI (And.intro hw (And.intro hf (And.intro hL (And.intro hkl htl))))); clear hI hw hf hL hkl htl h hW hkW hc
  refine callsIn_of_wp Try.func26 rfl trivial ?_ rfl
  simp only [Try.ntmps26, List.size_toArray, List.length_cons, List.length_nil, Nat.reduceAdd, Nat.reduceSub, Array.replicate_succ, Array.replicate_zero, List.push_toArray, List.append_toArray, List.nil_append, List.cons_append]
  refine wpIn_scope_wide ?_
  gi_wp2
  refine ⟨trivial, HTh.out.mono ?_⟩
  rintro e w' ⟨rfl, rfl⟩
  gi_wp2
  refine ⟨trivial, HL.out.mono ?_⟩
  rintro e w1 ⟨v, rfl, hrow, hk1, hg1⟩
  obtain ⟨ao, cp, rfl⟩ := reads_shape hrow.reads
  have HR := Lib.hid (And.intro hrow (And.intro hk1 hg1)); clear hrow hk1 hg1
  gi_wp2
  gi_loopw [3, 14] (fun s3 s14 wr => ∃ j : Nat, j ≤ L ∧ s14 = .int .i64 j ∧ RowAt wr 3 1 s3 j ((M.tops.take j).map nv) ∧ Keeps [] w1 wr ∧ ∀ g, s3.ownBlock = some g → w1.heap.size ≤ g) (fun _ s14 _ => L - (RowKit.intOf s14).toNat)
  case atStart => exact ⟨0, Nat.zero_le _, rfl, RowAt.nil _ _ _, Keeps.refl _ _, fun g e => by cases e⟩
  case round =>
    obtain ⟨j, hj, rfl, hrow, hk, hown⟩ := hrel
    by_cases hlt : j < L
    · obtain ⟨hI, hw, hf, hL, hkl, htl⟩ := HM.out
      obtain ⟨hr1, hk1, hg1⟩ := HR.out
      obtain ⟨k, hkj⟩ : ∃ k, M.keys[j]? = some k := ⟨_, List.getElem?_eq_getElem (by omega)⟩
      obtain ⟨b2, of2, rfl, c1⟩ := reads_cell (wr := wr) hr1.reads (fun q _ hq => hk.block q hq (by simp)) (j := j) (u := .int .u64 k) (by simp [hkj])
      obtain ⟨hk0, hk8, hkm, hpe⟩ := key_facts hw (List.mem_of_getElem? hkj)
      have hkWr : Keeps [] W wr := hk1.trans hk (by simp)
      have hIr : IsMem wr b p M := hI.keeps hkWr (by simp)
      have cbx : wr.cell? ⟨bx, 0, none⟩ = some (.pointer (some ⟨b, 0, none⟩)) := by rw [World.cell?_of_block (hkWr.block bx hbx (by simp))]; exact hc'
      have HP := Lib.hid (pending_any hIr hw.pos hw.small k hk0 hk8 hkm)
      rw [hpe] at HP
      obtain ⟨t, ht⟩ : ∃ t, t = M.pendK k := ⟨_, rfl⟩
      rw [← ht] at HP
      have htj : M.tops[j]? = some t := by unfold Mod.tops; rw [List.getElem?_map, hkj, ht]; rfl
      have hjL : (j : Int) < (L : Int) := by omega
      have HX := Lib.hid (And.intro htj (And.intro hrow (And.intro hk hown)))
      clear hI hw hf hL hkl htl hr1 hk1 hg1 hkj hk0 hk8 hkm hpe hkWr hIr ht htj hk hown
      gi_upto_region 5 with fail
      refine wpIn_wide_normal ?_
      go_wp2_with fail
      refine HP.out.mono ?_
      rintro e w2 ⟨rfl, hw2⟩
      have hk2 : Keeps [] wr w2 := by rw [hw2]; exact Keeps.drew wr
      have hrow2 := hrow.same (w' := w2) (fun g hg => hk2.block g (hrow.lt hg) (by simp))
      clear hw2
      have HK2 := Lib.hid hk2
      go_wp2_with (at_builtin; refine wpList_append_row _ rfl _ _ 26 rfl 3 i0 (.int .i64 0) 1 8 Try.underlying26 hi0 hz0 hz1 hz2 rfl _ (.slice (some ⟨w2.heap.size, 0, none⟩) 1 1) rfl rfl j _ (hrow2.same fun g hg => (MapKept.heap_alloc w2 _).2 g (hrow2.lt hg)) 1 [.int .i64 t] ?hr rfl ?ho ?hm ?hby ?_)
      case hr => exact .inr ⟨⟨w2.heap.size, 0, none⟩, 1, rfl, rfl, fun q u hq => by
        have hc := alloc_new (w := w2) (o := .cells #[.int .i64 t] 3)
        match q, hq with
        | 0, hq => cases hq; exact cell_of hc rfl⟩
      case ho => intro u hu; simp only [List.mem_singleton] at hu; subst hu; rfl
      case hm => unfold maxLen; omega
      case hby => omega
      intro v' w3 hrow' hgrow hblk' g' off' cap' hsl
      subst hsl
      have HZ := Lib.hid (And.intro hrow' (And.intro hgrow hblk')); clear hrow' hgrow hblk' hrow hrow2 hk2
      go_wp2_with fail
      simp only [onlyNormal]
      gi_wp2
      go_roundw
      case rel =>
        obtain ⟨htj, hrow, hk, hown⟩ := HX.out
        obtain ⟨hrow', hgrow, hblk'⟩ := HZ.out
        refine ⟨j + 1, by omega, by go_num, ?_, ?_, fun g hg => ?_⟩
        · rw [List.take_add_one, htj, Option.toList_some, List.map_append]; first | exact hrow' | (rw [List.map_take]; exact hrow')
        · exact (((hk.trans HK2.out (by simp)).trans (Keeps.alloc w2 _) (by simp)).mono (by simp)).trans (Keeps.grown hgrow) (fun i hi => .inr (hown i (by simpa using hi)))
        · rcases hblk' with h1 | ⟨g2, h1, h2⟩
          · exact hown g (by rw [← h1]; exact hg)
          · rw [h1] at hg; cases hg; have := hk.size; have := HK2.out.size; omega
      case measure => simp [RowKit.intOf]; omega
    · obtain rfl : j = L := by omega
      rw [List.take_of_length_le (by have := HM.out; omega)] at hrow
      obtain ⟨ao3, cp3, rfl⟩ := reads_shape hrow.reads
      have HX := Lib.hid (And.intro hrow (And.intro hk hown)); clear hrow hk hown
      gi_upto_region 7 with fail
      refine wpIn_wide_normal ?_
      go_wp2_with (at_make; refine wpList_make_full _ rfl _ _ 26 rfl wr.heap.size 3 i0 (.int .i64 0) 1 Try.underlying26 hi0 hz0 hz1 .i64 .i64 (j : Int) (j : Int) j rfl rfl rfl rfl (by rw [hz2]; omega) (by unfold maxLen; omega) (Nat.le_refl _) ?_; intro w5 hown hgr)
      simp only [onlyNormal]
      obtain ⟨nbk, hnbk⟩ : ∃ nbk, nbk = wr.heap.size := ⟨_, rfl⟩
      rw [← hnbk] at hown ⊢
      rw [makeInts] at hown
      obtain ⟨ts, hts⟩ : ∃ ts, ts = M.tops := ⟨_, rfl⟩
      rw [← hts] at HX HY
      have hrow := HX.out.1
      have hkW5 : Keeps [] W w5 := (HR.out.2.1.trans HX.out.2.1 (by simp)).trans (show Keeps [] wr w5 from Keeps.grown hgr) (by simp)
      have hW5 : W.heap.size ≤ nbk := by have := HR.out.2.1.size; have := HX.out.2.1.size; omega
      have hJ5 : J (some nbk) [] w5 := HJ.out.1 (some nbk) [] W w5 none (fun k e => by cases e; exact hW5) (HJ.out.2.2 (some nbk) (fun k e => by cases e; exact hW5)) hkW5.grownNone (fun r e => by cases e)
      have hr5 : RowAt w5 3 1 (.slice ao3 j cp3) j (ts.map nv) := hrow.same fun g hg => (Keeps.grown hgr).block g (hrow.lt hg) (by simp)
      have hn5 : RowAt w5 3 1 (.slice (some ⟨nbk, 0, none⟩) j j) j ((nth ts 0).map nv) := by
        have := RowAt.of_own hown
        rw [nth, hts, HM.out.2.2.2.2.2]; exact this
      have htn : ∀ g, (Value.slice ao3 j cp3).ownBlock = some g → W.heap.size ≤ g ∧ g ≠ nbk := fun g hg => ⟨by have := HX.out.2.2 g hg; have := HR.out.2.1.size; omega, by have := hrow.lt hg; omega⟩
      have HT := Lib.hid (And.intro hts (And.intro hW5 htn))
      have H5 := Lib.hid (And.intro hJ5 (And.intro hr5 hn5))
      clear hrow hkW5 hW5 hJ5 hr5 hn5 htn hts hnbk hown hgr HX
      gi_wp2
      refine wpIn_label ?_
      gi_wp2
      gi_loopg [7] (prodT ts) (fun gk _ wr => ∃ pre : List Value, gk + pre.length = prodT ts ∧ 0 < gk ∧ J (some nbk) pre wr ∧ RowAt wr 3 1 (.slice ao3 j cp3) j (ts.map nv) ∧ RowAt wr 3 1 (.slice (some ⟨nbk, 0, none⟩) j j) j ((nth ts pre.length).map nv))
      case atStart => exact ⟨[], rfl, prodT_pos ts, H5.out⟩
      case round =>
        obtain ⟨pre, hgk, hg0, hJr, hrt, hrn⟩ := hrel
        have hcl := cloneInt_any hrn.reads (by have := hrn.1; simpa using this) (nv_one _) (by omega)
        have HC := Lib.hid hcl; clear hcl
        have HG := Lib.hid (And.intro hgk hg0); clear hgk hg0
        have HX := Lib.hid (And.intro hJr (And.intro hrt hrn)); clear hJr hrt hrn
        gi_wp2
        refine ⟨trivial, (callsIn_wide.2 HC.out).mono ?_⟩
        rintro e w4 ⟨x, rfl, hrx, hk4, hgx, _, hsx⟩
        obtain ⟨xb, xo, xc, rfl⟩ := hsx _ _ _ rfl
        obtain ⟨hts, hW5, htn⟩ := HT.out
        obtain ⟨hJr, hrt, hrn⟩ := HX.out
        obtain ⟨hgk, hg0⟩ := HG.out
        have hnl := hrn.lt (g := nbk) rfl
        have hxb := hgx xb rfl
        have hJ4 : J (some nbk) pre w4 := HJ.out.1 (some nbk) pre wr w4 none (fun k e => by cases e; exact hW5) hJr hk4.grownNone (fun r e => by cases e)
        have htl : ts.length = j := by rw [hts]; exact HM.out.2.2.2.2.2
        have hpx : tearPx ts W.heap.size (some nbk) pre (.slice (some ⟨xb, xo, none⟩) j xc) w4 := by
          refine ⟨by omega, by rw [htl]; exact hrx, xb, xo, xc, by rw [htl], by omega, fun e => ?_⟩
          cases e; omega
        obtain ⟨fn, tmps, assign, body, hy, hRd⟩ := HY.out (some nbk) pre (.slice (some ⟨xb, xo, none⟩) j xc) w4 (fun k e => by cases e; exact hW5) (fun k e => by cases e; have := hk4.size; omega) hJ4 hpx (by omega)
        have hT := (nth_ok ts pre.length (by omega)).1
        obtain ⟨ns, hns⟩ : ∃ ns, ns = nth ts pre.length := ⟨_, rfl⟩
        rw [← hns] at hrn hrx hT
        have hr4 : RowAt w4 3 1 (.slice ao3 j cp3) j (ts.map nv) := hrt.same fun g hg => hk4.block g (hrt.lt hg) (by simp)
        have hn4 : RowAt w4 3 1 (.slice (some ⟨nbk, 0, none⟩) j j) j (ns.map nv) := hrn.same fun g hg => hk4.block g (hrn.lt hg) (by simp)
        have htx : ∀ g, (Value.slice ao3 j cp3).ownBlock = some g → g ≠ xb := fun g hg => by have := hrt.lt hg; omega
        have HN := Lib.hid (And.intro hns (And.intro hT (And.intro htl (And.intro hr4 (And.intro hn4 (And.intro htx (And.intro hxb hnl)))))))
        clear hrx hk4 hgx hsx hts hW5 htn hJr hrt hrn hgk hg0 hnl hxb hJ4 htl hpx hT hns hr4 hn4 htx HX
        gi_wp2
        refine hRd.mono ?_
        rintro e w6 (⟨rfl, hJ6, hk6⟩ | ⟨rfl, hJx6⟩)
        · have hr6 : RowAt w6 3 1 (.slice ao3 j cp3) j (ts.map nv) := by
            obtain ⟨_, _, _, hr4, _, htx, _⟩ := HN.out
            refine hr4.same fun g hg => ?_
            obtain ⟨q, hq, hqc⟩ : ∃ o : Obj, w4.heap[g]? = some o ∧ o.isCells = true := by
              rcases hr4.2 with ⟨e, _⟩ | ⟨g', off, cap, cur, e, hb, _⟩
              · rw [e] at hg; cases hg
              · rw [e] at hg; cases hg; exact ⟨_, hb, rfl⟩
            rw [hq]
            exact hk6.2 g q (HT.out.2.2 g hg).1 (htx g hg) hq hqc
          have hn6 : RowAt w6 3 1 (.slice (some ⟨nbk, 0, none⟩) j j) j (ns.map nv) := by
            obtain ⟨_, _, _, _, hn4, _, hxb, hnl⟩ := HN.out
            refine hn4.same fun g hg => ?_
            cases hg
            obtain ⟨q, hq, hqc⟩ : ∃ o : Obj, w4.heap[nbk]? = some o ∧ o.isCells = true := by
              rcases hn4.2 with ⟨e, _⟩ | ⟨g', off, cap, cur, e, hb, _⟩
              · cases e
              · cases e; exact ⟨_, hb, rfl⟩
            rw [hq]
            exact hk6.2 nbk q HT.out.2.1 (by show nbk ≠ xb; omega) hq hqc
          have H6 := Lib.hid (And.intro hJ6 (And.intro hr6 hn6)); clear hJ6 hk6 hr6 hn6 hRd hy
          have e0 : IntKind.i64.wrap ((j : Int) - 1) = (j : Int) - 1 := IntWalk.i64_in _ (by omega)
          gi_wp2
          gi_loopw [7] (fun s7 wq => ∃ i : Nat, i ≤ j ∧ s7 = .int .i64 ((i : Int) - 1) ∧ J (some nbk) (pre ++ [.slice (some ⟨xb, xo, none⟩) j xc]) wq ∧ RowAt wq 3 1 (.slice ao3 j cp3) j (ts.map nv) ∧ RowAt wq 3 1 (.slice (some ⟨nbk, 0, none⟩) j j) j ((ns.take i ++ List.replicate (j - i) 0).map nv) ∧ nextT ts ns = ((nextT (ts.take i) (ns.take i)).1 ++ List.replicate (j - i) 0, (nextT (ts.take i) (ns.take i)).2)) (fun s7 _ => (RowKit.intOf s7 + 1).toNat)
          case atStart =>
            obtain ⟨hJ6, hr6, hn6⟩ := H6.out
            obtain ⟨_, hT, htl, _⟩ := HN.out
            have := hT.length
            refine ⟨j, Nat.le_refl _, rfl, hJ6, hr6, ?_, ?_⟩
            · rw [Nat.sub_self, List.take_of_length_le (by omega)]; simpa using hn6
            · rw [Nat.sub_self, List.take_of_length_le (by omega), List.take_of_length_le (by omega)]; simp
          case round =>
            obtain ⟨i1, hi1, rfl, hJq, hrt, hrn, hnx⟩ := hrel
            by_cases hlt2 : 0 < i1
            · obtain ⟨i, rfl⟩ : ∃ i, i1 = i + 1 := ⟨i1 - 1, by omega⟩
              have e1 : (((i + 1 : Nat) : Int) - 1) = (i : Int) := by omega
              rw [e1]
              obtain ⟨hns, hT, htl, _⟩ := HN.out
              have hnl := hT.length
              obtain ⟨t, hti⟩ : ∃ t, ts[i]? = some t := ⟨_, List.getElem?_eq_getElem (by omega)⟩
              obtain ⟨n0, hni⟩ : ∃ n, ns[i]? = some n := ⟨_, List.getElem?_eq_getElem (by omega)⟩
              have htb : t ≤ 1000 := by
                obtain ⟨_, _, hf, _⟩ := HM.out
                exact Mod.tops_le hf t (by rw [← HT.out.1]; exact List.mem_of_getElem? hti)
              have hnb := isT_get hT hti hni
              rw [nextT_at (by omega) hti hni] at hnx
              obtain ⟨tb, tof, rfl⟩ : ∃ g off, ao3 = some ⟨g, off, none⟩ := by
                rcases hrt.2 with ⟨_, h2⟩ | ⟨q, off, cap, cur, e, _⟩
                · omega
                · cases e; exact ⟨q, off, rfl⟩
              have c1 : wr.cell? ⟨nbk, 0 + i, none⟩ = some (.int .i64 n0) := by
                refine hrn.cell (j := i) ?_
                rw [List.getElem?_map, List.getElem?_append_left (by simp; omega), List.getElem?_take, if_pos (by omega), hni]; rfl
              have f1 : wr.frozen? ⟨nbk, 0 + i, none⟩ = false := hrn.free _
              have c2 : wr.cell? ⟨tb, tof + i, none⟩ = some (.int .i64 t) := hrt.cell (j := i) (by simp [hti, nv])
              rw [Nat.zero_add] at c1 f1
              have hiL : (i : Int) < (j : Int) := by omega
              have hii : i < j := by omega
              have htn := (HT.out.2.2 tb rfl).2
              have e3 : IntKind.i64.wrap ((n0 : Int) + 1) = (n0 : Int) + 1 := IntWalk.i64_in _ (by omega)
              obtain ⟨wa, hwa⟩ : ∃ wa, wa = wr.setCell ⟨nbk, i, none⟩ (.int .i64 ((n0 : Int) + 1)) := ⟨_, rfl⟩
              have hua : RowAt wa 3 1 (.slice (some ⟨nbk, 0, none⟩) j j) j ((ns.take i ++ [n0 + 1] ++ List.replicate (j - (i + 1)) 0).map nv) := by
                have := hrn.set i (by simp; omega) (nv (n0 + 1))
                rw [← List.map_set, set_up _ _ _ _ hni, Nat.zero_add] at this
                rw [hwa]; exact this
              have hta : RowAt wa 3 1 (.slice (some ⟨tb, tof, none⟩) j cp3) j (ts.map nv) := hrt.same fun g hg => by cases hg; rw [hwa]; exact set_other (Ne.symm htn)
              have hcn : ∃ o : Obj, wr.heap[nbk]? = some o ∧ o.isCells = true := by
                rcases hrn.2 with ⟨e, _⟩ | ⟨g', off, cap, cur, e, hb, _⟩
                · cases e
                · cases e; exact ⟨_, hb, rfl⟩
              have hJa : J (some nbk) (pre ++ [.slice (some ⟨xb, xo, none⟩) j xc]) wa := HJ.out.1 (some nbk) _ wr wa (some nbk) (fun k e => by cases e; exact HT.out.2.1) hJq (by rw [hwa]; exact grownBy_set1 _ _ _ _) (fun r e => by cases e; exact ⟨rfl, hcn⟩)
              have hJd : J (some nbk) (pre ++ [.slice (some ⟨xb, xo, none⟩) j xc]) wa.drew := HJ.out.1 (some nbk) _ wa wa.drew none (fun k e => by cases e; exact HT.out.2.1) hJa (Keeps.drew wa).grownNone (fun r e => by cases e)
              have d1 : wa.drew.cell? ⟨nbk, i, none⟩ = some (.int .i64 ((n0 : Int) + 1)) := by
                have := hua.cell (j := i) (u := nv (n0 + 1)) (by
                  rw [List.getElem?_map, List.getElem?_append_left (by simp; omega), List.getElem?_append_right (by simp; omega)]
                  simp [Nat.min_eq_left (show i ≤ ns.length by omega)])
                rw [Nat.zero_add] at this
                exact this
              have d2 : wa.drew.cell? ⟨tb, tof + i, none⟩ = some (.int .i64 t) := hta.cell (j := i) (by simp [hti, nv])
              have d3 : wa.drew.frozen? ⟨nbk, i, none⟩ = false := hua.free _
              have hud := hua.same (w' := wa.drew) (fun _ _ => rfl)
              have htd := hta.same (w' := wa.drew) (fun _ _ => rfl)
              have HX := Lib.hid (And.intro hJd (And.intro hud (And.intro htd (And.intro hnx hni))))
              have hws : wr.setCell ⟨nbk, i, none⟩ (.int .i64 ((n0 : Int) + 1)) = wa := hwa.symm
              clear hwa hua hta hcn hJa hJd hud htd hJq hrt hrn hnx hni hti hns hT htl hnl hnb
              by_cases hb : n0 < t
              · have hbI : (n0 : Int) + 1 ≤ (t : Int) := by omega
                gi_upto_region 13 with fail
                refine wpIn_wide_normal ?_
                refine wp_region_still_lit (by kernel_rfl) (by kernel_rfl) ?_
                iterate 9 still_step
                refine wpStill_nil ?_
                simp only [onlyNormal]
                gi_wp2
                gi_roundg (gk - 1)
                case measure => have := HG.out; omega
                case rel =>
                  obtain ⟨hJd, hud, htd, hnx, hni⟩ := HX.out
                  obtain ⟨hns, hT, htl, _⟩ := HN.out
                  obtain ⟨hgk, hg0⟩ := HG.out
                  rw [if_pos hb] at hnx
                  have h1 := nth_more ts pre.length (by omega)
                  rw [← hns, hnx] at h1
                  have h2 : pre.length + 1 < prodT ts := by
                    have : decide (pre.length + 1 < prodT ts) = true := by rw [← h1]
                    simpa using this
                  refine ⟨pre ++ [.slice (some ⟨xb, xo, none⟩) j xc], by rw [List.length_append, List.length_singleton]; omega, by omega, hJd, htd, ?_⟩
                  rw [List.length_append, List.length_singleton, nth, ← hns, hnx]
                  exact hud
              · have hbI : (t : Int) < (n0 : Int) + 1 := by omega
                have e5 : IntKind.i64.wrap ((i : Int) - 1) = (i : Int) - 1 := IntWalk.i64_in _ (by omega)
                gi_upto_region 13 with fail
                refine wpIn_wide_normal ?_
                refine wp_region_still_lit (by kernel_rfl) (by kernel_rfl) ?_
                iterate 9 still_step
                refine wpStill_nil ?_
                simp only [onlyNormal]
                gi_wp2
                obtain ⟨hJd, hud, htd, hnx, hni⟩ := HX.out
                obtain ⟨hns, hT, htl, _⟩ := HN.out
                have hnl := hT.length
                rw [if_neg hb] at hnx
                have hcn : ∃ o : Obj, wa.drew.heap[nbk]? = some o ∧ o.isCells = true := by
                  rcases hud.2 with ⟨e, _⟩ | ⟨g', off, cap, cur, e, hb, _⟩
                  · cases e
                  · cases e; exact ⟨_, hb, rfl⟩
                refine ⟨⟨i, by omega, rfl, ?_, ?_, ?_, ?_⟩, by simp [RowKit.intOf]⟩
                · exact HJ.out.1 (some nbk) _ wa.drew (wa.drew.setCell ⟨nbk, i, none⟩ (.int .i64 0)) (some nbk) (fun k e => by cases e; exact HT.out.2.1) hJd (grownBy_set1 _ _ _ _) (fun r e => by cases e; exact ⟨rfl, hcn⟩)
                · exact htd.same (w' := wa.drew.setCell ⟨nbk, i, none⟩ (.int .i64 0)) fun g hg => by cases hg; exact set_other (Ne.symm htn)
                · have := hud.set i (by simp; omega) (nv 0)
                  rw [← List.map_set, Nat.zero_add] at this
                  rw [show j - i = j - (i + 1) + 1 by omega, ← set_zero2 ns i (j - (i + 1)) (n0 + 1) (by omega)]
                  exact this
                · rw [hnx, show j - i = j - (i + 1) + 1 by omega, List.replicate_succ]; simp
            · obtain rfl : i1 = 0 := by omega
              have HZ := Lib.hid (And.intro hJq hnx); clear hJq hnx hrt hrn
              gi_wp2
              refine noGoto_ret ?_
              refine bodyPost_ret (results_none rfl _ _ _) rfl ?_
              obtain ⟨hJq, hnx⟩ := HZ.out
              obtain ⟨hns, hT, htl, _⟩ := HN.out
              obtain ⟨hgk, hg0⟩ := HG.out
              refine ⟨⟨_, rfl⟩, some nbk, (fun k e => by cases e; exact HT.out.2.1), .inl ⟨_, ?_, hJq⟩⟩
              have h1 := nth_more ts pre.length (by omega)
              rw [← hns, hnx] at h1
              have h2 : ¬ (pre.length + 1 < prodT ts) := by
                have : decide (pre.length + 1 < prodT ts) = false := by rw [← h1]; rfl
                simpa using this
              rw [List.length_append, List.length_singleton, ← HT.out.1]
              omega
        · have HK := Lib.hid hJx6; clear hJx6
          gi_wp2
          refine noGoto_normal ?_
          go_end0
          exact ⟨⟨_, rfl⟩, some nbk, (fun k e => by cases e; exact HT.out.2.1), .inr ⟨_, trivial, HK.out⟩⟩
end Go.Proofs.Ytfjjiohclokohaa.pm
