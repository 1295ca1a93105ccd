/-
  PROVED HERE: Store's contract. Conditions: the receiver is a memory, the address a word's, and the line's stores are few.
-/
import Derived.Test.YtfjjiohclokohaaLns
import Derived.StillTailTactics
import Derived.Deep.RegionWith
import Derived.Deep.DeepCutAuto
namespace Go.Proofs.Ytfjjiohclokohaa.pm
open Go.RowKit

/-- A line of which nothing is pending. -/
def noLine : Line := ⟨[], List.replicate 65 0⟩
def zeroLine : Value := .agg (lineArr (.slice none 0 0) (List.replicate 65 0))
theorem lineZero (w : World) : (zeroValue 75).run Try.prog w = .ok zeroLine w := by kernel_rfl
theorem lineInfo : (Try.prog.info? 75).map (·.size) = some 66 := by kernel_rfl
theorem putsInfo : (Try.prog.info? 56).map (fun i => (i.zero, i.size, i.bytes)) = some (some (.agg #[.int .u64 0, .int .u64 0]), 2, 16) := by kernel_rfl

/-- A block's cells are turned as one, where it is the newest one. -/
theorem setRow_alloc (w : World) (T : TypeId) (Z A : Array Value) : (w.alloc (.cells Z T)).setRow w.heap.size A = w.alloc (.cells A T) := by
  unfold World.setRow World.alloc
  congr 1
  apply Array.ext_getElem?
  intro i
  by_cases h : i = w.heap.size
  · subst h; rw [Array.getElem?_modify, Array.getElem?_push_size, Array.getElem?_push_size]; simp
  · by_cases h2 : i < w.heap.size
    · simp [Array.getElem?_modify, Array.getElem?_push_lt h2, Ne.symm h]
    · have h3 : w.heap.size < i := by omega
      simp [Array.getElem?_modify, Array.getElem?_push, h, Ne.symm h]

theorem zeroLine_size : Try.zeroCells75.size = 66 := by kernel_rfl

/-- A row of a line's cells is stored as one, into its own new block. -/
theorem store_line (w : World) {A : Array Value} (hA : A.size = 66) (h1 : A.all (·.oneCell') = true) :
    (storeCells ⟨w.heap.size, 0, none⟩ A.toList).run Try.prog (w.alloc (.cells Try.zeroCells75 75)).drew = .ok () (w.alloc (.cells A 75)).drew := by
  have hb : (w.drew.alloc (.cells Try.zeroCells75 75)).heap[w.heap.size]? = some (.cells Try.zeroCells75 75) := (MapKept.heap_alloc w.drew _).1
  have := run_storeCells_from (P := Try.prog) w.heap.size 75 A.toList 0 Try.zeroCells75 (w.drew.alloc (.cells Try.zeroCells75 75)) hb (by simp only [Array.length_toList, Nat.zero_add, hA, zeroLine_size]) (fun v hv => (Array.all_eq_true_iff_forall_mem.1 h1) v (by simpa using hv))
  rw [List.take_zero, List.nil_append, Array.toArray_toList] at this
  exact this.trans (congrArg (Result.ok ()) (setRow_alloc w.drew 75 _ A))

theorem load_line {w : World} {g : Nat} {A : Array Value} (h : w.heap[g]? = some (.cells A 75 (0, 0))) (hA : A.size = 66) : (loadCells ⟨g, 0, none⟩ 66).run Try.prog w = .ok A w := by
  have := run_loadCells_list (P := Try.prog) w ⟨g, 0, none⟩ A.toList (fun j v hj => by
    rw [addr_add, Nat.zero_add]; exact cell_of h (by rw [← Array.getElem?_toList]; exact hj))
  rw [Array.length_toList, hA, Array.toArray_toList] at this
  exact this

/-- A whole row is loaded, in a region that draws its order. -/
theorem wpStill_load_row {P : Program} {ops : Array Oper} {w : World} {Q : Act → Prop} {rest : List Oper} {o : Oper} {a : Act} (hgd : o.guard = none) (ty : TypeId) (x : Operand) (ho : o.op = .load ty x)
    (g : Nat) (hx : a.eval x = .pointer (some ⟨g, 0, none⟩)) (t : TypeId) (cs : Array Value) (fr : Nat × Nat) (d : TypeDesc) (hg : w.heap[g]? = some (.cells cs t fr))
    (hu : P.underlying ty = some d) (hd : (match d with | .struct _ | .array _ _ => true | _ => false) = true) (hi : (P.info? ty).map (·.size) = some cs.size)
    (h : wpStill P ops w Q rest (a.put o.dst (.agg cs))) : wpStill P ops w Q (o :: rest) a := by
  have hrun : (execOp a.eval o).run P w = .ok (.value (.agg cs)) w := by
    unfold execOp
    simp only [ho, hx, Instr.loadAt, Instr.sureAddr, Sem.run_bind, Sem.run_pure, Result.andThen_ok, run_loadVar_row w g t ty cs fr d hg hu hd hi]
  have hw : Region.wanted o (yielded ops a.tmps) = true := by simp [Region.wanted, hgd]
  unfold wpStill
  rw [if_pos hw, Oper.still, hrun, Oper.stillUpon_value]
  exact h

/-- The line of an address' key, as it is asked of a map. -/
theorem line_of {w : World} {L : List (Int × Value)} {M : List (Int × Line)} (h : LinesAt w L M) (k : Int) :
    ∃ sv marks puts, (get L k).getD zeroLine = .agg (lineArr sv marks) ∧ (get M k).getD noLine = ⟨puts, marks⟩ ∧ marks.length = 65 ∧ RowAt w 56 2 sv puts.length (flat puts)
      ∧ (∀ g, sv.ownBlock = some g → g ∈ blks L ∧ ∃ v0, get L k = some v0 ∧ blk v0 = some g) := by
  cases c : get L k with
  | none =>
    rw [h.get_none c]
    exact ⟨.slice none 0 0, List.replicate 65 0, [], rfl, rfl, by simp, RowAt.nil w _ _, by simp [Value.ownBlock]⟩
  | some v =>
    obtain ⟨l, hl, sv, rfl, hm, hr⟩ := h.get_some c
    rw [hl]
    refine ⟨sv, l.marks, l.puts, rfl, rfl, hm, hr, fun g hg => ⟨mem_blks.2 ⟨(k, _), get_mem c, by rw [blk_lineArr]; exact hg⟩, _, rfl, by rw [blk_lineArr]; exact hg⟩⟩

def Mod.store (M : Mod) (a x : Int) : Mod :=
  { M with
    view := M.view.set (a / 8).toNat x
    lines := put M.lines (a - a % 64) { (get M.lines (a - a % 64)).getD noLine with puts := ((get M.lines (a - a % 64)).getD noLine).puts ++ [(a, x)] }
    s1 := IntKind.u64.wrap (M.s1 + 1) }

/-- What Store leaves. -/
def StorePost (w : World) (b : Nat) (p : Pl) (M : Mod) (a x : Int) (e : Ending) (w' : World) : Prop :=
  e = .returned (.int .i64 0) ∧ ∃ p', IsMem w' b p' (M.store a x) ∧ Keeps (p.foot b) w w' ∧ ∀ i ∈ p'.foot b, i ∈ p.foot b ∨ w.heap.size ≤ i

/-- Putting it together: a line is put, the view's words are V. -/
theorem store_fin {w W4 W5 : World} {b : Nat} {p : Pl} {M : Mod} {svb : Option Nat} {k : Int} {v : Value} {l : Line} {V : List Int} {s1 s2 : Int} (h : IsMem w b p M)
    (hk : Keeps ([b, p.vb] ++ svb.toList) w W4) (hold : ∀ g, svb = some g → ∃ v0, get p.L k = some v0 ∧ blk v0 = some g) (hV : V.length = M.view.length)
    (hMW : MemAt W4 b (p.view M.view.length) (p.image M.image.length) p.mb M.s0 s1 s2 M.s3)
    (hvW : RowAt W4 28 1 (p.view M.view.length) M.view.length (V.map (Value.int .u64)))
    (hv : LineAt W4 v l) (hnew : ∀ g, blk v = some g → svb = some g ∨ w.heap.size ≤ g)
    {es : Array MapEntry} {clock : Nat} (hW5 : W5 = putB W4.drew p.mb (.map es clock)) (hm5 : MapIs W5 p.mb (put p.L k v)) :
    ∃ p', IsMem W5 b p' { M with view := V, lines := put M.lines k l, s1 := s1, s2 := s2 } ∧ Keeps (p.foot b) w W5 ∧ ∀ i ∈ p'.foot b, i ∈ p.foot b ∨ w.heap.size ≤ i := by
  have hsep := h.sep
  simp only [Pl.foot, List.nodup_cons, List.mem_cons, not_or] at hsep
  obtain ⟨⟨hbv, hbi, hbm, hbL⟩, ⟨hvi, hvm, hvL⟩, ⟨him, hiL⟩, hmL, hLL⟩ := hsep
  have hsv : ∀ g, svb = some g → g ∈ blks p.L := fun g hg => by
    obtain ⟨v0, h1, h2⟩ := hold g hg
    exact mem_blks.2 ⟨_, get_mem h1, h2⟩
  have k5 : ∀ i, i ≠ p.mb → W5.heap[i]? = W4.heap[i]? := fun i hi => by rw [hW5]; exact putB_other hi
  have hlt := h.lt
  have hib : W4.heap[p.ib]? = w.heap[p.ib]? := hk.block _ (hlt _ (by simp [Pl.foot])) (by
    simp only [List.mem_append, List.mem_cons, List.not_mem_nil, or_false, not_or, Option.mem_toList]
    exact ⟨⟨Ne.symm hbi, Ne.symm hvi⟩, fun hm => hiL (hsv _ hm)⟩)
  refine ⟨{ p with L := put p.L k v }, ⟨?_, ?_, ?_, hm5, ?_, ?_, uniq_put h.uniq k v⟩, ?_, ?_⟩
  · rw [← hV] at hMW
    exact (k5 b hbm).trans hMW
  · simp only [hV]
    exact hvW.same fun g hg => by cases hg; exact k5 _ hvm
  · exact h.image.same fun g hg => by cases hg; exact (k5 _ him).trans hib
  · refine LinesAt.putIn h.lines h.uniq k (hv.same fun g hg => ?_) fun q hq hqk g hg => ?_
    · refine k5 g fun e => ?_
      subst e
      rcases hnew _ hg with h1 | h1
      · exact hmL (hsv _ h1)
      · have := hlt p.mb (by simp [Pl.foot]); omega
    · have hm : g ∈ blks p.L := mem_blks.2 ⟨q, hq, hg⟩
      rw [k5 g (fun e => hmL (e ▸ hm))]
      refine hk.block _ (hlt _ (by simp [Pl.foot, hm])) ?_
      simp only [List.mem_append, List.mem_cons, List.not_mem_nil, or_false, not_or, Option.mem_toList]
      refine ⟨⟨fun e => hbL (e ▸ hm), fun e => hvL (e ▸ hm)⟩, fun hs => ?_⟩
      obtain ⟨v0, h1, h2⟩ := hold g hs
      have := blks_inj hLL hq (get_mem h1) hg h2
      rw [this] at hqk
      exact hqk rfl
  · refine sep_put h.sep k v fun g hg => ?_
    rcases hnew g hg with h1 | h1
    · exact .inl (hold g h1)
    · exact .inr fun hm => by have := hlt g hm; omega
  · refine (hk.mono fun i hi => .inl ?_).trans (((Keeps.drew W4).mono (G := p.foot b) (by simp)).trans (hW5 ▸ (Keeps.putB W4.drew p.mb _).mono (G := p.foot b) (fun i hi => .inl ?_)) (fun i hi => .inl hi)) (fun i hi => .inl hi)
    · simp only [List.mem_append, List.mem_cons, List.not_mem_nil, or_false, Option.mem_toList] at hi
      rcases hi with (rfl | rfl) | hi
      · simp [Pl.foot]
      · simp [Pl.foot]
      · simp [Pl.foot, hsv _ hi]
    · simp only [List.mem_singleton] at hi; subst hi; simp [Pl.foot]
  · intro i hi
    simp only [Pl.foot, List.mem_cons] at hi ⊢
    rcases hi with h1 | h1 | h1 | h1 | h1
    · exact .inl (.inl h1)
    · exact .inl (.inr (.inl h1))
    · exact .inl (.inr (.inr (.inl h1)))
    · exact .inl (.inr (.inr (.inr (.inl h1))))
    · rcases mem_blks_put h1 with h2 | h2
      · exact .inl (.inr (.inr (.inr (.inr h2))))
      · rcases hnew _ h2 with h3 | h3
        · exact .inl (.inr (.inr (.inr (.inr (hsv _ h3)))))
        · exact .inr h3

set_option maxRecDepth 100000 in
set_option maxHeartbeats 1000000 in
theorem store_any {w : World} {b : Nat} {p : Pl} {M : Mod} (h : IsMem w b p M) (hn : 0 < M.view.length) (hn2 : M.view.length ≤ 131072)
    (a x : Int) (h0 : 0 ≤ a) (h1 : a / 8 < M.view.length) (h8 : a % 8 = 0) (hfew : ((get M.lines (a - a % 64)).getD noLine).puts.length ≤ 1000000) :
    Calls Try.prog 21 #[.pointer (some ⟨b, 0, none⟩), .int .u64 a, .int .u64 x] w (StorePost w b p M a x) := by
  have hat : atE M.view.length a = 0 := by unfold atE; rw [if_neg (by omega)]
  have hsep := h.sep
  simp only [Pl.foot, List.nodup_cons, List.mem_cons, not_or] at hsep
  obtain ⟨⟨hbv, hbi, hbm, hbL⟩, ⟨hvi, hvm, hvL⟩, ⟨him, hiL⟩, hmL, hLL⟩ := hsep
  have c0 := h.blkAt.cells.1
  have c4 := h.blkAt.cells.2.2.2.2.1
  have fr := h.blkAt.free 4
  unfold Pl.view at c0
  have hv := h.view
  unfold Pl.view at hv
  have H8 := Lib.hid h8; clear h8
  obtain ⟨u, hu⟩ : ∃ u, (M.view.map (Value.int .u64))[(a / 8).toNat]? = some u := ⟨_, List.getElem?_eq_getElem (by simp; omega)⟩
  have cv := hv.cell hu
  have fv := hv.free (p.voff + (a / 8).toNat)
  have C4 : (w.setCell ⟨b, 4, none⟩ (.int .u64 (IntKind.u64.wrap (M.s1 + 1)))).cell? ⟨p.vb, p.voff + (a / 8).toNat, none⟩ = some u := by
    rw [cell_set_ne hbv]; exact cv
  go_enter Try.func21, Try.ntmps21
  go_wp2_with (go_at_call 37; refine (at_any h.blkAt hn hn2 a h0 (by omega)).mono ?_; rintro e w' ⟨rfl, rfl⟩; rw [hat])
  -- the world behind the view's store
  obtain ⟨W, hW⟩ : ∃ W, W = (w.setCell ⟨b, 4, none⟩ (.int .u64 (IntKind.u64.wrap (M.s1 + 1)))).setCell ⟨p.vb, p.voff + (a / 8).toNat, none⟩ (.int .u64 x) := ⟨_, rfl⟩
  rw [← hW]
  have hkW : Keeps [b, p.vb] w W := by
    rw [hW]; exact ((Keeps.setCell w b 4 _).mono (by simp)).trans ((Keeps.setCell _ p.vb _ _).mono (G := [b, p.vb]) (by simp)) (by simp)
  have hMW : MemAt W b (p.view M.view.length) (p.image M.image.length) p.mb M.s0 (IntKind.u64.wrap (M.s1 + 1)) M.s2 M.s3 := by
    rw [hW]; exact (set_other (Ne.symm hbv)).trans (set_same h.blkAt)
  have d2 := hMW.cells.2.2.1
  have hLW : MapIs W p.mb p.L := h.map.same (hkW.block _ h.map.lt (by simp; exact ⟨Ne.symm hbm, Ne.symm hvm⟩))
  have hsz : W.heap.size = w.heap.size := by rw [hW]; simp
  have hlines : LinesAt W p.L M.lines := h.lines.same fun g hg => hkW.block g (h.lt g (by simp [Pl.foot, hg])) (by
    simp only [List.mem_cons, List.not_mem_nil, or_false, not_or]
    exact ⟨fun e => hbL (e ▸ hg), fun e => hvL (e ▸ hg)⟩)
  have hvW : RowAt W 28 1 (p.view M.view.length) M.view.length ((M.view.map (Value.int .u64)).set (a / 8).toNat (.int .u64 x)) := by
    have h2 : RowAt (w.setCell ⟨b, 4, none⟩ (.int .u64 (IntKind.u64.wrap (M.s1 + 1)))) 28 1 (p.view M.view.length) M.view.length (M.view.map (Value.int .u64)) :=
      h.view.same fun g hg => by cases hg; exact set_other hbv
    rw [hW]; exact RowAt.set h2 (a / 8).toNat (by simp; omega) _
  obtain ⟨sv, marks, puts, hget, hgetM, hmk, hrow, hblk⟩ := line_of hlines (a - a % 64)
  have hA1 : (lineArr sv marks).size = 66 := lineArr_size hmk
  have hA2 : (lineArr sv marks).all (·.oneCell') = true := lineArr_one hrow.oneCell
  have hlk : (Instr.lookup 64 (.map (some p.mb)) (.int .u64 (a - a % 64)) false).run Try.prog W.drew = .ok (.agg (lineArr sv marks)) W.drew := by
    rw [← hget]; exact run_lookup_u64 (w := W.drew) (hLW.same rfl) Try.underlying64 Try.underlying48 (lineZero _) _
  have hlk2 : (Instr.lookup 64 (.map (some p.mb)) (.int .u64 (a - a % 64)) false).run Try.prog (W.alloc (.cells Try.zeroCells75 75)).drew = .ok (.agg (lineArr sv marks)) (W.alloc (.cells Try.zeroCells75 75)).drew := by
    rw [← hget]; exact run_lookup_u64 (w := (W.alloc (.cells Try.zeroCells75 75)).drew) (hLW.same ((MapKept.heap_alloc W _).2 _ hLW.lt)) Try.underlying64 Try.underlying48 (lineZero _) _
  have hst := store_line W hA1 hA2
  have d2' : (W.alloc (.cells Try.zeroCells75 75)).cell? ⟨b, 2, none⟩ = some (.map (some p.mb)) := (World.cell?_alloc_lt _ _ _ (World.block_lt_of_cell? _ _ d2)).trans d2
  obtain ⟨A, hA⟩ : ∃ A, A = lineArr sv marks := ⟨_, rfl⟩
  rw [← hA] at hlk hlk2 hst hA1 hA2
  have HA := Lib.hid hA; clear hA
  have HW := Lib.hid hW; clear hW
  have HG := Lib.hid hgetM; clear hgetM
  have HS := Lib.hid hsz; clear hsz
  clear c0 c4 fr cv fv C4 hu hv hget hat
  have hblk0 := Lib.hid hblk; clear hblk
  go_cut [8] (fun s8 wx => s8 = .pointer (some ⟨W.heap.size, 0, none⟩) ∧ wx = (W.alloc (.cells A 75)).drew)
  case first =>
    go_region_with (go_at_call 39; refine (begin_any _ _ h0 (by omega)).mono ?_; rintro e w' ⟨rfl, rfl⟩)
    all_goals (go_wp2_with fail; go_meet; exact ⟨rfl, rfl⟩)
  case rest =>
    obtain ⟨rfl, rfl⟩ := hcut
    clear hlk hlk2 hst d2'
    obtain ⟨W2, hW2⟩ : ∃ W2, W2 = (W.alloc (.cells A 75)).drew := ⟨_, rfl⟩
    rw [← hW2]
    have hk2 : Keeps [] W W2 := by rw [hW2]; exact (Keeps.alloc W _).trans (Keeps.drew _) (by simp)
    have hb2 : W2.heap[W.heap.size]? = some (.cells A 75 (0, 0)) := by rw [hW2]; exact alloc_new (w := W)
    have hz2 : W2.heap.size = W.heap.size + 1 := by rw [hW2]; simp
    have q0 : W2.cell? ⟨W.heap.size, 0, none⟩ = some sv := cell_of hb2 (by rw [HA.out]; exact lineArr_zero)
    have f0 : W2.frozen? ⟨W.heap.size, 0, none⟩ = false := free_of hb2
    have hrow2 : RowAt W2 56 2 sv puts.length (flat puts) := hrow.same fun g hg => hk2.block g (hrow.lt hg) (by simp)
    have HW2 := Lib.hid hW2; clear hW2
    have HZ2 := Lib.hid hz2; clear hz2
    obtain ⟨hh, hhh⟩ : ∃ hh, hh = W.heap.size := ⟨_, rfl⟩
    rw [← hhh] at hb2 q0 f0 ⊢
    have HH := Lib.hid hhh; clear hhh
    obtain ⟨i0, hi, hz0, hz1, hzz⟩ := info_parts putsInfo
    have hfew' : puts.length ≤ 1000000 := by rw [HG.out] at hfew; exact hfew
    go_wp2_with (at_builtin; refine wpList_append_row _ rfl _ _ 22 rfl 56 i0 (.agg #[.int .u64 0, .int .u64 0]) 2 16 Try.underlying22 hi hz0 hz1 hzz rfl sv (.slice (some ⟨W2.heap.size, 0, none⟩) 1 1) rfl rfl puts.length (flat puts) (hrow2.same fun g hg => (MapKept.heap_alloc W2 _).2 g (hrow2.lt hg)) 1 [.int .u64 a, .int .u64 x] ?hr rfl ?ho ?hm ?hby ?_)
    case hr => exact .inr ⟨⟨W2.heap.size, 0, none⟩, 1, rfl, rfl, fun j u hj => by
      have hc := alloc_new (w := W2) (o := .cells #[.int .u64 a, .int .u64 x] 56)
      match j, hj with
      | 0, hj => cases hj; exact cell_of hc rfl
      | 1, hj => cases hj; exact cell_of hc rfl⟩
    case ho => intro u hu; simp only [List.mem_cons, List.not_mem_nil, or_false] at hu; rcases hu with rfl | rfl <;> rfl
    case hm => unfold maxLen; omega
    case hby => omega
    intro sv' w1 hrow' hgrow hblk' g' off' cap' hsl
    subst hsl
    have hgW : ∀ g, sv.ownBlock = some g → g < W.heap.size := fun g hg => hrow.lt hg
    have hk1 : Keeps sv.ownBlock.toList W2 w1 := ((Keeps.alloc W2 _).mono (G := sv.ownBlock.toList) (by simp)).trans (Keeps.grown hgrow) (fun i hi => .inl hi)
    have hb1 : w1.heap[hh]? = some (.cells A 75 (0, 0)) := (hk1.block hh (lt_of hb2) (by
      intro hm
      have := hgW hh (by simpa using hm)
      rw [HH.out] at this; omega)).trans hb2
    have q1 : w1.cell? ⟨hh, 0, none⟩ = some sv := cell_of hb1 (by rw [HA.out]; exact lineArr_zero)
    have f1 : w1.frozen? ⟨hh, 0, none⟩ = false := free_of hb1
    go_wp2
    obtain ⟨W4, hW4⟩ : ∃ W4, W4 = w1.setCell ⟨hh, 0, none⟩ (.slice (some ⟨g', off', none⟩) (puts.length + 1) cap') := ⟨_, rfl⟩
    rw [← hW4]
    have hk4 : Keeps (hh :: sv.ownBlock.toList) W2 W4 := by
      rw [hW4]; exact (hk1.mono (fun i hi => .inl (by simp [hi]))).trans ((Keeps.setCell w1 hh 0 _).mono (G := hh :: sv.ownBlock.toList) (fun i hi => .inl (by simp at hi; simp [hi]))) (fun i hi => .inl hi)
    have hkW4 : Keeps sv.ownBlock.toList W W4 := (hk2.mono (by simp)).trans hk4 (fun i hi => by
      simp only [List.mem_cons] at hi
      rcases hi with rfl | hi
      · exact .inr (by rw [HH.out]; exact Nat.le_refl _)
      · exact .inl hi)
    have hM4 : MemAt W4 b (p.view M.view.length) (p.image M.image.length) p.mb M.s0 (IntKind.u64.wrap (M.s1 + 1)) M.s2 M.s3 :=
      (hkW4.block b (lt_of hMW) (fun hi => hbL ((hblk0.out _ (by simpa using hi)).1))).trans hMW
    have d4 := hM4.cells.2.2.1
    have hb4 : W4.heap[hh]? = some (.cells (lineArr (.slice (some ⟨g', off', none⟩) (puts.length + 1) cap') marks) 75 (0, 0)) := by
      rw [hW4, HA.out] at *
      rw [set_same hb1, lineArr_set]
    have hL4 : MapIs W4 p.mb p.L := hLW.same (hkW4.block _ hLW.lt (fun hi => hmL ((hblk0.out _ (by simpa using hi)).1)))
    obtain ⟨A', hA'⟩ : ∃ A', A' = lineArr (.slice (some ⟨g', off', none⟩) (puts.length + 1) cap') marks := ⟨_, rfl⟩
    rw [← hA'] at hb4
    have hA66 : A'.size = 66 := by rw [hA']; exact lineArr_size hmk
    obtain ⟨es, clock, hup, hm5⟩ := run_update_u64 (P := Try.prog) (w := W4.drew) (T := 64) (E := 75) (hL4.same rfl) Try.underlying64 Try.underlying48 (a - a % 64) (.agg A')
    have HA' := Lib.hid hA'; clear hA'
    have HW4 := Lib.hid hW4; clear hW4
    obtain ⟨W5, hW5⟩ : ∃ W5, W5 = putB W4.drew p.mb (.map es clock) := ⟨_, rfl⟩
    rw [← hW5] at hup hm5
    have HW5 := Lib.hid hW5; clear hW5
    clear q1 f1 q0 f0 hb2 hb1
    refine wp_region_still_tail 7 (by kernel_rfl) (by kernel_rfl) ?_
    simp only [List.take_succ_cons, List.take_zero, List.drop_succ_cons, List.drop_zero]
    still_step
    still_step
    still_step
    still_step
    still_step
    still_call ((begin_any _ _ h0 (by omega)).mono fun _ _ h => ⟨h.1, h.2.symm⟩)
    refine wpStill_load_row rfl 75 _ rfl hh rfl 75 A' (0, 0) _ hb4 Try.underlying75 rfl (by rw [lineInfo]; exact congrArg some hA66.symm) ?_
    simp only [Act.put, List.setIfInBounds_toArray, List.set_cons_succ, List.set_cons_zero]
    refine wpStill_nil ?_
    go_wp2
    go_ret
    refine ⟨rfl, ?_⟩
    have hk : Keeps ([b, p.vb] ++ sv.ownBlock.toList) w W4 := (hkW.mono (fun i hi => .inl (List.mem_append_left _ hi))).trans (hkW4.mono (G := [b, p.vb] ++ sv.ownBlock.toList) (fun i hi => .inl (List.mem_append_right _ hi))) (fun i hi => .inl hi)
    have hrow4 : RowAt W4 56 2 (.slice (some ⟨g', off', none⟩) (puts.length + 1) cap') (puts ++ [(a, x)]).length (flat (puts ++ [(a, x)])) := by
      rw [flat_append, List.length_append]
      refine hrow'.same fun g hg => ?_
      rw [HW4.out]
      refine set_other fun e => ?_
      cases hg
      have e : hh = g' := e
      rcases hblk' with h1 | ⟨g, h1, h2⟩
      · have := hgW g' h1.symm; rw [HH.out] at e; omega
      · have h3 : g' = g := by simpa [Value.ownBlock] using h1
        have h4 := HZ2.out
        rw [HH.out] at e
        omega
    have hfin := store_fin (k := a - a % 64) (v := .agg A') (l := ⟨puts ++ [(a, x)], marks⟩) (V := M.view.set (a / 8).toNat x) h hk (svb := sv.ownBlock)
      (fun g hg => (hblk0.out g hg).2) (by simp) hM4
      (by rw [List.map_set]; exact hvW.same fun g hg => by
            cases hg
            exact hkW4.block _ (hvW.lt rfl) (fun hm => hvL ((hblk0.out _ (by simpa using hm)).1)))
      ⟨_, by rw [HA'.out], hmk, hrow4⟩
      (fun g hg => by
        rw [HA'.out, blk_lineArr] at hg
        rcases hblk' with h1 | ⟨g2, h1, h2⟩
        · exact .inl (by rw [← h1]; exact hg)
        · rw [h1] at hg; cases hg; have := HZ2.out; have := HS.out; exact .inr (by omega))
      HW5.out hm5
    have he : (M.store a x) = { M with view := M.view.set (a / 8).toNat x, lines := put M.lines (a - a % 64) ⟨puts ++ [(a, x)], marks⟩, s1 := IntKind.u64.wrap (M.s1 + 1), s2 := M.s2 } := by
      unfold Mod.store; rw [HG.out]
    rw [he]
    exact hfin
end Go.Proofs.Ytfjjiohclokohaa.pm
