/-
  PROVED HERE: TearCounts returns true, in every memory. Conditions: the stores are read; each a store.
-/
import Derived.Test.YtfjjiohclokohaaTI
import Derived.Test.YtfjjiohclokohaaKB
import Derived.Sort.CutIn
namespace Go.Proofs.Ytfjjiohclokohaa.pm
open Go.RowKit Go.Shelf Go.Proofs.Ytfjjiohclokohaa.tp Go.Proofs.Ytfjjiohclokohaa.rn
set_option linter.unusedVariables false
attribute [local go_sem] Oper.semAt_some

theorem run_eql_func_nil {P : Program} (w : World) (t : TypeId) {d e : Array TypeId} {v : Bool} (f : Fn) (c b : Array Value) (ht : P.underlying t = some (.func d e v)) : (binOp .eql t (.func f c b) .nilFunc).run P w = .ok (.bool false) w := by
  have h : ∀ d : Nat, (Op.equalIn (d + 1) t (.func f c b) .nilFunc).run P w = .ok false w := fun d => by
    simp [Op.equalIn, run_underlying ht]
  simp only [binOp]
  simp [Op.equal, Op.maxDepth, h 9999]

theorem inBlock_either {Q : Exit → Act → World → Prop} {e : Exit} {a : Act} {w : World} (h : e = .normal ∨ e = .exit 0) (hq : Exit.inBlock 0 Q .normal a w) : Exit.inBlock 0 Q e a w := by
  rcases h with rfl | rfl
  · exact hq
  · simpa [Exit.inBlock] using hq

theorem tearTears_any (w : World) (b : Nat) : Calls Try.prog 10 #[.pointer (some ⟨b, 0, none⟩)] w fun e W' => e = .returned (.func (.func 26) #[] #[.pointer (some ⟨w.heap.size, 0, none⟩)]) ∧ W' = w.alloc (.cells #[.pointer (some ⟨b, 0, none⟩)] 23) := by
  go_enter Try.func10, Try.ntmps10
  go_wp2_with fail
  go_ret
  exact ⟨by simp, rfl⟩

set_option maxRecDepth 100000 in
set_option maxHeartbeats 4000000 in
theorem counts_in (n : Nat) (hn : 7 ≤ n) {w : World} (ln a3 at_ : Int) (hnb : -9223372036854775808 ≤ ln ∧ ln ≤ 9223372036854775807) {v : Value} {ps : List (Int × Int)} (h : Reads w v ps.length (flat ps)) (hp : ∀ p ∈ ps, U64 p.1 ∧ U64 p.2) (hlen : ps.length ≤ 9223372036854775807)
    (hkn : ∀ w, Calls Try.prog 6 #[] w fun e w' => e = .returned (.bool true) ∧ KB w w') :
    CallsIn Fence.wide n Try.prog 3 #[.int .i64 ln, v, .int .i64 at_, .int .i64 a3] w fun e W' => e = .returned (.bool true) ∧ KB w W' := by
  have h1 : 1 ≤ n := by omega
  obtain ⟨ao, cp, rfl⟩ := reads_shape h
  obtain ⟨W0, hW0⟩ : ∃ W0, W0 = (w.alloc (.cells #[.int .i64 a3] 3)).alloc (.cells #[.bool false] 4) := ⟨_, rfl⟩
  have hk0 : Keeps [] w W0 := by rw [hW0]; exact (Keeps.alloc w _).trans (Keeps.alloc _ _) (by simp)
  have hs0 : W0.heap.size = w.heap.size + 2 := by rw [hW0]; simp
  have hb7 : Boxed W0 w.heap.size 3 (.int .i64 a3) := by rw [hW0]; exact (Boxed.new w 3 _).alloc _
  have hb8 : Boxed W0 (w.heap.size + 1) 4 (.bool false) := by
    rw [hW0]
    have := Boxed.new (w.alloc (.cells #[.int .i64 a3] 3)) 4 (.bool false)
    rwa [World.size_alloc] at this
  have HLd := Lib.hid (laid_any (w := W0) ln hnb (h.keeps hk0 (by simp)) hp hlen at_)
  obtain ⟨N, hN⟩ : ∃ N, N = w.heap.size := ⟨_, rfl⟩
  rw [← hN] at hs0 hb7 hb8
  have HB := Lib.hid (And.intro hk0 (And.intro hs0 (And.intro hb7 (And.intro hb8 hN)))); clear hk0 hs0 hb7 hb8 h hp
  refine callsIn_of_wp_marks Try.func3 rfl trivial ?_ rfl
  simp only [Try.ntmps3, List.size_toArray, List.length_cons, List.length_nil, Nat.reduceAdd, Nat.reduceSub, Array.replicate_succ, Array.replicate_zero, List.push_toArray, List.append_toArray, List.nil_append, List.cons_append]
  gi_wp2
  rw [← hW0, ← hN]
  have HW0 := Lib.hid hW0; clear hW0 hN
  refine ⟨trivial, (callsIn_wide.2 HLd.out).mono ?_⟩
  rintro e w1 ⟨hk1, rfl | ⟨b, p, M, rfl, i1, i2, hI, hG, hf⟩⟩
  · obtain ⟨hk0, hs0, hb7, hb8, hN⟩ := HB.out
    have hc8 : Boxed w1 (N + 1) 4 (.bool false) := (hk1.block _ hb8.lt (by simp)).trans hb8
    have HX := Lib.hid (And.intro hk1 hc8); clear hk1 hc8 hb7 hb8 hN hk0 hs0
    gi_wp2
    refine ⟨trivial, (callsIn_wide.2 (hkn _)).mono ?_⟩
    rintro e w2 ⟨rfl, hk2⟩
    have hc := HX.out.2
    have hc2 : Boxed w2 (N + 1) 4 (.bool false) := (hk2.2.2 _ hc.lt).trans hc
    have d1 := hc2.cell
    have f1 := hc2.frozen
    have H2 := Lib.hid (And.intro hk2 hc2); clear hk2 hc2 hc
    gi_wp2
    refine ⟨.bool true, ?_, rfl, ?_⟩
    · have hcell : (w2.setCell ⟨N + 1, 0, none⟩ (.bool true)).cell? ⟨N + 1, 0, none⟩ = some (.bool true) := (H2.out.2.set (.bool true)).cell
      simp [results, Try.results3, go_sem, hcell]
    · obtain ⟨hk0, hs0, hb7, hb8, hN⟩ := HB.out
      have hk : KB w w2 := ((KB.of_keeps hk0).trans (KB.of_keeps HX.out.1)).trans H2.out.1
      exact ⟨hk.1, hk.2.1, fun i hi => (set_other (by omega)).trans (hk.2.2 i hi)⟩
  · obtain ⟨hk0, hs0, hb7, hb8, hN⟩ := HB.out
    have hn40 : M.lines.length ≤ 1000 := Nat.le_trans hG.lines (by omega)
    have hp40 : ∀ q ∈ M.lines, q.2.puts.length ≤ 1000 := fun q hq => Nat.le_trans (hG.puts q hq) (by omega)
    have HTop := Lib.hid (tearTop_any hI hG.wf hn40 hp40)
    have c7 : Boxed w1 N 3 (.int .i64 a3) := (hk1.block _ hb7.lt (by simp)).trans hb7
    have c8 : Boxed w1 (N + 1) 4 (.bool false) := (hk1.block _ hb8.lt (by simp)).trans hb8
    have HI := Lib.hid (And.intro hI (And.intro hG (And.intro hf (And.intro hn40 hp40))))
    have H1 := Lib.hid (And.intro hk1 (And.intro c7 c8))
    have HKn := Lib.hid hkn
    clear hI hG hf hn40 hp40 hk1 c7 c8 hk0 hs0 hb7 hb8 hN hkn
    gi_wp2
    refine ⟨trivial, (callsIn_wide.2 HTop.out).mono ?_⟩
    rintro e w2 ⟨v2, rfl, hr2, hk2, hg2⟩
    obtain ⟨ts, hts⟩ : ∃ ts, ts = M.tops := ⟨_, rfl⟩
    have htl : ts.length = M.lines.length := by rw [hts]; exact M.tops_length
    rw [← hts, ← htl] at hr2
    obtain ⟨ao2, cp2, rfl⟩ := reads_shape hr2.reads
    obtain ⟨b10, hb10⟩ : ∃ b10, b10 = w2.heap.size := ⟨_, rfl⟩
    obtain ⟨w3, hw3⟩ : ∃ w3, w3 = w2.alloc (.cells #[.slice ao2 ts.length cp2] 26) := ⟨_, rfl⟩
    have hk3 : Keeps [] w2 w3 := by rw [hw3]; exact Keeps.alloc _ _
    have c10 : Boxed w3 b10 26 (.slice ao2 ts.length cp2) := by rw [hw3, hb10]; exact Boxed.new w2 26 _
    obtain ⟨hI, hG, hf, hn40, hp40⟩ := HI.out
    have HCnt := Lib.hid (tearCount_any (hI.keeps (hk2.trans hk3 (by simp)) (by simp)) hG.wf hn40 hp40)
    rw [← hts] at HCnt
    have H3 := Lib.hid (And.intro hts (And.intro htl (And.intro hr2 (And.intro hk2 (And.intro hg2 (And.intro hb10 (And.intro hk3 c10)))))))
    have hal : w2.alloc (.cells #[.slice ao2 ts.length cp2] 26) = w3 := hw3.symm
    have hal2 : w2.heap.size = b10 := hb10.symm
    clear hts htl hr2 hk2 hg2 hb10 hw3 hk3 c10 hI hG hf hn40 hp40
    gi_wp2
    refine ⟨trivial, (callsIn_wide.2 HCnt.out).mono ?_⟩
    clear hal hal2
    rintro e w4 ⟨rfl, hk4⟩
    obtain ⟨hts, htl, hr2, hk2, hg2, hb10, hk3, c10⟩ := H3.out
    obtain ⟨hI, hG, hf, hn40, hp40⟩ := HI.out
    have c10' : Boxed w4 b10 26 (.slice ao2 ts.length cp2) := (hk4.block _ c10.lt (by simp)).trans c10
    have d10 := c10'.cell
    have hr4 : RowAt w4 3 1 (.slice ao2 ts.length cp2) ts.length (ts.map nv) := hr2.same fun g hg => (hk4.block g (by have := hk3.size; have := hr2.lt hg; omega) (by simp)).trans (hk3.block g (hr2.lt hg) (by simp))
    have htb : ∀ t ∈ ts, t ≤ 1000 := by rw [hts]; exact Mod.tops_le hp40
    have HRc := Lib.hid (refCount_any hr4.reads (by omega) htb)
    have HTs := Lib.hid (fun wx => tearTears_any wx b)
    have htn : ts.length ≤ 1000 := by omega
    have H4 := Lib.hid (And.intro hk4 (And.intro c10' (And.intro hr4 htb)))
    clear hts htl hr2 hk2 hg2 hb10 hk3 c10 hI hG hf hn40 hp40 hk4 c10' hr4 htb
    gi_wp2
    refine ⟨trivial, (callsIn_wide.2 HRc.out).mono ?_⟩
    rintro e w5 ⟨rfl, rfl⟩
    obtain ⟨rc, hrc⟩ : ∃ rc, rc = refT 1 ts := ⟨_, rfl⟩
    obtain ⟨cc, hcc⟩ : ∃ cc, cc = cntT 1 ts := ⟨_, rfl⟩
    have hok := refT_ok ts 1 (by omega) (by omega)
    rw [← hrc, ← hcc] at hok ⊢
    have HC := Lib.hid (And.intro hrc hcc); clear hrc hcc
    gi_upto_region 7 with fail
    gi_cut [47] from 33 (fun s47 wx => s47 = .bool false ∧ wx = w4)
    case first =>
      cases rc with
      | zero =>
        have hge := hok.2 rfl
        obtain ⟨c1, rfl⟩ : ∃ c1, cc = c1 + 4503599627370496 := ⟨cc - 4503599627370496, by omega⟩
        have b1 : ¬ (((c1 + 4503599627370496 : Nat) : Int) < 4503599627370496) := by omega
        have b3 : ¬ ((c1 : Int) + 4503599627370496 < 4503599627370496) := by omega
        clear hok hge
        gi_wp2
        gi_meet
        exact ⟨rfl, rfl⟩
      | succ r1 =>
        have hee := (hok.1 (Nat.succ_ne_zero _)).1
        subst hee
        clear hok
        have b2 : ((((r1 + 1 : Nat) : Int)) == 0) = false := by simp; omega
        gi_wp2
        gi_meet
        exact ⟨rfl, rfl⟩
    case rest =>
    obtain ⟨rfl, rfl⟩ := hcut
    clear hok
    gi_wp2
    refine ⟨trivial, (callsIn_wide.2 (HTs.out _)).mono ?_⟩
    rintro e w6 ⟨rfl, hw6⟩
    obtain ⟨hk4, c10, hr4, htb⟩ := H4.out
    obtain ⟨bx, hbx⟩ : ∃ bx, bx = wc.heap.size := ⟨_, rfl⟩
    have hk6 : Keeps [] wc w6 := by rw [hw6]; exact Keeps.alloc _ _
    have cbx : w6.cell? ⟨bx, 0, none⟩ = some (.pointer (some ⟨b, 0, none⟩)) := by rw [hw6, hbx]; exact cell_of alloc_new rfl
    have c10' : Boxed w6 b10 26 (.slice ao2 ts.length cp2) := (hk6.block _ c10.lt (by simp)).trans c10
    have d10 := c10'.cell
    have hr6 : RowAt w6 3 1 (.slice ao2 ts.length cp2) ts.length (ts.map nv) := hr4.same fun g hg => hk6.block g (hr4.lt hg) (by simp)
    have hs6 : w6.heap.size = bx + 1 := by rw [hw6, hbx]; simp
    have hbxB : Boxed w6 bx 23 (.pointer (some ⟨b, 0, none⟩)) := by rw [hw6, hbx]; exact Boxed.new wc 23 _
    have H6 := Lib.hid (And.intro hk6 (And.intro cbx (And.intro c10' (And.intro hr6 (And.intro hs6 (And.intro hbx hbxB)))))); 
    rw [← hbx]
    clear hk4 c10 hr4 htb hw6 hk6 cbx c10' hr6 hs6 hbx hbxB
    obtain ⟨i0, hi0, hz0, hz1, hz2⟩ := info_parts intInfo
    have heq := fun w => run_eql_func_nil (P := Try.prog) w 32 (.func 26) #[] #[.pointer (some ⟨bx, 0, none⟩)] Try.underlying32
    gi_upto_region 12 with fail
    refine wpIn_wide_normal ?_
    go_wp2_with (at_make; refine wpList_make_full _ rfl _ _ 26 rfl w6.heap.size 3 i0 (.int .i64 0) 1 Try.underlying26 hi0 hz0 hz1 .i64 .i64 (ts.length : Int) (ts.length : Int) ts.length rfl rfl rfl rfl (by rw [hz2]; omega) (by unfold maxLen; omega) (Nat.le_refl _) ?_; intro w7 hown hgr)
    simp only [onlyNormal]
    gi_wp2
    obtain ⟨b14, hb14⟩ : ∃ b14, b14 = w7.heap.size := ⟨_, rfl⟩
    obtain ⟨b15, hb15⟩ : ∃ b15, b15 = w7.heap.size + 1 := ⟨_, rfl⟩
    obtain ⟨v0, hv0⟩ : ∃ v0, v0 = w6.heap.size := ⟨_, rfl⟩
    obtain ⟨W1, hW1⟩ : ∃ W1, W1 = ((w7.alloc (.cells #[.slice (some ⟨w6.heap.size, 0, none⟩) ts.length ts.length] 26)).alloc (.cells #[.int .i64 0] 3)) := ⟨_, rfl⟩
    have hk7 : Keeps [] w6 w7 := Keeps.grown hgr
    have hkW : Keeps [] w7 W1 := by rw [hW1]; exact (Keeps.alloc w7 _).trans (Keeps.alloc _ _) (by simp)
    have c14 : Boxed W1 b14 26 (.slice (some ⟨v0, 0, none⟩) ts.length ts.length) := by rw [hW1, hb14, hv0]; exact (Boxed.new w7 26 _).alloc _
    have c15 : Boxed W1 b15 3 (.int .i64 0) := by
      rw [hW1, hb15]
      have := Boxed.new (w7.alloc (.cells #[.slice (some ⟨w6.heap.size, 0, none⟩) ts.length ts.length] 26)) 3 (.int .i64 0)
      rwa [World.size_alloc] at this
    have hrn : RowAt W1 3 1 (.slice (some ⟨v0, 0, none⟩) ts.length ts.length) ts.length ((nth ts 0).map nv) := by
      have h := RowAt.of_own hown
      rw [makeInts] at h
      rw [hv0]
      exact h.same fun g hg => hkW.block g (h.lt hg) (by simp)
    have hsW : W1.heap.size = w7.heap.size + 2 := by rw [hW1]; simp
    have hv7 : v0 < w7.heap.size := by rw [hv0]; exact (RowAt.of_own hown).lt rfl
    rw [← hW1, ← hb15, ← hb14, ← hv0]
    obtain ⟨hk0, hs0, hb7, hb8, hN⟩ := HB.out
    obtain ⟨hk1, e7, e8⟩ := H1.out
    obtain ⟨hts, htl, hr2, hk2, hg2, hb10, hk3, _⟩ := H3.out
    obtain ⟨hk4, _, _, htb⟩ := H4.out
    obtain ⟨hk6, cbx, e10, hr6, hs6, hbx, hbxB⟩ := H6.out
    obtain ⟨hI, hG, hf, hn40, hp40⟩ := HI.out
    have q1 := hk1.size
    have q2 := hk2.size
    have q3 := hk3.size
    have q4 := hk4.size
    have q6 := hk6.size
    have q7 := hk7.size
    have k16 : Keeps [] w1 w6 := ((hk2.trans hk3 (by simp)).trans hk4 (by simp)).trans hk6 (by simp)
    have k6W : Keeps [] w6 W1 := hk7.trans hkW (by simp)
    have k1W : Keeps [] w1 W1 := k16.trans k6W (by simp)
    have kW : Keeps [] w W1 := (hk0.trans hk1 (by simp)).trans k1W (by simp)
    have g7 : Boxed W1 N 3 (.int .i64 a3) := (k1W.block _ e7.lt (by simp)).trans e7
    have g8 : Boxed W1 (N + 1) 4 (.bool false) := (k1W.block _ e8.lt (by simp)).trans e8
    have g10 : Boxed W1 b10 26 (.slice ao2 ts.length cp2) := (k6W.block _ e10.lt (by simp)).trans e10
    have gt : RowAt W1 3 1 (.slice ao2 ts.length cp2) ts.length (ts.map nv) := hr6.same fun g hg => k6W.block g (hr6.lt hg) (by simp)
    have hI6 : IsMem W1 b p M := hI.keeps k1W (by simp)
    have cbx' : W1.cell? ⟨bx, 0, none⟩ = some (.pointer (some ⟨b, 0, none⟩)) := by rw [World.cell?_of_block (k6W.block bx (by omega) (by simp))]; exact cbx
    have tvn : ∀ g, (Value.slice ao2 ts.length cp2).ownBlock = some g → N + 2 ≤ g ∧ g < b10 := fun g hg => ⟨by have := hg2 g hg; omega, by have := hr2.lt hg; omega⟩
    have hTI : ∀ nb, NbOk (W1.heap.size + 2) nb → TI w W1.heap.size [(N, 3, .int .i64 a3), (N + 1, 4, .bool false), (b10, 26, .slice ao2 ts.length cp2)] (fun k => [(b15, 3, .int .i64 k)]) b14 (.slice ao2 ts.length cp2) ts W1 (bx :: p.foot b) nb 0 W1 := fun nb hnb => by
      refine ⟨fun q hq => ?_, ⟨_, c14, hrn, fun g hg => ⟨fun e => ?_, ?_, ?_⟩⟩, gt, kW, Nat.le_refl _, fun _ _ => rfl⟩
      · simp only [List.cons_append, List.nil_append, List.mem_cons, List.not_mem_nil, or_false] at hq
        rcases hq with rfl | rfl | rfl | rfl
        · exact g7
        · exact g8
        · exact g10
        · exact c15
      · obtain rfl : v0 = g := by simpa [Value.ownBlock] using hg
        have := hnb _ e; omega
      · obtain rfl : v0 = g := by simpa [Value.ownBlock] using hg
        intro hi
        simp at hi
        omega
      · obtain rfl : v0 = g := by simpa [Value.ownBlock] using hg
        omega
    have HT := Lib.hid (And.intro hTI (And.intro hI6 (And.intro cbx' (And.intro tvn (And.intro hsW (And.intro kW htb))))))
    have hfs1 : ∀ i ∈ bx :: p.foot b, (i < W1.heap.size ∧ ∃ o : Obj, W1.heap[i]? = some o ∧ (o.isCells = true ∨ o.isWalk = true)) ∧ i ≠ b14 ∧ i ≠ b15 ∧ i < b14 := fun i hi => by
      rcases List.mem_cons.1 hi with rfl | hi
      · have hb : Boxed W1 i 23 (.pointer (some ⟨b, 0, none⟩)) := (k6W.block i (by omega) (by simp)).trans hbxB
        exact ⟨⟨by omega, _, hb, .inl rfl⟩, by omega, by omega, by omega⟩
      · have h1 := hI.lt i hi
        exact ⟨⟨by omega, hI6.kinds i hi⟩, by omega, by omega, by omega⟩
    have hcs : ∀ k : Nat, ∀ q ∈ ([(N, 3, .int .i64 a3), (N + 1, 4, .bool false), (b10, 26, .slice ao2 ts.length cp2)] : List Bx) ++ (fun k : Nat => ([(b15, 3, .int .i64 k)] : List Bx)) k, q.1 < W1.heap.size := fun k q hq => by
      simp only [List.cons_append, List.nil_append, List.mem_cons, List.not_mem_nil, or_false] at hq
      rcases hq with rfl | rfl | rfl | rfl <;> (dsimp only; omega)
    have habd := TI.abd (w := w) (B := W1.heap.size) (cs := ([(N, 3, .int .i64 a3), (N + 1, 4, .bool false), (b10, 26, .slice ao2 ts.length cp2)] : List Bx)) (var := (fun k : Nat => ([(b15, 3, .int .i64 k)] : List Bx))) (b14 := b14) (tv := .slice ao2 ts.length cp2) (ts := ts) hcs (by omega) (fun g hg => by have := tvn g hg; omega) (by omega) (W0 := W1) (fs := bx :: p.foot b) (fun i hi => (hfs1 i hi).1)
    refine wpIn_mono (Q := fun e a2 W2 => (e = .normal ∨ e = .exit 0) ∧ ∃ D nb k, a2 = { tmps := #[.int .i64 ln, .slice ao ps.length cp, .int .i64 at_, .int .i64 a3, undef, undef, undef, .pointer (some ⟨N, 0, none⟩), .pointer (some ⟨N + 1, 0, none⟩), .pointer (some ⟨b, 0, none⟩), .pointer (some ⟨b10, 0, none⟩), .int .u64 cc, .int .u64 rc, .func (.func 26) #[] #[.pointer (some ⟨bx, 0, none⟩)], .pointer (some ⟨b14, 0, none⟩), .pointer (some ⟨b15, 0, none⟩), undef, undef, undef, undef, .int .i64 ln, .slice ao ps.length cp, .int .i64 at_, .pointer (some ⟨b, 0, none⟩), .pointer (some ⟨b, 0, none⟩), .bool false, undef, .pointer (some ⟨b, 0, none⟩), .slice ao2 ts.length cp2, .pointer (some ⟨b, 0, none⟩), .int .u64 cc, .slice ao2 ts.length cp2, .int .u64 rc, u33, u34, u35, u36, u37, u38, u39, u40, u41, u42, u43, u44, u45, u46, .bool false, .pointer (some ⟨b, 0, none⟩), .func (.func 26) #[] #[.pointer (some ⟨bx, 0, none⟩)], .func (.func 26) #[] #[.pointer (some ⟨bx, 0, none⟩)], .bool false, .slice ao2 ts.length cp2, .int .i64 ts.length, .slice (some ⟨v0, 0, none⟩) ts.length ts.length, .func (.func 26) #[] #[.pointer (some ⟨bx, 0, none⟩)], u56, u57, u58, u59, u60, u61, u62, u63, u64, u65, u66, u67, u68, u69, u70, u71, u72, u73, u74, u75, u76, u77, u78, u79, u80, u81, u82, u83, u84, u85, u86, u87, u88, u89, u90, u91, u92, u93, u94, u95, u96, u97, u98, u99, u100, u101, u102, u103, u104, u105, u106, u107, u108, u109, u110, u111, u112, u113, u114, u115, u116, u117, u118, u119], defers := [{ target := .collected D, args := #[] }] } ∧ TI w W1.heap.size ([(N, 3, .int .i64 a3), (N + 1, 4, .bool false), (b10, 26, .slice ao2 ts.length cp2)] : List Bx) (fun k : Nat => ([(b15, 3, .int .i64 k)] : List Bx)) b14 (.slice ao2 ts.length cp2) ts W1 (bx :: p.foot b) nb k W2 ∧ W2.heap[D]? = some (.deferred (some [])) ∧ W1.heap.size ≤ D) ?range ?after
    case range =>
      refine wpIn_range_n (α := Value) rfl h1 (gf := 26) (lb := #[.pointer (some ⟨bx, 0, none⟩)]) rfl trivial (enters_of Try.func26 (by kernel_rfl) rfl)
        (encs := fun x : Value => #[x]) (Kp := tearKp) (Px := tearPx ts) (S := fun xs => xs.length = prodT ts) (Sp := fun _ => True) (N := prodT ts)
        (by rw [hts]; exact tears1_seq (n - 1) (by omega) bx cbx' hI6 hG.wf hn40 hp40)
        (fun x X Y Z h1 h2 => KpX.trans h1 h2) (fun x W l o o' hl ho hcells hwalk => KpX.putObj ho hcells) (fun _ => rfl)
        (fun nb pre W => pre.length < 3000 ∧ TI w W1.heap.size ([(N, 3, .int .i64 a3), (N + 1, 4, .bool false), (b10, 26, .slice ao2 ts.length cp2)] : List Bx) (fun k : Nat => ([(b15, 3, .int .i64 k)] : List Bx)) b14 (.slice ao2 ts.length cp2) ts W1 (bx :: p.foot b) nb pre.length W) (fun c nb pre W => c = .exit 0 ∧ TI w W1.heap.size ([(N, 3, .int .i64 a3), (N + 1, 4, .bool false), (b10, 26, .slice ao2 ts.length cp2)] : List Bx) (fun k : Nat => ([(b15, 3, .int .i64 k)] : List Bx)) b14 (.slice ao2 ts.length cp2) ts W1 (bx :: p.foot b) nb pre.length W) (fun nb s W W' row hn h hg hr => ⟨h.1, habd nb s W W' row hn h.2 hg hr⟩)
        (fun c nb s W W' row hn h hg hr => ⟨h.1, habd nb s W W' row hn h.2 hg hr⟩) (fun nb hnb => ⟨by decide, hTI nb hnb⟩)
        (fun nb pre x a' W => a' = { tmps := #[.int .i64 ln, .slice ao ps.length cp, .int .i64 at_, .int .i64 a3, undef, undef, undef, .pointer (some ⟨N, 0, none⟩), .pointer (some ⟨N + 1, 0, none⟩), .pointer (some ⟨b, 0, none⟩), .pointer (some ⟨b10, 0, none⟩), .int .u64 cc, .int .u64 rc, .func (.func 26) #[] #[.pointer (some ⟨bx, 0, none⟩)], .pointer (some ⟨b14, 0, none⟩), .pointer (some ⟨b15, 0, none⟩), x, undef, undef, undef, .int .i64 ln, .slice ao ps.length cp, .int .i64 at_, .pointer (some ⟨b, 0, none⟩), .pointer (some ⟨b, 0, none⟩), .bool false, undef, .pointer (some ⟨b, 0, none⟩), .slice ao2 ts.length cp2, .pointer (some ⟨b, 0, none⟩), .int .u64 cc, .slice ao2 ts.length cp2, .int .u64 rc, u33, u34, u35, u36, u37, u38, u39, u40, u41, u42, u43, u44, u45, u46, .bool false, .pointer (some ⟨b, 0, none⟩), .func (.func 26) #[] #[.pointer (some ⟨bx, 0, none⟩)], .func (.func 26) #[] #[.pointer (some ⟨bx, 0, none⟩)], .bool false, .slice ao2 ts.length cp2, .int .i64 ts.length, .slice (some ⟨v0, 0, none⟩) ts.length ts.length, .func (.func 26) #[] #[.pointer (some ⟨bx, 0, none⟩)], x, u57, u58, u59, u60, u61, u62, u63, u64, u65, u66, u67, u68, u69, u70, u71, u72, u73, u74, u75, u76, u77, u78, u79, u80, u81, u82, u83, u84, u85, u86, u87, u88, u89, u90, u91, u92, u93, u94, u95, u96, u97, u98, u99, u100, u101, u102, u103, u104, u105, u106, u107, u108, u109, u110, u111, u112, u113, u114, u115, u116, u117, u118, u119], defers := [] } ∧ (pre.length < 3000 ∧ TI w W1.heap.size ([(N, 3, .int .i64 a3), (N + 1, 4, .bool false), (b10, 26, .slice ao2 ts.length cp2)] : List Bx) (fun k : Nat => ([(b15, 3, .int .i64 k)] : List Bx)) b14 (.slice ao2 ts.length cp2) ts W1 (bx :: p.foot b) nb pre.length W) ∧ NbOk (W1.heap.size + 2) nb ∧ tearPx ts (W1.heap.size + 2) nb pre x W)
        ?ax ?assign ?body ?done ?stop
      case ax =>
        rintro nb pre x a' W l o o' ⟨h1, h2, h3, h4⟩ hl ho hcells hwalk
        exact ⟨h1, ⟨h2.1, habd.putObj _ h3 h2.2 hl ho hcells hwalk⟩, h3, h4.putObj ho hcells⟩
      case assign =>
        intro l nb pre x W K hnb hnl hi hpx hlen hK
        have HP := Lib.hid (And.intro hi hpx)
        clear hi hpx hTI hI6 cbx' tvn hsW kW htb hts htl habd hcs hN hb10 hbx hb14 hb15 hv0 hW1 hs0 hs6
        dsimp only
        gi_wp2
        exact hK _ _ (KeepsRec.refl _ _) (KpX.refl _ _ _) ⟨rfl, HP.out.1, hnb, HP.out.2⟩
      case body =>
        rintro l nb pre x a' W hnb hnl ⟨rfl, ⟨hk3000, hti⟩, _, hpx⟩ hlt2 hl
        obtain ⟨v14, h14, hr14, hv14⟩ := hti.now
        have e7 : Boxed W N 3 (.int .i64 a3) := hti.boxes (N, 3, .int .i64 a3) (by simp)
        have e10 : Boxed W b10 26 (.slice ao2 ts.length cp2) := hti.boxes (b10, 26, .slice ao2 ts.length cp2) (by simp)
        have e15 : Boxed W b15 3 (.int .i64 pre.length) := hti.boxes (b15, 3, .int .i64 pre.length) (by simp)
        obtain ⟨ao14, cp14, rfl⟩ := reads_shape hr14.reads
        obtain ⟨hlt, hrx, xb, xo, xc, rfl, hxB, hxn⟩ := hpx
        have hT := (nth_ok ts pre.length hlt).1
        have hnx := nth_more ts pre.length hlt
        have HSm := Lib.hid (same_tears hT.length hrx.reads hr14.reads (by omega))
        have htl3 : ts.length ≤ 1000 := by omega
        have htop := hti.top
        have HNx : Hid (∀ wx, Keeps [] W wx → Calls Try.prog 12 #[.slice ao2 ts.length cp2, .slice ao14 ts.length cp14] wx fun e w' => ∃ v', e = .returned (.tuple #[v', .bool (nextT ts (nth ts pre.length)).2]) ∧ RowAt w' 3 1 v' ts.length ((nextT ts (nth ts pre.length)).1.map nv) ∧ Keeps [] wx w' ∧ ∀ g, v'.ownBlock = some g → wx.heap.size ≤ g) :=
          Lib.hid fun wx hk => refNext_any (htop.reads.keeps hk (by simp)) (hr14.reads.keeps hk (by simp)) hT (by omega) htb
        have hne14 : b14 ≠ b15 ∧ b14 ≠ b10 ∧ b14 ≠ N ∧ b15 ≠ N ∧ b15 ≠ b10 ∧ xb ≠ b14 ∧ xb ≠ b15 ∧ xb ≠ b10 ∧ xb ≠ N := by omega
        have hkb : pre.length ≤ 3000 ∨ True := .inr trivial
        have hprod : prodT ts ≤ 1000000000000 ∨ True := .inr trivial
        have d7 := e7.cell
        have d10 := e10.cell
        have d14 := h14.cell
        have d15 := e15.cell
        have HX := Lib.hid (And.intro hti (And.intro h14 (And.intro e7 (And.intro e10 (And.intro e15 (And.intro hrx (And.intro hxB (And.intro hne14 hnl))))))))
        have HY := Lib.hid (And.intro hTI (And.intro htb (And.intro tvn (And.intro hcs (And.intro hN (And.intro hb10 (And.intro hb14 (And.intro hb15 (And.intro hsW (And.intro hs0 (And.intro hs6 hfs1)))))))))))
        obtain ⟨L, hL⟩ : ∃ L, L = ts.length := ⟨_, rfl⟩
        clear hti h14 hr14 hv14 e7 e10 e15 hrx hxB hxn hT hnx htop hne14 hTI hI6 cbx' tvn hsW kW htb hts htl habd hcs hN hb10 hbx hb14 hb15 hv0 hW1 hs0 hs6 hlt hlt2 hnb hnl hL
        gi_wp2
        refine ⟨trivial, fun _ => by omega, (CallsIn.inRound (W1.heap.size + 1) (callsIn_wide.2 HSm.out)).mono ?_⟩
        rintro e w2' ⟨rfl, hk2'⟩
        have f10 : w2'.cell? ⟨b10, 0, none⟩ = some (.slice ao2 ts.length cp2) := by rw [World.cell?_of_block (hk2'.block b10 HX.out.2.2.2.1.lt (by simp))]; exact d10
        have f14 : w2'.cell? ⟨b14, 0, none⟩ = some (.slice ao14 ts.length cp14) := by rw [World.cell?_of_block (hk2'.block b14 HX.out.2.1.lt (by simp))]; exact d14
        have HN2 := Lib.hid (HNx.out _ hk2')
        have H2' := Lib.hid hk2'; clear hk2'
        gi_wp2
        refine ⟨trivial, fun _ => by omega, (CallsIn.inRound (W1.heap.size + 1) (callsIn_wide.2 HN2.out)).mono ?_⟩
        rintro e w3' ⟨v', rfl, hr3', hk3', hg3'⟩
        have hk23 : Keeps [] W w3' := H2'.out.trans hk3' (by simp)
        have b14' : Boxed w3' b14 26 (.slice ao14 ts.length cp14) := (hk23.block b14 HX.out.2.1.lt (by simp)).trans HX.out.2.1
        have g14 := b14'.cell
        have f14' := b14'.frozen
        obtain ⟨ao', cp', rfl⟩ := reads_shape hr3'.reads
        have H3' := Lib.hid (And.intro hr3' (And.intro hk23 (And.intro b14' (fun g hg => Nat.le_trans H2'.out.size (hg3' g hg))))); clear hr3' hk3' hg3' hk23 b14'
        gi_wp2
        obtain ⟨w4', hw4'⟩ : ∃ w4', w4' = w3'.setCell ⟨b14, 0, none⟩ (.slice ao' ts.length cp') := ⟨_, rfl⟩
        rw [← hw4']
        obtain ⟨_, _, i7, i10, i15, hrx, hxB, hne14, _⟩ := HX.out
        have hk23 := H3'.out.2.1
        have old4 : ∀ i, i < W.heap.size → i ≠ b14 → w4'.heap[i]? = W.heap[i]? := fun i hi hne => by rw [hw4']; exact (set_other (Ne.symm hne)).trans (hk23.block i hi (by simp))
        have hx4 : RowAt w4' 3 1 (.slice (some ⟨xb, xo, none⟩) ts.length xc) ts.length (((nth ts pre.length).map fun x : Nat => (x : Int)).map (Value.int .i64)) := by
          rw [← map_nv]
          exact hrx.same fun g hg => by cases hg; exact old4 xb (hrx.lt rfl) hne14.2.2.2.2.2.1
        have j7 : Boxed w4' N 3 (.int .i64 a3) := (old4 N i7.lt (Ne.symm hne14.2.2.1)).trans i7
        have j15 : Boxed w4' b15 3 (.int .i64 pre.length) := (old4 b15 i15.lt (Ne.symm hne14.1)).trans i15
        have j14 : Boxed w4' b14 26 (.slice ao' ts.length cp') := by rw [hw4']; exact H3'.out.2.2.1.set _
        have H4' := Lib.hid (And.intro hw4' (And.intro old4 (And.intro j7 (And.intro j15 j14))))
        have hx15 : xb ≠ b15 := hne14.2.2.2.2.2.2.1
        have hxN : xb ≠ N := hne14.2.2.2.2.2.2.2.2
        have hx14 : xb ≠ b14 := hne14.2.2.2.2.2.1
        have h1415 : b14 ≠ b15 := hne14.1
        have h15N : b15 ≠ N := hne14.2.2.2.1
        clear hw4' i7 i10 i15 hrx hxB hne14 hk23 old4 j7 j15 j14 d7 d10 d14 d15 f10 f14 g14 f14'
        gi_loopw [17] (fun s17 wq => ∃ (i : Nat) (zs : List Int), i ≤ ts.length ∧ s17 = .int .i64 i ∧ RowAt wq 3 1 (.slice (some ⟨xb, xo, none⟩) ts.length xc) ts.length (zs.map (Value.int .i64)) ∧ Keeps [xb] w4' wq) (fun s17 _ => ts.length - (RowKit.intOf s17).toNat)
        case atStart => exact ⟨0, _, Nat.zero_le _, rfl, hx4, Keeps.refl _ _⟩
        case round =>
          obtain ⟨i, zs, hi, rfl, hrz, hkz⟩ := hrel
          by_cases hlt3 : i < ts.length
          · have hzl : zs.length = ts.length := by have := hrz.1; simpa using this
            obtain ⟨z, hz⟩ : ∃ z, zs[i]? = some z := ⟨_, List.getElem?_eq_getElem (by omega)⟩
            have cz : wr.cell? ⟨xb, xo + i, none⟩ = some (.int .i64 z) := hrz.cell (j := i) (by simp [hz])
            have fz : wr.frozen? ⟨xb, xo + i, none⟩ = false := hrz.free _
            have hiI : (i : Int) < (ts.length : Int) := by omega
            have HZ := Lib.hid (And.intro hrz (And.intro hkz hzl)); clear hrz hkz hzl hz hx4
            gi_wp2
            go_roundw
            case rel =>
              obtain ⟨hrz, hkz, hzl⟩ := HZ.out
              refine ⟨i + 1, zs.set i (-1), by omega, by go_num, ?_, hkz.trans (Keeps.setCell wr xb (xo + i) _) (fun q hq => .inl hq)⟩
              have := hrz.set i (by simp; omega) (.int .i64 (-1))
              rw [← List.map_set] at this
              exact this
            case measure => simp [RowKit.intOf]; omega
          · obtain rfl : i = ts.length := by omega
            have hs4 : ∀ q, q ≠ xb → q < w4'.heap.size → wr.heap[q]? = w4'.heap[q]? := fun q hq hl2 => hkz.block q hl2 (by simpa using hq)
            have m15 : Boxed wr b15 3 (.int .i64 pre.length) := (hs4 b15 (Ne.symm hx15) H4'.out.2.2.2.1.lt).trans H4'.out.2.2.2.1
            have m7 : Boxed wr N 3 (.int .i64 a3) := (hs4 N (Ne.symm hxN) H4'.out.2.2.1.lt).trans H4'.out.2.2.1
            have c15 := m15.cell
            have f15 := m15.frozen
            have c7 := m7.cell
            have c7' : (wr.setCell ⟨b15, 0, none⟩ (.int .i64 ((pre.length : Int) + 1))).cell? ⟨N, 0, none⟩ = some (.int .i64 a3) := by rw [cell_set_ne h15N]; exact c7
            have e9 : IntKind.i64.wrap ((pre.length : Int) + 1) = (pre.length : Int) + 1 := IntWalk.i64_in _ (by omega)
            have HZ := Lib.hid (And.intro hkz (And.intro hs4 (And.intro m15 m7)))
            clear hkz hs4 m15 m7 hrz hx4
            obtain ⟨wF, hwF⟩ : ∃ wF, wF = wr.setCell ⟨b15, 0, none⟩ (.int .i64 ((pre.length : Int) + 1)) := ⟨_, rfl⟩
            have hend : KeepsRec W1.heap.size W wF ∧ tearKp (W1.heap.size + 2) (.slice (some ⟨xb, xo, none⟩) ts.length xc) W wF ∧ TI w W1.heap.size ([(N, 3, .int .i64 a3), (N + 1, 4, .bool false), (b10, 26, .slice ao2 ts.length cp2)] : List Bx) (fun k : Nat => ([(b15, 3, .int .i64 k)] : List Bx)) b14 (.slice ao2 ts.length cp2) ts W1 (bx :: p.foot b) nb (pre ++ [Value.slice (some ⟨xb, xo, none⟩) ts.length xc]).length wF := by
              obtain ⟨hti, h14, i7, i10, i15, hrx, hxB, hne14, hnl⟩ := HX.out
              obtain ⟨_, _, tvn, hcs, hN, hb10, hb14, hb15, hsW, hs0, hs6, hfs1⟩ := HY.out
              obtain ⟨hr3', hk23, b14', hg3'⟩ := H3'.out
              obtain ⟨hw4', old4, j7, j15, j14⟩ := H4'.out
              obtain ⟨hkz, hs4, m15, m7⟩ := HZ.out
              have s1 := hti.size
              have s2 := hk23.size
              have s3 : w4'.heap.size = w3'.heap.size := by rw [hw4']; simp [World.setCell]
              have s4 := hkz.size
              have hxW := hrx.lt (g := xb) rfl
              rw [List.length_append, List.length_singleton]
              have newk : ∀ q, W.heap.size ≤ q → q < w3'.heap.size → wF.heap[q]? = w3'.heap[q]? := fun q h1 h2 => by
                rw [hwF, set_other (by omega), hs4 q (by omega) (by omega), hw4', set_other (by omega)]
              refine TI.next (x := .slice (some ⟨xb, xo, none⟩) ts.length xc) (xb := xb) (v' := .slice ao' ts.length cp') hti hcs (by omega) (by omega) (fun q hq => ?_) (fun g hg => ?_) hrx rfl (by omega) (fun q hq => ?_) rfl ⟨?_, fun i hi hni => ?_, ?_, ?_, ?_⟩ (fun q hq => ?_) ?_ ?_ hg3' hnl (fun i hi => ⟨(hfs1 i hi).1.1, fun h => by simp at h; have := hfs1 i hi; omega⟩)
              · simp only [List.mem_singleton] at hq; subst hq; dsimp only; omega
              · have := tvn g hg
                refine ⟨fun hi => ?_, by omega⟩
                simp at hi; omega
              · simp only [List.mem_cons, List.not_mem_nil, or_false] at hq
                intro hi
                rcases hq with rfl | rfl | rfl <;> (simp at hi; omega)
              · rw [hwF]; simp [World.setCell]; omega
              · simp only [List.map_cons, List.map_nil, List.mem_cons, List.not_mem_nil, or_false, not_or] at hni
                obtain ⟨n1, n2, n3⟩ := hni
                rw [hwF, set_other (Ne.symm n3), hs4 i n2 (by omega)]
                exact old4 i hi n1
              · rw [hwF]; show wr.os = W.os; rw [hkz.os, hw4']; show w3'.os = W.os; exact hk23.os
              · rw [hwF]; show wr.tape = W.tape; rw [hkz.tape, hw4']; show w3'.tape = W.tape; exact hk23.tape
              · rw [hwF]; show wr.output = W.output; rw [hkz.output, hw4']; show w3'.output = W.output; exact hk23.output
              · simp only [List.mem_singleton] at hq; subst hq
                rw [hwF]
                exact m15.set _
              · rw [hwF]
                exact (set_other (Ne.symm h1415)).trans ((hs4 b14 (Ne.symm hx14) j14.lt).trans j14)
              · exact hr3'.same fun g hg => newk g (hg3' g hg) (hr3'.lt hg)
            have HE := Lib.hid hend; clear hend
            have hwF' : wr.setCell ⟨b15, 0, none⟩ (.int .i64 ((pre.length : Int) + 1)) = wF := hwF.symm
            clear hwF HZ H4' H3'
            have c15F : wF.cell? ⟨b15, 0, none⟩ = some (.int .i64 ((pre.length : Int) + 1)) := by
              have := HE.out.2.2.boxes (b15, 3, .int .i64 ((pre ++ [Value.slice (some ⟨xb, xo, none⟩) ts.length xc]).length : Nat)) (by simp)
              have := this.cell
              rwa [List.length_append, List.length_singleton] at this
            have c7F : wF.cell? ⟨N, 0, none⟩ = some (.int .i64 a3) := (HE.out.2.2.boxes (N, 3, .int .i64 a3) (by simp)).cell
            clear c7'
            by_cases hbr : a3 < (pre.length : Int) + 1
            · gi_wp2
              exact ⟨HE.out.1, rfl, HE.out.2.2⟩
            · have hbr' : (pre.length : Int) + 1 ≤ a3 := by omega
              clear hbr
              by_cases hb3 : (3000 : Int) ≤ (pre.length : Int) + 1
              · gi_wp2
                exact ⟨HE.out.1, rfl, HE.out.2.2⟩
              · have hb3' : (pre.length : Int) + 1 < 3000 := by omega
                clear hb3
                gi_wp2
                exact ⟨HE.out.1, HE.out.2.1, by rw [List.length_append, List.length_singleton]; omega, HE.out.2.2⟩
      case done =>
        rintro D nb ys W hD hys ⟨_, hti⟩ hK
        exact ⟨.inl rfl, D, nb, _, rfl, hti, hK, hD⟩
      case stop =>
        rintro D nb c pre W hD _ ⟨rfl, hti⟩ hK
        exact wpIn_exit ⟨.inr rfl, D, nb, _, rfl, hti, hK, hD⟩
    case after =>
      rintro e a2 W2 ⟨he, D, nb, k, rfl, hti, hD, hDl⟩
      refine inBlock_either he ?_
      dsimp only
      have e8 : Boxed W2 (N + 1) 4 (.bool false) := hti.boxes (N + 1, 4, .bool false) (by simp)
      have e10 : Boxed W2 b10 26 (.slice ao2 ts.length cp2) := hti.boxes (b10, 26, .slice ao2 ts.length cp2) (by simp)
      have e15 : Boxed W2 b15 3 (.int .i64 k) := hti.boxes (b15, 3, .int .i64 k) (by simp)
      obtain ⟨v14, h14, hr14, hv14⟩ := hti.now
      obtain ⟨ao14, cp14, rfl⟩ := reads_shape hr14.reads
      have htop := hti.top
      have hkp := hti.keeps
      have hsz := hti.size
      have htl3 : ts.length ≤ 1000 := by omega
      have hI2 : IsMem W2 b p M ∨ True := .inr trivial
      have HX := Lib.hid (And.intro hti (And.intro e8 (And.intro e10 (And.intro e15 (And.intro h14 (And.intro htop (And.intro hkp (And.intro hsz (And.intro hD hDl)))))))))
      have HY := Lib.hid (And.intro hts (And.intro htb (And.intro tvn (And.intro hcs (And.intro hN (And.intro hb10 (And.intro hb14 (And.intro hb15 (And.intro hsW (And.intro hs0 (And.intro hs6 (And.intro hbx (And.intro hv0 (And.intro hv7 hfs1))))))))))))))
      have HM2 := Lib.hid (And.intro hI6 (And.intro cbx' (And.intro hG (And.intro hn40 (And.intro hp40 kW)))))
      clear hti e8 e10 e15 h14 hr14 hv14 htop hkp hsz hI2 hD hDl hTI hI6 cbx' tvn hsW kW htb hts htl habd hcs hN hb10 hbx hb14 hb15 hv0 hW1 hs0 hs6 hv7
      by_cases hcc3 : 3000 < cc
      · have hccI : (3000 : Int) < (cc : Int) := by omega
        gi_wp2
        refine ⟨trivial, (callsIn_wide.2 (HKn.out _)).mono ?_⟩
        rintro e W3 ⟨rfl, hk3x⟩
        have c8x : Boxed W3 (N + 1) 4 (.bool false) := (hk3x.2.2 _ HX.out.2.1.lt).trans HX.out.2.1
        have d8 := c8x.cell
        have f8 := c8x.frozen
        have hD3 : W3.heap[D]? = some (.deferred (some [])) := (hk3x.2.2 D (lt_of HX.out.2.2.2.2.2.2.2.2.1)).trans HX.out.2.2.2.2.2.2.2.2.1
        have H3x := Lib.hid (And.intro hk3x (And.intro c8x hD3)); clear hk3x c8x hD3
        gi_wp2
        obtain ⟨hk3x, c8x, hD3⟩ := H3x.out
        have hDn : D ≠ N + 1 := fun e => by rw [e, c8x] at hD3; cases hD3
        have hD4 : (W3.setCell ⟨N + 1, 0, none⟩ (.bool true)).heap[D]? = some (.deferred (some [])) := (set_other (Ne.symm hDn)).trans hD3
        refine ⟨by simp, .inl ⟨_, _, rfl, run_takeDeferred hD4, ?_⟩⟩
        have hcell : ((W3.setCell ⟨N + 1, 0, none⟩ (.bool true)).putObj D (.deferred none)).cell? ⟨N + 1, 0, none⟩ = some (.bool true) := (show Boxed _ (N + 1) 4 (.bool true) from (World.putObj_heap_other (Ne.symm hDn)).trans (c8x.set (.bool true))).cell
        refine ⟨.bool true, ?_, rfl, ?_⟩
        · simp [results, Try.results3, go_sem, hcell]
        · have hkk : KB w W3 := (KB.of_keeps HX.out.2.2.2.2.2.2.1).trans hk3x
          have hDl := HX.out.2.2.2.2.2.2.2.2.2
          have hN := HY.out.2.2.2.2.1
          have hkw := HM2.out.2.2.2.2.2.size
          exact ⟨hkk.1, hkk.2.1, fun i hi => (World.putObj_heap_other (by omega)).trans ((set_other (by omega)).trans (hkk.2.2 i hi))⟩
      · have hccI : (cc : Int) ≤ 3000 := by omega
        have d10 := HX.out.2.2.1.cell
        have d14 := HX.out.2.2.2.2.1.cell
        have k14 := HX.out.2.2.2.2.1.frozen
        clear hcc3
        have hs2 := HX.out.2.2.2.2.2.2.2.1
        gi_upto_region 27 with fail
        refine wpIn_wide_normal ?_
        go_wp2_with (at_make; refine wpList_make_full _ rfl _ _ 26 rfl W2.heap.size 3 i0 (.int .i64 0) 1 Try.underlying26 hi0 hz0 hz1 .i64 .i64 (ts.length : Int) (ts.length : Int) ts.length rfl rfl rfl rfl (by rw [hz2]; omega) (by unfold maxLen; omega) (Nat.le_refl _) ?_; intro W7 hown7 hgr7; have x14 : Boxed W7 b14 26 (.slice ao14 ts.length cp14) := ((Keeps.grown hgr7).block b14 HX.out.2.2.2.2.1.lt (by simp)).trans HX.out.2.2.2.2.1; have y14 := x14.cell; have z14 := x14.frozen)
        simp only [onlyNormal]
        have k27 : Keeps [] W2 W7 := Keeps.grown hgr7
        have x15 : Boxed W7 b15 3 (.int .i64 k) := (k27.block b15 HX.out.2.2.2.1.lt (by simp)).trans HX.out.2.2.2.1
        have h1415 : b14 ≠ b15 := by have := HY.out; omega
        have y15 : (W7.setCell ⟨b14, 0, none⟩ (.slice (some ⟨W2.heap.size, 0, none⟩) ts.length ts.length)).cell? ⟨b15, 0, none⟩ = some (.int .i64 k) := by rw [cell_set_ne h1415]; exact x15.cell
        have z15 : (W7.setCell ⟨b14, 0, none⟩ (.slice (some ⟨W2.heap.size, 0, none⟩) ts.length ts.length)).frozen? ⟨b15, 0, none⟩ = false := free_of (show Boxed _ b15 3 _ from (set_other h1415).trans x15)
        have HR7 := Lib.hid (And.intro hown7 (And.intro x14 (And.intro x15 k27))); clear hown7 hgr7 x14 x15 k27 d10 d14 k14 y14 z14 hs2
        gi_wp2
        obtain ⟨b18, hb18⟩ : ∃ b18, b18 = W7.heap.size := ⟨_, rfl⟩
        obtain ⟨v2b, hv2b⟩ : ∃ v2b, v2b = W2.heap.size := ⟨_, rfl⟩
        obtain ⟨W8, hW8⟩ : ∃ W8, W8 = (((W7.setCell ⟨b14, 0, none⟩ (.slice (some ⟨W2.heap.size, 0, none⟩) ts.length ts.length)).setCell ⟨b15, 0, none⟩ (.int .i64 0)).alloc (.cells #[.bool true] 4)) := ⟨_, rfl⟩
        have hszs : ((W7.setCell ⟨b14, 0, none⟩ (.slice (some ⟨W2.heap.size, 0, none⟩) ts.length ts.length)).setCell ⟨b15, 0, none⟩ (.int .i64 0)).heap.size = W7.heap.size := by simp [World.setCell]
        rw [← hW8, ← hb18, ← hv2b]
        obtain ⟨hti, e8, e10, e15, h14, htop, hkp, hsz, hD, hDl⟩ := HX.out
        obtain ⟨hts, htb, tvn, hcs, hN, hb10, hb14, hb15, hsW, hs0, hs6, hbx, hv0, hv7, hfs1⟩ := HY.out
        obtain ⟨hI6, cbx', hG, hn40, hp40, kW⟩ := HM2.out
        obtain ⟨hown7, x14, x15, k27⟩ := HR7.out
        have s27 := k27.size
        have s8 : W8.heap.size = W7.heap.size + 1 := by rw [hW8, World.size_alloc, hszs]
        have hv7b : v2b < W7.heap.size := by rw [hv2b]; exact (RowAt.of_own hown7).lt rfl
        have old8 : ∀ q, q < W7.heap.size → q ≠ b14 → q ≠ b15 → W8.heap[q]? = W7.heap[q]? := fun q h1 h2 h3 => by
          rw [hW8, (MapKept.heap_alloc _ _).2 q (by rw [hszs]; exact h1), set_other (Ne.symm h3), set_other (Ne.symm h2)]
        have old82 : ∀ q, q < W2.heap.size → q ≠ b14 → q ≠ b15 → W8.heap[q]? = W2.heap[q]? := fun q h1 h2 h3 => (old8 q (by omega) h2 h3).trans (k27.block q h1 (by simp))
        have c14 : Boxed W8 b14 26 (.slice (some ⟨v2b, 0, none⟩) ts.length ts.length) := by
          rw [hW8, hv2b]
          exact ((set_other (Ne.symm h1415)).trans (x14.set _)).trans rfl |> fun h => ((MapKept.heap_alloc _ _).2 b14 (by rw [hszs]; exact x14.lt)).trans h
        have c15 : Boxed W8 b15 3 (.int .i64 0) := by
          rw [hW8]
          have x15' : Boxed (W7.setCell ⟨b14, 0, none⟩ (.slice (some ⟨W2.heap.size, 0, none⟩) ts.length ts.length)) b15 3 (.int .i64 k) := (set_other h1415).trans x15
          exact ((MapKept.heap_alloc _ _).2 b15 (by rw [hszs]; exact x15.lt)).trans (x15'.set _)
        have c18 : Boxed W8 b18 4 (.bool true) := by
          rw [hW8, hb18, ← hszs]; exact Boxed.new _ 4 _
        have hrn8 : RowAt W8 3 1 (.slice (some ⟨v2b, 0, none⟩) ts.length ts.length) ts.length ((nth ts 0).map nv) := by
          have h := RowAt.of_own hown7
          rw [makeInts, ← hv2b] at h
          exact h.same fun g hg => by
            obtain rfl : v2b = g := by simpa [Value.ownBlock] using hg
            exact old8 v2b hv7b (by omega) (by omega)
        have hTI2 : ∀ nb, NbOk (W8.heap.size + 2) nb → TI w W8.heap.size ([(N, 3, .int .i64 a3), (N + 1, 4, .bool false), (b10, 26, .slice ao2 ts.length cp2)] : List Bx) (fun k : Nat => ([(b15, 3, .int .i64 k), (b18, 4, .bool (decide (k < prodT ts)))] : List Bx)) b14 (.slice ao2 ts.length cp2) ts W1 (bx :: p.foot b) nb 0 W8 := fun nb hnb => by
          refine ⟨fun q hq => ?_, ⟨_, c14, hrn8, fun g hg => ⟨fun e => ?_, ?_, ?_⟩⟩, htop.same fun g hg => old82 g (htop.lt hg) (by have := tvn g hg; omega) (by have := tvn g hg; omega), ?_, Nat.le_refl _, fun i hi => ?_⟩
          · simp only [List.cons_append, List.nil_append, List.mem_cons, List.not_mem_nil, or_false] at hq
            rcases hq with rfl | rfl | rfl | rfl | rfl
            · exact (old82 N (by omega) (by omega) (by omega)).trans (hti.boxes (N, 3, .int .i64 a3) (by simp))
            · exact (old82 (N + 1) (by omega) (by omega) (by omega)).trans e8
            · exact (old82 b10 (by omega) (by omega) (by omega)).trans e10
            · exact c15
            · dsimp only; rw [decide_eq_true (prodT_pos ts)]; exact c18
          · obtain rfl : v2b = g := by simpa [Value.ownBlock] using hg
            have := hnb _ e; omega
          · obtain rfl : v2b = g := by simpa [Value.ownBlock] using hg
            intro hi
            simp at hi
            omega
          · obtain rfl : v2b = g := by simpa [Value.ownBlock] using hg
            omega
          · refine ⟨by omega, fun i hi _ => (old82 i (by omega) (by omega) (by omega)).trans (hkp.block i hi (by simp)), ?_, ?_, ?_⟩
            · rw [hW8]; show W7.os = w.os; rw [k27.os, hkp.os]
            · rw [hW8]; show W7.tape = w.tape; rw [k27.tape, hkp.tape]
            · rw [hW8]; show W7.output = w.output; rw [k27.output, hkp.output]
          · have := hfs1 i hi
            exact (old82 i (by omega) (by omega) (by omega)).trans (hti.olds i hi)
        have hI8 : IsMem W8 b p M := hI6.same fun i hi => (hTI2 none (fun k e => by cases e)).olds i (List.mem_cons_of_mem _ hi)
        have cbx8 : W8.cell? ⟨bx, 0, none⟩ = some (.pointer (some ⟨b, 0, none⟩)) := by
          rw [World.cell?_of_block ((hTI2 none (fun k e => by cases e)).olds bx (List.mem_cons_self ..))]; exact cbx'
        have hcs2 : ∀ k : Nat, ∀ q ∈ ([(N, 3, .int .i64 a3), (N + 1, 4, .bool false), (b10, 26, .slice ao2 ts.length cp2)] : List Bx) ++ (fun k : Nat => ([(b15, 3, .int .i64 k), (b18, 4, .bool (decide (k < prodT ts)))] : List Bx)) k, q.1 < W8.heap.size := fun k q hq => by
          simp only [List.cons_append, List.nil_append, List.mem_cons, List.not_mem_nil, or_false] at hq
          rcases hq with rfl | rfl | rfl | rfl | rfl <;> (dsimp only; omega)
        have habd2 := TI.abd (w := w) (B := W8.heap.size) (cs := ([(N, 3, .int .i64 a3), (N + 1, 4, .bool false), (b10, 26, .slice ao2 ts.length cp2)] : List Bx)) (var := (fun k : Nat => ([(b15, 3, .int .i64 k), (b18, 4, .bool (decide (k < prodT ts)))] : List Bx))) (b14 := b14) (tv := .slice ao2 ts.length cp2) (ts := ts) hcs2 (by omega) (fun g hg => by have := tvn g hg; omega) (by omega) (W0 := W1) (fs := bx :: p.foot b) (fun i hi => ⟨by have := hfs1 i hi; omega, (hfs1 i hi).1.2⟩)
        refine wpIn_mono (Q := fun e a2 W3 => e = .normal ∧ ∃ D2 nb, a2 = { tmps := #[.int .i64 ln, .slice ao ps.length cp, .int .i64 at_, .int .i64 a3, undef, undef, undef, .pointer (some ⟨N, 0, none⟩), .pointer (some ⟨N + 1, 0, none⟩), .pointer (some ⟨b, 0, none⟩), .pointer (some ⟨b10, 0, none⟩), .int .u64 cc, .int .u64 rc, .func (.func 26) #[] #[.pointer (some ⟨bx, 0, none⟩)], .pointer (some ⟨b14, 0, none⟩), .pointer (some ⟨b15, 0, none⟩), undef, undef, .pointer (some ⟨b18, 0, none⟩), undef, .int .i64 ln, .slice ao ps.length cp, .int .i64 at_, .pointer (some ⟨b, 0, none⟩), .pointer (some ⟨b, 0, none⟩), .bool false, undef, .pointer (some ⟨b, 0, none⟩), .slice ao2 ts.length cp2, .pointer (some ⟨b, 0, none⟩), .int .u64 cc, .slice ao2 ts.length cp2, .int .u64 rc, u33, u34, u35, u36, u37, u38, u39, u40, u41, u42, u43, u44, u45, u46, .bool false, .pointer (some ⟨b, 0, none⟩), .func (.func 26) #[] #[.pointer (some ⟨bx, 0, none⟩)], .func (.func 26) #[] #[.pointer (some ⟨bx, 0, none⟩)], .bool false, .slice ao2 ts.length cp2, .int .i64 ts.length, .slice (some ⟨v0, 0, none⟩) ts.length ts.length, .func (.func 26) #[] #[.pointer (some ⟨bx, 0, none⟩)], u56, u57, u58, u59, u60, u61, u62, u63, u64, u65, u66, u67, u68, u69, u70, u71, u72, u73, u74, u75, u76, u77, u78, u79, u80, u81, u82, u83, u84, .int .u64 cc, .bool (decide ((3000 : Int) < (cc : Int))), u87, .slice ao2 ts.length cp2, .int .i64 ts.length, .slice (some ⟨v2b, 0, none⟩) ts.length ts.length, .func (.func 26) #[] #[.pointer (some ⟨bx, 0, none⟩)], u92, u93, u94, u95, u96, u97, u98, u99, u100, u101, u102, u103, u104, u105, u106, u107, u108, u109, u110, u111, u112, u113, u114, u115, u116, u117, u118, u119], defers := [{ target := .collected D2, args := #[] }, { target := .collected D, args := #[] }] } ∧ TI w W8.heap.size ([(N, 3, .int .i64 a3), (N + 1, 4, .bool false), (b10, 26, .slice ao2 ts.length cp2)] : List Bx) (fun k : Nat => ([(b15, 3, .int .i64 k), (b18, 4, .bool (decide (k < prodT ts)))] : List Bx)) b14 (.slice ao2 ts.length cp2) ts W1 (bx :: p.foot b) nb (prodT ts) W3 ∧ W3.heap[D2]? = some (.deferred (some [])) ∧ W8.heap.size ≤ D2 ∧ W3.heap[D]? = some (.deferred (some []))) ?range2 ?after2
        case range2 =>
          have hDold : W8.heap[D]? = some (.deferred (some [])) := (old82 D (lt_of hD) (by omega) (by omega)).trans hD
          refine wpIn_range_n (α := Value) rfl h1 (gf := 26) (lb := #[.pointer (some ⟨bx, 0, none⟩)]) rfl trivial (enters_of Try.func26 (by kernel_rfl) rfl)
            (encs := fun x : Value => #[x]) (Kp := tearKp) (Px := tearPx ts) (S := fun xs => xs.length = prodT ts) (Sp := fun _ => True) (N := prodT ts)
            (by rw [hts]; exact tears1_seq (n - 1) (by omega) bx cbx8 hI8 hG.wf hn40 hp40)
            (fun x X Y Z h1 h2 => KpX.trans h1 h2) (fun x W l o o' hl ho hcells hwalk => KpX.putObj ho hcells) (fun _ => rfl)
            (fun nb pre W => W.heap[D]? = some (.deferred (some [])) ∧ TI w W8.heap.size ([(N, 3, .int .i64 a3), (N + 1, 4, .bool false), (b10, 26, .slice ao2 ts.length cp2)] : List Bx) (fun k : Nat => ([(b15, 3, .int .i64 k), (b18, 4, .bool (decide (k < prodT ts)))] : List Bx)) b14 (.slice ao2 ts.length cp2) ts W1 (bx :: p.foot b) nb pre.length W) (fun c nb pre W => False)
            (fun nb s W W' row hn h hg hr => ⟨(hg.block D (lt_of h.1) (fun e => by
              rcases hr D e.symm with ⟨h1, _⟩ | ⟨h1, _⟩
              · have := hn D h1; have := lt_of hDold; omega
              · have := lt_of hDold; omega)).trans h.1, habd2 nb s W W' row hn h.2 hg hr⟩)
            (fun c nb s W W' row hn h hg hr => h.elim) (fun nb hnb => ⟨hDold, hTI2 nb hnb⟩)
            (fun nb pre x a' W => a' = { tmps := #[.int .i64 ln, .slice ao ps.length cp, .int .i64 at_, .int .i64 a3, undef, undef, undef, .pointer (some ⟨N, 0, none⟩), .pointer (some ⟨N + 1, 0, none⟩), .pointer (some ⟨b, 0, none⟩), .pointer (some ⟨b10, 0, none⟩), .int .u64 cc, .int .u64 rc, .func (.func 26) #[] #[.pointer (some ⟨bx, 0, none⟩)], .pointer (some ⟨b14, 0, none⟩), .pointer (some ⟨b15, 0, none⟩), undef, undef, .pointer (some ⟨b18, 0, none⟩), x, .int .i64 ln, .slice ao ps.length cp, .int .i64 at_, .pointer (some ⟨b, 0, none⟩), .pointer (some ⟨b, 0, none⟩), .bool false, undef, .pointer (some ⟨b, 0, none⟩), .slice ao2 ts.length cp2, .pointer (some ⟨b, 0, none⟩), .int .u64 cc, .slice ao2 ts.length cp2, .int .u64 rc, u33, u34, u35, u36, u37, u38, u39, u40, u41, u42, u43, u44, u45, u46, .bool false, .pointer (some ⟨b, 0, none⟩), .func (.func 26) #[] #[.pointer (some ⟨bx, 0, none⟩)], .func (.func 26) #[] #[.pointer (some ⟨bx, 0, none⟩)], .bool false, .slice ao2 ts.length cp2, .int .i64 ts.length, .slice (some ⟨v0, 0, none⟩) ts.length ts.length, .func (.func 26) #[] #[.pointer (some ⟨bx, 0, none⟩)], u56, u57, u58, u59, u60, u61, u62, u63, u64, u65, u66, u67, u68, u69, u70, u71, u72, u73, u74, u75, u76, u77, u78, u79, u80, u81, u82, u83, u84, .int .u64 cc, .bool (decide ((3000 : Int) < (cc : Int))), u87, .slice ao2 ts.length cp2, .int .i64 ts.length, .slice (some ⟨v2b, 0, none⟩) ts.length ts.length, .func (.func 26) #[] #[.pointer (some ⟨bx, 0, none⟩)], x, u93, u94, u95, u96, u97, u98, u99, u100, u101, u102, u103, u104, u105, u106, u107, u108, u109, u110, u111, u112, u113, u114, u115, u116, u117, u118, u119], defers := [] } ∧ (W.heap[D]? = some (.deferred (some [])) ∧ TI w W8.heap.size ([(N, 3, .int .i64 a3), (N + 1, 4, .bool false), (b10, 26, .slice ao2 ts.length cp2)] : List Bx) (fun k : Nat => ([(b15, 3, .int .i64 k), (b18, 4, .bool (decide (k < prodT ts)))] : List Bx)) b14 (.slice ao2 ts.length cp2) ts W1 (bx :: p.foot b) nb pre.length W) ∧ NbOk (W8.heap.size + 2) nb ∧ tearPx ts (W8.heap.size + 2) nb pre x W)
            ?ax ?assign ?body ?done ?stop
          case ax =>
            rintro nb pre x a' W l o o' ⟨h1, h2, h3, h4⟩ hl ho hcells hwalk
            have hDl2 := lt_of hDold
            exact ⟨h1, ⟨(World.putObj_heap_other (by omega)).trans h2.1, habd2.putObj _ h3 h2.2 hl ho hcells hwalk⟩, h3, h4.putObj ho hcells⟩
          case assign =>
            intro l nb pre x W K hnb hnl hi hpx hlen hK
            have HP := Lib.hid (And.intro hi hpx)
            clear hi hpx
            clear hTI2 hI8 cbx8 hDold old8 old82 c14 c15 c18 hrn8 hti e8 e10 e15 h14 htop hkp hsz hD hDl hts htb tvn hcs hN hb10 hb14 hb15 hsW hs0 hs6 hbx hv0 hv7 hfs1 hI6 cbx' hG hn40 hp40 kW hown7 x14 x15 k27 s27 s8 hv7b hb18 hv2b hW8 hszs habd2 hcs2
            dsimp only
            gi_wp2
            exact hK _ _ (KeepsRec.refl _ _) (KpX.refl _ _ _) ⟨rfl, HP.out.1, hnb, HP.out.2⟩
          case body =>
            rintro l nb pre x a' W hnb hnl ⟨rfl, ⟨hDW, hti9⟩, _, hpx⟩ hlt2 hl
            obtain ⟨v15, i14, hr15, hv15⟩ := hti9.now
            obtain ⟨ao15, cp15, rfl⟩ := reads_shape hr15.reads
            obtain ⟨hlt, hrx, xb, xo, xc, rfl, hxB, hxn⟩ := hpx
            have i10 : Boxed W b10 26 (.slice ao2 ts.length cp2) := hti9.boxes (b10, 26, .slice ao2 ts.length cp2) (by simp)
            have i15 : Boxed W b15 3 (.int .i64 pre.length) := hti9.boxes (b15, 3, .int .i64 pre.length) (by simp)
            have i18 : Boxed W b18 4 (.bool true) := by
              have := hti9.boxes (b18, 4, .bool (decide (pre.length < prodT ts))) (by simp)
              rwa [decide_eq_true hlt] at this
            have hT := (nth_ok ts pre.length hlt).1
            have hmore := nth_more ts pre.length hlt
            have HSm := Lib.hid (same_tears hT.length hrx.reads hr15.reads (by omega))
            have hp3 : prodT ts ≤ 3000 := by
              have h3 := HC.out.2
              have := cntT_exact ts 1 (by omega) (by omega)
              omega
            have e9 : IntKind.i64.wrap ((pre.length : Int) + 1) = (pre.length : Int) + 1 := IntWalk.i64_in _ (by omega)
            have HNx : Hid (∀ wx, Keeps [] W wx → Calls Try.prog 12 #[.slice ao2 ts.length cp2, .slice ao15 ts.length cp15] wx fun e w' => ∃ v', e = .returned (.tuple #[v', .bool (decide (pre.length + 1 < prodT ts))]) ∧ RowAt w' 3 1 v' ts.length ((nextT ts (nth ts pre.length)).1.map nv) ∧ Keeps [] wx w' ∧ ∀ g, v'.ownBlock = some g → wx.heap.size ≤ g) :=
              Lib.hid fun wx hk => by
                have := refNext_any (hti9.top.reads.keeps hk (by simp)) (hr15.reads.keeps hk (by simp)) hT (by omega) htb
                rwa [hmore] at this
            have hne : b14 ≠ b15 ∧ b14 ≠ b18 ∧ b15 ≠ b18 ∧ b10 ≠ b14 := by omega
            have d10 := i10.cell
            have d14 := i14.cell
            have d15 := i15.cell
            have d18 := i18.cell
            have HXX := Lib.hid (And.intro hti9 (And.intro i14 (And.intro i10 (And.intro i15 (And.intro i18 (And.intro hrx (And.intro hxB (And.intro hnl (And.intro hDW hne)))))))))
            have HYY := Lib.hid (And.intro hcs2 (And.intro tvn (And.intro hfs1 (And.intro hN (And.intro hb10 (And.intro hb14 (And.intro hb15 (And.intro hsW (And.intro s27 (And.intro s8 (And.intro hb18 (And.intro hsz (And.intro kW.size (And.intro hs0 (lt_of hD)))))))))))))))
            obtain ⟨fl, hfl⟩ : ∃ fl, fl = decide (pre.length + 1 < prodT ts) := ⟨_, rfl⟩
            rw [← hfl] at HNx
            have HFL := Lib.hid hfl
            clear hfl hti9 i14 hr15 hv15 i10 i15 i18 hrx hxB hxn hT hmore hne hnl hnb hDW hlt hlt2 hp3
            clear hTI2 hI8 cbx8 hDold old8 old82 c14 c15 c18 hrn8 hti e8 e10 e15 h14 htop hkp hsz hD hDl hts htb tvn hcs hN hb10 hb14 hb15 hsW hs0 hs6 hbx hv0 hv7 hfs1 hI6 cbx' hG hn40 hp40 kW hown7 x14 x15 k27 s27 s8 hv7b hb18 hv2b hW8 hszs habd2 hcs2
            gi_wp2
            refine ⟨trivial, fun _ => by omega, (CallsIn.inRound _ (callsIn_wide.2 HSm.out)).mono ?_⟩
            rintro e w2' ⟨rfl, hk2'⟩
            have f10 : w2'.cell? ⟨b10, 0, none⟩ = some (.slice ao2 ts.length cp2) := by rw [World.cell?_of_block (hk2'.block b10 HXX.out.2.2.1.lt (by simp))]; exact d10
            have f14 : w2'.cell? ⟨b14, 0, none⟩ = some (.slice ao15 ts.length cp15) := by rw [World.cell?_of_block (hk2'.block b14 HXX.out.2.1.lt (by simp))]; exact d14
            have HN2 := Lib.hid (HNx.out _ hk2')
            have H2' := Lib.hid hk2'; clear hk2'
            gi_wp2
            refine ⟨trivial, fun _ => by omega, (CallsIn.inRound _ (callsIn_wide.2 HN2.out)).mono ?_⟩
            rintro e w3' ⟨v', rfl, hr3', hk3', hg3'⟩
            have hk23 : Keeps [] W w3' := H2'.out.trans hk3' (by simp)
            obtain ⟨hti9, i14, i10, i15, i18, hrx, hxB, hnl, hDW, hne⟩ := HXX.out
            have j14 : Boxed w3' b14 26 (.slice ao15 ts.length cp15) := (hk23.block b14 i14.lt (by simp)).trans i14
            have j15 : Boxed w3' b15 3 (.int .i64 pre.length) := (hk23.block b15 i15.lt (by simp)).trans i15
            have j18 : Boxed w3' b18 4 (.bool true) := (hk23.block b18 i18.lt (by simp)).trans i18
            obtain ⟨ao', cp', rfl⟩ := reads_shape hr3'.reads
            have g14 := j14.cell
            have q14 := j14.frozen
            have j18' : Boxed (w3'.setCell ⟨b14, 0, none⟩ (.slice ao' ts.length cp')) b18 4 (.bool true) := (set_other hne.2.1).trans j18
            have g18 := j18'.cell
            have q18 := j18'.frozen
            have j15' : Boxed ((w3'.setCell ⟨b14, 0, none⟩ (.slice ao' ts.length cp')).setCell ⟨b18, 0, none⟩ (.bool fl)) b15 3 (.int .i64 pre.length) := (set_other (Ne.symm hne.2.2.1)).trans ((set_other hne.1).trans j15)
            have g15 := j15'.cell
            have q15 := j15'.frozen
            have H3' := Lib.hid (And.intro hr3' (And.intro hk23 (And.intro j14 (And.intro j15 (And.intro j18 (And.intro j18' (And.intro j15' (fun g hg => Nat.le_trans H2'.out.size (hg3' g hg)))))))))
            clear hr3' hk23 j14 j15 j18 j18' j15' hk3' hg3' hti9 i14 i10 i15 i18 hrx hxB hnl hDW hne d10 d14 d15 d18 f10 f14
            gi_wp2
            obtain ⟨wF, hwF⟩ : ∃ wF, wF = (((w3'.setCell ⟨b14, 0, none⟩ (.slice ao' ts.length cp')).setCell ⟨b18, 0, none⟩ (.bool fl)).setCell ⟨b15, 0, none⟩ (.int .i64 ((pre.length : Int) + 1))) := ⟨_, rfl⟩
            rw [← hwF]
            obtain ⟨hti9, i14, i10, i15, i18, hrx, hxB, hnl, hDW, hne⟩ := HXX.out
            obtain ⟨hr3', hk23, j14, j15, j18, j18', j15', hg3'⟩ := H3'.out
            obtain ⟨hcs2, tvn, hfs1, hN, hb10, hb14, hb15, hsW, s27, s8, hb18, hsz, kWs, hs0, hDlt⟩ := HYY.out
            have hfl := HFL.out
            have s1 := hti9.size
            have s2 := hk23.size
            have hxW := hrx.lt (g := xb) rfl
            have sF : wF.heap.size = w3'.heap.size := by rw [hwF]; simp [World.setCell]
            have oldF : ∀ q, q ≠ b14 → q ≠ b15 → q ≠ b18 → wF.heap[q]? = w3'.heap[q]? := fun q h1 h2 h3 => by
              rw [hwF, set_other (Ne.symm h2), set_other (Ne.symm h3), set_other (Ne.symm h1)]
            have hend : KeepsRec W8.heap.size W wF ∧ tearKp (W8.heap.size + 2) (.slice (some ⟨xb, xo, none⟩) ts.length xc) W wF ∧ TI w W8.heap.size ([(N, 3, .int .i64 a3), (N + 1, 4, .bool false), (b10, 26, .slice ao2 ts.length cp2)] : List Bx) (fun k : Nat => ([(b15, 3, .int .i64 k), (b18, 4, .bool (decide (k < prodT ts)))] : List Bx)) b14 (.slice ao2 ts.length cp2) ts W1 (bx :: p.foot b) nb (pre.length + 1) wF := by
              refine TI.next (x := .slice (some ⟨xb, xo, none⟩) ts.length xc) (xb := xb) (v' := .slice ao' ts.length cp') hti9 hcs2 (by omega) (by omega) (fun q hq => ?_) (fun g hg => ?_) hrx rfl (by omega) (fun q hq => ?_) rfl ⟨by omega, fun i hi hni => ?_, ?_, ?_, ?_⟩ (fun q hq => ?_) ?_ ?_ hg3' hnl (fun i hi => ⟨by have := hfs1 i hi; omega, fun h => by simp at h; have := hfs1 i hi; omega⟩)
              · simp only [List.mem_cons, List.not_mem_nil, or_false] at hq
                rcases hq with rfl | rfl <;> (dsimp only; omega)
              · have := tvn g hg
                refine ⟨fun hi => ?_, by omega⟩
                simp at hi; omega
              · simp only [List.mem_cons, List.not_mem_nil, or_false] at hq
                intro hi
                rcases hq with rfl | rfl | rfl <;> (simp at hi; omega)
              · simp only [List.map_cons, List.map_nil, List.mem_cons, List.not_mem_nil, or_false, not_or] at hni
                obtain ⟨n1, n2, n3, n4⟩ := hni
                exact (oldF i n1 n3 n4).trans (hk23.block i hi (by simp))
              · rw [hwF]; show w3'.os = W.os; exact hk23.os
              · rw [hwF]; show w3'.tape = W.tape; exact hk23.tape
              · rw [hwF]; show w3'.output = W.output; exact hk23.output
              · simp only [List.mem_cons, List.not_mem_nil, or_false] at hq
                rcases hq with rfl | rfl
                · rw [hwF]; exact j15'.set _
                · dsimp only
                  rw [hwF, ← hfl]
                  exact (set_other hne.2.2.1).trans (j18'.set _)
              · rw [hwF]
                exact (set_other (Ne.symm hne.1)).trans ((set_other (Ne.symm hne.2.1)).trans (j14.set _))
              · exact hr3'.same fun g hg => by
                  have h1 := hg3' g hg
                  exact oldF g (by omega) (by omega) (by omega)
            refine ⟨hend.1, hend.2.1, ?_, by rw [List.length_append, List.length_singleton]; exact hend.2.2⟩
            have hDn : D ≠ b14 ∧ D ≠ b15 ∧ D ≠ b18 := by
              refine ⟨fun e => ?_, fun e => ?_, fun e => ?_⟩
              · rw [e, i14] at hDW; cases hDW
              · rw [e, i15] at hDW; cases hDW
              · rw [e, i18] at hDW; cases hDW
            exact (oldF D hDn.1 hDn.2.1 hDn.2.2).trans ((hk23.block D (lt_of hDW) (by simp)).trans hDW)
          case done =>
            rintro D2 nb ys W hD2 hys ⟨hDW, hti9⟩ hK
            exact ⟨rfl, D2, nb, rfl, by have h := hti9; rw [hys] at h; exact h, hK, hD2, hDW⟩
          case stop =>
            rintro D2 nb c pre W hD2 _ h _
            exact h.elim
        case after2 =>
          rintro e a2 W3 ⟨rfl, D2, nb2, rfl, hti9, hD2, hDl2, hDW⟩
          dsimp only
          have p8 : Boxed W3 (N + 1) 4 (.bool false) := hti9.boxes (N + 1, 4, .bool false) (by simp)
          have p15 : Boxed W3 b15 3 (.int .i64 (prodT ts : Nat)) := hti9.boxes (b15, 3, .int .i64 (prodT ts : Nat)) (by simp)
          have p18 : Boxed W3 b18 4 (.bool false) := by
            have := hti9.boxes (b18, 4, .bool (decide (prodT ts < prodT ts))) (by simp)
            rwa [decide_eq_false (Nat.lt_irrefl _)] at this
          have hcp : cc = prodT ts := by
            have h3 := HC.out.2
            have := cntT_exact ts 1 (by omega) (by omega)
            omega
          have hp3 : prodT ts ≤ 3000 := by omega
          have e9 : IntKind.u64.wrap ((prodT ts : Nat) : Int) = ((prodT ts : Nat) : Int) := IntWalk.u64_in _ (by omega)
          have d15 := p15.cell
          have d18 := p18.cell
          have hkw9 := hti9.keeps
          have hDlt : D < W8.heap.size := by have := lt_of hD; omega
          have hW8w : w.heap.size ≤ W8.heap.size := by have := kW.size; omega
          have HZ := Lib.hid (And.intro p8 (And.intro p15 (And.intro p18 (And.intro hkw9 (And.intro hD2 (And.intro hDW (And.intro hDl2 (And.intro hDl (And.intro hN (And.intro kW.size (And.intro hDlt hW8w)))))))))))
          obtain ⟨q, hq⟩ : ∃ q, q = prodT ts := ⟨_, rfl⟩
          rw [← hq] at hcp e9 d15
          subst hcp
          clear hDlt hW8w hti9 p8 p15 p18 hkw9 hD2 hDW hDl2 hTI2 hI8 cbx8 old8 old82 c14 c15 c18 hrn8 hti e8 e10 e15 h14 htop hkp hsz hD hDl hts htb tvn hcs hN hb10 hb14 hb15 hsW hs0 hs6 hbx hv0 hv7 hfs1 hI6 cbx' hG hn40 hp40 kW hown7 x14 x15 k27 s27 s8 hv7b hb18 hv2b hW8 hszs habd2 hcs2 hq
          gi_wp2
          refine ⟨trivial, (callsIn_wide.2 (HKn.out _)).mono ?_⟩
          rintro e W4 ⟨rfl, hk4x⟩
          have c8x : Boxed W4 (N + 1) 4 (.bool false) := (hk4x.2.2 _ HZ.out.1.lt).trans HZ.out.1
          have d8 := c8x.cell
          have f8 := c8x.frozen
          have H4x := Lib.hid (And.intro hk4x c8x); clear hk4x c8x
          gi_wp2
          obtain ⟨hk4x, c8x⟩ := H4x.out
          obtain ⟨p8, p15, p18, hkw9, hD2, hDW, hDl2, hDl, hN, hkz, hDlt, hW8w⟩ := HZ.out
          have hD2' : W4.heap[D2]? = some (.deferred (some [])) := (hk4x.2.2 D2 (lt_of hD2)).trans hD2
          have hDW' : W4.heap[D]? = some (.deferred (some [])) := (hk4x.2.2 D (lt_of hDW)).trans hDW
          have n1 : D2 ≠ N + 1 := fun e => by rw [e, c8x] at hD2'; cases hD2'
          have n2 : D ≠ N + 1 := fun e => by rw [e, c8x] at hDW'; cases hDW'
          have hD2s : (W4.setCell ⟨N + 1, 0, none⟩ (.bool true)).heap[D2]? = some (.deferred (some [])) := (set_other (Ne.symm n1)).trans hD2'
          refine ⟨by simp, .inl ⟨_, _, rfl, run_takeDeferred hD2s, ?_⟩⟩
          have hDs : ((W4.setCell ⟨N + 1, 0, none⟩ (.bool true)).putObj D2 (.deferred none)).heap[D]? = some (.deferred (some [])) := (World.putObj_heap_other (by omega)).trans ((set_other (Ne.symm n2)).trans hDW')
          refine ⟨by simp, .inl ⟨_, _, rfl, run_takeDeferred hDs, ?_⟩⟩
          have hcell : (((W4.setCell ⟨N + 1, 0, none⟩ (.bool true)).putObj D2 (.deferred none)).putObj D (.deferred none)).cell? ⟨N + 1, 0, none⟩ = some (.bool true) := (show Boxed _ (N + 1) 4 (.bool true) from (World.putObj_heap_other (Ne.symm n2)).trans ((World.putObj_heap_other (Ne.symm n1)).trans (c8x.set (.bool true)))).cell
          refine ⟨.bool true, ?_, rfl, ?_⟩
          · simp [results, Try.results3, go_sem, hcell]
          · have hkk : KB w W4 := (KB.of_keeps hkw9).trans hk4x
            exact ⟨hkk.1, hkk.2.1, fun i hi => (World.putObj_heap_other (by omega)).trans ((World.putObj_heap_other (by omega)).trans ((set_other (by omega)).trans (hkk.2.2 i hi)))⟩
end Go.Proofs.Ytfjjiohclokohaa.pm
