/-
  PROVED HERE: how an arena is laid by hand (Build): nothing, or an arena of so many slabs in new blocks; nothing that was there is turned. Conditions: few slabs and keys.
-/
import Derived.Test.YtdbbbaallalhoaaGreatArE
import Derived.Test.YtdbbbaallalhoaaGreatArN
namespace Go.Proofs.YtdbbbaallalhoaaGreat.ar
open Go.RowKit Go.Proofs.YtdbbbaallalhoaaGreat.pm
set_option linter.unusedVariables false
attribute [-go_sem] Instr.build Instr.buildSlice Builtin.append_

def BuildPost (w : World) (S : Nat) (e : Ending) (w' : World) : Prop :=
  Keeps [] w w' ∧ (e = .returned (.pointer none) ∨ ∃ (b : Nat) (A : Ar), e = .returned (.pointer (some ⟨b, 0, none⟩)) ∧ ArAt w' b A ∧ A.S = S ∧ w.heap.size ≤ b ∧ w.heap.size ≤ A.g)

set_option maxRecDepth 1000000 in
theorem u8Zero : (Tryz.prog.info? 5).map (fun i => (i.zero, i.size, i.bytes)) = some (some (.int .u8 0), 1, 1) := by kernel_rfl
/-- An arena at first. -/
def arArr (g n S : Nat) : Array Value := #[.slice (some ⟨g, 0, none⟩) n n, .int .i64 S, .int .i64 0, .int .i64 0, .int .i64 0, .int .i64 0, .int .i64 0, .slice none 0 0]
set_option maxRecDepth 1000000 in
theorem built_arena (g n S : Nat) : Tryz.prog.built 58 [(0, .slice (some ⟨g, 0, none⟩) n n), (1, .int .i64 S)] = some (arArr g n S) := by kernel_rfl

/-- An arena in new blocks; nothing that was there is turned. -/
structure BI (w : World) (n0 S0 b0 g0 : Nat) (wx : World) (A : Ar) : Prop where
  at_ : ArAt wx b0 A
  ok : ArOk A
  g : A.g = g0
  n : A.n = n0
  S : A.S = S0
  hb : w.heap.size ≤ b0
  hg : w.heap.size ≤ g0
  keep : Keeps [] w wx
  lv : ∀ q, A.lv.ownBlock = some q → w.heap.size ≤ q
theorem BI.next {w : World} {n S b g : Nat} {wx wy : World} {A A' : Ar} (h : BI w n S b g wx A) (h1 : ArAt wy b A') (h2 : ArOk A') (h3 : ArSame A A') (h4 : Keeps [b, A.g] wx wy) : BI w n S b g wy A' :=
  ⟨h1, h2, by rw [h3.g, h.g], by rw [h3.n, h.n], by rw [h3.S, h.S], h.hb, h.hg, h.keep.trans h4 (fun i hi => .inr (by have q1 := h.hb; have q2 := h.hg; have q3 := h.g; simp at hi; omega)), by rw [h3.lv]; exact h.lv⟩
theorem BI.put {w : World} {n S b g : Nat} {wx wy : World} {A : Ar} (h : BI w n S b g wx A) (h1 : ArAt wy b A) (h4 : Keeps [A.g] wx wy) : BI w n S b g wy A :=
  h.next h1 h.ok ⟨rfl, rfl, rfl, rfl⟩ (h4.mono fun i hi => .inl (by simp at hi; simp [hi]))
theorem BI.same {w : World} {n S b g : Nat} {wx wy : World} {A : Ar} (h : BI w n S b g wx A) (h4 : Keeps [] wx wy) : BI w n S b g wy A :=
  h.put (h.at_.keeps h4 (by simp) (by simp)) (h4.mono (by simp))
theorem BI.cell {w : World} {n S b g : Nat} {wx : World} {A : Ar} (h : BI w n S b g wx A) : wx.cell? ⟨b, 0, none⟩ = some (.slice (some ⟨g, 0, none⟩) n n) := by
  have := h.at_.cells.1
  rw [h.g, h.n] at this
  exact this

set_option maxRecDepth 1000000 in
theorem entryZero : (Tryz.prog.info? 107).map (fun i => (i.zero, i.size, i.bytes)) = some (some (.agg #[.int .u64 0, .int .u64 0]), 2, 16) := by kernel_rfl
set_option maxRecDepth 1000000 in
theorem built_entry (x p : Int) : Tryz.prog.built 107 [(0, .int .u64 x), (1, .int .u64 p)] = some #[.int .u64 x, .int .u64 p] := by kernel_rfl
theorem one_entry {X : Array Value} (hX : X.size = 2) (w : World) : (Instr.buildSlice 103 1 #[(0, .agg X)]).run Tryz.prog w = .ok (.slice (some ⟨w.heap.size, 0, none⟩) 1 1) (w.alloc (.cells X 107)) := by
  obtain ⟨i0, hi0, hz0, hz1, hz2⟩ := info_parts entryZero
  refine run_buildSlice w 103 107 1 _ X i0 _ Tryz.underlying103 hi0 hz0 (by rw [hz1]; decide) (by rw [hz1]; decide) ?_
  have := Go.Great.fill_whole (s := i0.size) (by rw [hz1]; decide) [Value.agg X] ((Array.range (1 * i0.size)).map ((Value.agg #[.int .u64 0, .int .u64 0]).cells[· % (Value.agg #[.int .u64 0, .int .u64 0]).cells.size]!)) (fun v hv => by simp at hv; subst hv; rw [hz1]; exact hX) (by simp)
  simp only [List.zipIdx_cons, List.zipIdx_nil, List.map_cons, List.map_nil, List.flatMap_cons, List.flatMap_nil, List.append_nil] at this
  exact this.trans (congrArg some (by simp [Value.cells]))

theorem BI.app {w : World} {n S b g m : Nat} {wx wy : World} {A : Ar} {v : Value} {xs : List Value} (h : BI w n S b g wx A) (hrow : RowAt wx 107 2 v m xs) (hown : ∀ q, v.ownBlock = some q → w.heap.size ≤ q) (kx : Keeps v.ownBlock.toList wx wy) : BI w n S b g wy A := by
  obtain ⟨_, _, _, hrb⟩ := h.at_.row
  have q1 := row_apart_blk hrow h.at_.blk (by decide)
  have q2 := row_apart hrow hrb (by decide)
  exact ⟨h.at_.keeps kx (by simpa only [Option.mem_toList] using q1) (by simpa only [Option.mem_toList] using q2), h.ok, h.g, h.n, h.S, h.hb, h.hg, h.keep.trans kx (fun j hj => .inr (hown j (by simpa only [Option.mem_toList] using hj))), h.lv⟩
theorem row_keep {w w' : World} {T U : TypeId} {s s2 n n2 : Nat} {v v2 : Value} {xs ys : List Value} (h : RowAt w T s v n xs) (h2 : RowAt w U s2 v2 n2 ys) (hne : T ≠ U) (hk : Keeps v2.ownBlock.toList w w') : RowAt w' T s v n xs :=
  h.same fun q hq => hk.block q (h.lt hq) (by
    simp only [Option.mem_toList]
    intro e
    rcases h2.2 with ⟨e2, _⟩ | ⟨g, off, cap, cur, e2, hg, _⟩
    · rw [e2] at e; cases e
    · have hqg : q = g := by rw [e2] at e; exact (Option.some.inj e).symm
      exact row_apart_blk h (hqg ▸ hg) hne hq)

/-- What follows a region is kept shut while the region is walked. -/
theorem wpStill_hide {P : Program} {ops : Array Oper} {w : World} {Q : Act → Prop} {l : List Oper} {a : Act} (h : ∀ K : Act → Prop, (∀ a, Q a → K a) → wpStill P ops w K l a) : wpStill P ops w Q l a :=
  h Q (fun _ h => h)
theorem flat_snoc : ∀ (ps : List (Int × Int)) (x y : Int), flat (ps ++ [(x, y)]) = flat ps ++ [Value.int .u64 x, Value.int .u64 y]
  | [], _, _ => rfl
  | p :: r, x, y => by simp only [List.cons_append, flat, flat_snoc r x y]
theorem reads_shape {w : World} {v : Value} {n : Nat} {xs : List Value} (h : Reads w v n xs) : ∃ ao cp, v = .slice ao n cp := by
  rcases h with ⟨rfl, h2, _⟩ | ⟨a, cap, rfl, _⟩
  · exact ⟨none, 0, by rw [h2]⟩
  · exact ⟨_, _, rfl⟩
theorem reads_at {w : World} {ao : Option Addr} {n cp i : Nat} {xs : List Value} {u : Value} (h : Reads w (.slice ao n cp) n xs) (hi : i < n) (hu : xs[i]? = some u) :
    ∃ a, ao = some a ∧ a.spot = none ∧ ∀ wr, Keeps [] w wr → wr.cell? ⟨a.block, a.off + i, none⟩ = some u := by
  rcases h with ⟨e, h2, _⟩ | ⟨a, cap, e, h2, h3⟩
  · omega
  · cases e
    exact ⟨a, rfl, h2, fun wr hk => by
      have hc := h3 i u hu
      rw [World.cell?_of_block (hk.block _ (World.block_lt_of_cell? _ _ hc) (by simp))]; exact hc⟩

set_option maxRecDepth 100000 in
set_option maxHeartbeats 4000000 in
theorem build_any {w : World} (S per lag : Nat) (hS : S ≤ 1000) (hp2 : 2 ≤ per) (hp8 : per ≤ 8) (hlag : lag ≤ 100) {kv : Value} {ks : List Int} (hks : Reads w kv ks.length (ks.map (Value.int .u64))) (hku : ∀ k ∈ ks, U64 k) (hkn : ks.length ≤ 64) :
    Calls Tryz.prog 14 #[.int .i64 S, kv, .int .i64 per, .int .i64 lag] w (BuildPost w S) := by
  obtain ⟨kao, kcp, rfl⟩ := reads_shape hks
  have HK := Lib.hid (And.intro hks (And.intro hku hkn)); clear hks hku hkn
  obtain ⟨n, hn⟩ : ∃ n, n = 1024 * (S + 1) := ⟨_, rfl⟩
  have e1 : IntKind.i64.wrap ((S : Int) + 1) = ((S + 1 : Nat) : Int) := by rw [IntWalk.i64_in _ (by omega)]; omega
  obtain ⟨S1, hS1⟩ : ∃ S1, S1 = S + 1 := ⟨_, rfl⟩
  rw [← hS1] at e1
  have e2 : IntKind.i64.wrap (1024 * (S1 : Int)) = (n : Int) := by rw [IntWalk.i64_in _ (by omega)]; omega
  have hn2 : n ≤ 1100000 := by omega
  have hn3 : 64 ≤ n := by omega
  have HN := Lib.hid (And.intro hn hS1); clear hn hS1
  obtain ⟨i0, hi0, hz0, hz1, hz2⟩ := info_parts u8Zero
  have hb1 : ∀ wx, (Instr.build 58 #[(0, .slice (some ⟨w.heap.size, 0, none⟩) n n), (1, .int .i64 S)]).run Tryz.prog wx = .ok (.agg (arArr w.heap.size n S)) wx := fun wx => run_build wx _ _ _ (built_arena w.heap.size n S)
  go_enter Tryz.func14, Tryz.ntmps14
  go_wp2_with (at_make; refine wpList_make_full _ rfl _ _ 33 rfl w.heap.size 5 i0 (.int .u8 0) 1 Tryz.underlying33 hi0 hz0 hz1 .i64 .i64 (n : Int) (n : Int) n rfl rfl (by omega) (by omega) (by rw [hz2]; omega) (by unfold maxLen; omega) (Nat.le_refl _) ?_; intro W hown hgr)
  have hrow : RowAt W 5 1 (.slice (some ⟨w.heap.size, 0, none⟩) n n) n ((List.replicate n (0 : Int)).map (Value.int .u8)) := by
    have := RowAt.of_own hown
    rw [show (Value.int .u8 0).cells = #[.int .u8 0] from rfl, toList_madeCells_one] at this
    simpa using this
  have hgW : w.heap.size < W.heap.size := hrow.lt rfl
  have hBI : BI w n S W.heap.size w.heap.size (W.alloc (.cells (arArr w.heap.size n S) 58)) ⟨w.heap.size, n, S, 0, 0, 0, 0, 0, .slice none 0 0⟩ :=
    ⟨⟨alloc_new, ⟨List.replicate n 0, by simp, fun x hx => by rw [List.eq_of_mem_replicate hx]; exact ⟨by omega, by omega⟩, hrow.same fun g hg => (MapKept.heap_alloc W _).2 g (hrow.lt hg)⟩, by show w.heap.size ≠ W.heap.size; omega, by have := HN.out; show n = 1024 * (S + 1); omega, hS⟩,
      ⟨by show 0 ≤ S; omega, by show 0 ≤ S; omega, by show 0 ≤ 15; omega, by show 0 ≤ S; omega, by show 0 ≤ 5; omega⟩, rfl, rfl, rfl, by omega, Nat.le_refl _, (Keeps.grown hgr).trans (Keeps.alloc W _) (by simp), fun q hq => by cases hq⟩
  obtain ⟨A0, hA0⟩ : ∃ A0, A0 = (⟨w.heap.size, n, S, 0, 0, 0, 0, 0, .slice none 0 0⟩ : Ar) := ⟨_, rfl⟩
  have hlv0 : A0.lv = .slice none 0 0 := by rw [hA0]
  rw [← hA0] at hBI
  obtain ⟨W0, hW0⟩ : ∃ W0, W0 = W.alloc (.cells (arArr w.heap.size n S) 58) := ⟨_, rfl⟩
  obtain ⟨b, hb⟩ : ∃ b, b = W.heap.size := ⟨_, rfl⟩
  obtain ⟨g, hg⟩ : ∃ g, g = w.heap.size := ⟨_, rfl⟩
  rw [← hW0, ← hb, ← hg] at hBI
  rw [← hW0, ← hb]
  clear hb1 hown hgr hrow hgW hA0 hW0 hb hi0 hz0 hz1 hz2
  have e3 : IntKind.u64.wrap (n : Int) = (n : Int) := IntWalk.u64_in _ (by omega)
  have e4 : IntKind.u64.wrap (18446744073709551615 - (n : Int)) = 18446744073709551615 - (n : Int) := IntWalk.u64_in _ (by omega)
  rw [← hg]
  have HG := Lib.hid hg; clear hg
  have HP0 := Lib.hid (put_any hBI.at_ 0 5929342154728227142 ⟨by omega, by omega⟩ (by rw [hBI.n]; omega))
  have HB := Lib.hid hBI; clear hBI
  refine HP0.out.mono ?_
  rintro e w1 ⟨rfl, hA1, hk1⟩
  have hB1 := HB.out.put hA1 hk1
  have c1 := hB1.cell
  have HP1 := Lib.hid (put_any hB1.at_ 8 n ⟨by omega, by omega⟩ (by rw [hB1.n]; omega))
  have HB1 := Lib.hid hB1; clear hB1 hA1 hk1
  go_wp2_with fail
  refine HP1.out.mono ?_
  rintro e w2 ⟨rfl, hA2, hk2⟩
  have hB2 := HB1.out.put hA2 hk2
  have c2 := hB2.cell
  have HP2 := Lib.hid (put_any hB2.at_ 24 (18446744073709551615 - (n : Int)) ⟨by omega, by omega⟩ (by rw [hB2.n]; omega))
  have HB2 := Lib.hid hB2; clear hB2 hA2 hk2 c1
  go_wp2_with fail
  refine HP2.out.mono ?_
  rintro e w3 ⟨rfl, hA3, hk3⟩
  have hB3 := HB2.out.put hA3 hk3
  have HB3 := Lib.hid (And.intro hB3 hlv0); clear hB3 hA3 hk3 c2 e3 e4 hlv0
  go_upto_block 0 with fail
  go_cut [10] from 45 to 93 (fun s10 wx => ∃ (ps : List (Int × Int)) (A1 : Ar), RowAt wx 107 2 s10 ps.length (flat ps) ∧ (∀ p ∈ ps, U64 p.1 ∧ U64 p.2) ∧ ps.length ≤ 64 ∧ BI w n S b g wx A1 ∧ A1.lv = .slice none 0 0 ∧ ∀ q, s10.ownBlock = some q → w.heap.size ≤ q)
  case first =>
    --<S
    go_wp2_with fail
    go_loopw [10, 11] (fun s10 s11 wr => ∃ (i : Nat) (ps : List (Int × Int)) (A1 : Ar) (ao : Option Addr) (cp : Nat), i ≤ ks.length ∧ s11 = .int .i64 i ∧ s10 = .slice ao i cp ∧ ps.length = i ∧ RowAt wr 107 2 s10 i (flat ps) ∧ (∀ p ∈ ps, U64 p.1 ∧ U64 p.2) ∧ BI w n S b g wr A1 ∧ A1.lv = .slice none 0 0 ∧ ∀ q, s10.ownBlock = some q → w.heap.size ≤ q) (fun _ s11 _ => ks.length - (intOf s11).toNat)
    case atStart => exact ⟨0, [], A0, none, 0, by omega, rfl, rfl, rfl, RowAt.nil _ _ _, by simp, HB3.out.1, HB3.out.2, fun q hq => by cases hq⟩
    case round =>
      obtain ⟨i, ps, A1, ao, cp, hi, rfl, rfl, hpl, hrow, hpu, hBI, hlv, hown⟩ := hrel
      obtain ⟨hks, hku, hkn⟩ := HK.out
      by_cases hlt : i < ks.length
      · have hiI : (i : Int) < (ks.length : Int) := by omega
        obtain ⟨x, hx⟩ : ∃ x, ks[i]? = some x := ⟨_, List.getElem?_eq_getElem hlt⟩
        have hxu := hku x (List.mem_of_getElem? hx)
        obtain ⟨⟨ag, aof, asp⟩, rfl, hsp, hck⟩ := reads_at hks hlt (u := .int .u64 x) (by rw [List.getElem?_map, hx]; rfl)
        dsimp only at hsp hck
        subst hsp
        have HCK := Lib.hid hck; clear hck hx hks hku
        have HNV := Lib.hid (newValue_any hBI.at_ hBI.ok)
        have HR := Lib.hid (And.intro hpl (And.intro hrow (And.intro hpu (And.intro hBI (And.intro hlv hown))))); clear hpl hrow hpu hBI hlv hown
        go_wp2_with fail
        refine HNV.out.mono ?_
        rintro e w4 ⟨A2, at_, rfl, hA2, ok2, sm2, hk2, hat⟩
        have hB4 := HR.out.2.2.2.1.next hA2 ok2 sm2 hk2
        have hlv2 : A2.lv = .slice none 0 0 := by rw [sm2.lv]; exact HR.out.2.2.2.2.1
        have hrow4 : RowAt w4 107 2 (.slice ao i cp) i (flat ps) := HR.out.2.1.same fun q hq => hk2.block q (HR.out.2.1.lt hq) (by
          have q1 := row_apart_blk HR.out.2.1 HR.out.2.2.2.1.at_.blk (by decide)
          obtain ⟨_, _, _, hrb⟩ := HR.out.2.2.2.1.at_.row
          have q2 := row_apart HR.out.2.1 hrb (by decide)
          simp
          exact ⟨fun e => q1 (by rw [hq, e]), fun e => q2 (by rw [hq, e])⟩)
        have hn1 : A1.n = n := HR.out.2.2.2.1.n
        have H4 := Lib.hid (And.intro hB4 (And.intro hlv2 hrow4)); clear hB4 hlv2 hrow4 hA2 ok2 sm2 hk2
        by_cases hz : at_ = 0
        · subst hz
          go_wp2_with fail
          go_ret
          exact ⟨H4.out.1.keep, .inl rfl⟩
        · have b0 : ((at_ : Int) == 0) = false := by simp; omega
          have ha : 64 ≤ at_ ∧ at_ + 64 ≤ n := by omega
          clear hat hz hn1
          have cx := HCK.out w4 H4.out.1.keep
          have HD := Lib.hid (digits_any x w4 hxu)
          go_wp2_with fail
          refine HD.out.mono ?_
          rintro e w5 ⟨l, rfl, hl, hk5⟩
          have hB5 := H4.out.1.same hk5
          have e5 : IntKind.u64.wrap (l.length : Int) = (l.length : Int) := IntWalk.u64_in _ (by omega)
          have HPt := Lib.hid (put_any hB5.at_ at_ l.length ⟨by omega, by omega⟩ (by rw [hB5.n]; omega))
          have H5 := Lib.hid (And.intro hB5 hk5); clear hB5 hk5 cx
          have hsz : (mk l).size = l.length := mk_size l
          go_wp2_with fail
          refine HPt.out.mono ?_
          rintro e w6 ⟨rfl, hA6, hk6⟩
          have hg2 : A2.g = g := H5.out.1.g
          have hrow6 : RowAt w6 107 2 (.slice ao i cp) i (flat ps) := (H4.out.2.2.same fun q hq => H5.out.2.block q (H4.out.2.2.lt hq) (by simp)).same fun q hq => hk6.block q (by have := H4.out.2.2.lt hq; have := H5.out.2.size; omega) (by
            obtain ⟨_, _, _, hrb⟩ := H4.out.1.at_.row
            have q2 := row_apart H4.out.2.2 hrb (by decide)
            simp
            exact fun e => q2 (by rw [hq, e]))
          have hB6 := H5.out.1.put hA6 hk6
          have H6 := Lib.hid (And.intro hB6 (And.intro hrow6 hg2)); clear hB6 hrow6 hA6 hk6 hg2
          obtain ⟨p, hp⟩ : ∃ p, p = at_ + 8 := ⟨_, rfl⟩
          have e6 : IntKind.i64.wrap ((at_ : Int) + 8) = (p : Int) := by rw [IntWalk.i64_in _ (by omega)]; omega
          have hp2 : p + 56 ≤ n := by omega
          have HP := Lib.hid hp; clear hp ha e5
          go_wp2_with fail
          go_loopw [14] (fun s14 wz => ∃ k : Nat, k ≤ l.length ∧ s14 = .int .i64 k ∧ BI w n S b g wz A2 ∧ RowAt wz 107 2 (.slice ao i cp) i (flat ps)) (fun s14 _ => l.length - (intOf s14).toNat)
          case atStart => exact ⟨0, by omega, rfl, H6.out.1, H6.out.2.1⟩
          case round =>
            obtain ⟨k, hkl, rfl, hBz, hrz⟩ := hrel
            by_cases hlt2 : k < l.length
            · have hkI : (k : Int) < (l.length : Int) := by omega
              obtain ⟨q, hq⟩ : ∃ q, q = p + k := ⟨_, rfl⟩
              have e7 : IntKind.i64.wrap ((p : Int) + (k : Int)) = (q : Int) := by rw [IntWalk.i64_in _ (by omega)]; omega
              have e8 : (q : Int) < (n : Int) := by omega
              have hqn : q < n := by omega
              obtain ⟨bs, hbl, hby, hrb⟩ := hBz.at_.row
              rw [hBz.n] at hbl hrb
              rw [hBz.g] at hrb
              obtain ⟨o, ho⟩ : ∃ o, bs[q]? = some o := ⟨_, List.getElem?_eq_getElem (by omega)⟩
              have cz : wr.cell? ⟨g, q, none⟩ = some (.int .u8 o) := by
                have := hrb.cell (j := q) (u := .int .u8 o) (by rw [List.getElem?_map, ho]; rfl)
                rw [Nat.zero_add] at this; exact this
              have fz : wr.frozen? ⟨g, q, none⟩ = false := hrb.free q
              have c0 := hBz.cell
              have Hz := Lib.hid (And.intro hBz (And.intro hrz hq)); clear hBz hrz hq hbl hby hrb ho
              have hsz2 : (k : Int) < ((mk l).size : Int) := by omega
              obtain ⟨z, hz⟩ : ∃ z : UInt8, (mk l)[k]! = z := ⟨_, rfl⟩
              go_upto_region 17 with fail
              go_region
              all_goals
                go_wp2_with fail
                have hzb : Byte (((mk l)[k]'(by omega)).toNat : Int) := by have := UInt8.toNat_lt ((mk l)[k]'(by omega)); constructor <;> omega
                obtain ⟨y, hy⟩ : ∃ y : Int, y = (((mk l)[k]'(by omega)).toNat : Int) := ⟨_, rfl⟩
                rw [← hy] at hzb
                obtain ⟨hBz, hrz, hq⟩ := Hz.out
                have hset := hBz.at_.setB (q := q) hzb (by rw [hBz.n]; exact hqn)
                have hBs := (hBz.put hset (Keeps.setCell wr A2.g q _)).same (Keeps.drew _)
                obtain ⟨_, _, _, hrb⟩ := hBz.at_.row
                have q2 := row_apart hrz hrb (by decide)
                have hrs : RowAt (wr.setCell ⟨A2.g, q, none⟩ (.int .u8 y)).drew 107 2 (.slice ao i cp) i (flat ps) := hrz.same fun j hj => set_other (by show A2.g ≠ j; exact fun e => q2 (by rw [hj, ← e]))
                rw [hBz.g] at hBs hrs
                rw [hy] at hBs hrs
                exact ⟨⟨k + 1, by omega, by go_num, hBs, hrs⟩, by simp [intOf]; omega⟩
            · obtain rfl : k = l.length := by omega
              have cx := HCK.out wr hBz.keep
              have H7 := Lib.hid (And.intro hBz hrz)
              have hbe : ∀ wx, (Instr.build 107 #[(0, .int .u64 x), (1, .int .u64 at_)]).run Tryz.prog wx = .ok (.agg #[.int .u64 x, .int .u64 at_]) wx := fun wx => run_build wx _ _ _ (built_entry x at_)
              have hbs := one_entry (X := #[.int .u64 x, .int .u64 at_]) rfl wr
              have hat2 : at_ ≤ n := by have := HP.out; omega
              have e9 : IntKind.u64.wrap (at_ : Int) = (at_ : Int) := IntWalk.u64_in _ (by omega)
              obtain ⟨i1, hi1, hy0, hy1, hy2⟩ := info_parts entryZero
              have hRa : RowAt (wr.alloc (.cells #[.int .u64 x, .int .u64 at_] 107)) 107 2 (.slice ao i cp) i (flat ps) := hrz.same fun q hq => (MapKept.heap_alloc wr _).2 q (hrz.lt hq)
              have hnew : Reads (wr.alloc (.cells #[.int .u64 x, .int .u64 at_] 107)) (.slice (some ⟨wr.heap.size, 0, none⟩) 1 1) 1 [.int .u64 x, .int .u64 at_] := .inr ⟨⟨wr.heap.size, 0, none⟩, 1, rfl, rfl, fun j u hu => by
                rw [Nat.zero_add]; exact cell_of alloc_new (by rw [← hu]; rcases j with _ | _ | j <;> rfl)⟩
              have hone : ∀ u ∈ [Value.int .u64 x, Value.int .u64 at_], u.oneCell' = true := fun u hu => by simp at hu; rcases hu with rfl | rfl <;> rfl
              clear hBz hrz
              go_wp2_with (first
                | (at_builtin; refine wpList_append_row _ rfl _ _ 103 rfl 107 i1 _ 2 16 Tryz.underlying103 hi1 hy0 hy1 hy2 rfl _ (.slice (some ⟨wr.heap.size, 0, none⟩) 1 1) rfl rfl i (flat ps) hRa 1 [.int .u64 x, .int .u64 at_] hnew rfl hone ?hmx ?hby ?_)
                | fail)
              case hmx => unfold maxLen; omega
              case hby => omega
              intro v' w8 hrow' hgrow hblk' g5 o5 c5 hsl
              subst hsl
              have hfin : BI w n S b g w8 A2 ∧ ∀ q, (Value.slice (some ⟨g5, o5, none⟩) (i + 1) c5).ownBlock = some q → w.heap.size ≤ q := by
                obtain ⟨hBz, hrz⟩ := H7.out
                have hown := HR.out.2.2.2.2.2
                obtain ⟨_, _, _, hrb⟩ := hBz.at_.row
                have q1 := row_apart_blk hrz hBz.at_.blk (by decide)
                have q2 := row_apart hrz hrb (by decide)
                have kx : Keeps (Value.slice ao i cp).ownBlock.toList wr w8 := ((Keeps.alloc wr _).mono (G := (Value.slice ao i cp).ownBlock.toList) (by simp)).trans ((Keeps.grown hgrow).mono (G := (Value.slice ao i cp).ownBlock.toList) (fun j hj => .inl (by simp only [Option.mem_toList] at hj ⊢; exact hj))) (fun j hj => .inl hj)
                refine ⟨⟨hBz.at_.keeps kx (by simpa only [Option.mem_toList] using q1) (by simpa only [Option.mem_toList] using q2), hBz.ok, hBz.g, hBz.n, hBz.S, hBz.hb, hBz.hg, hBz.keep.trans kx (fun j hj => .inr (hown j (by simpa only [Option.mem_toList] using hj))), hBz.lv⟩, fun q hq => ?_⟩
                rcases hblk' with h1 | ⟨g', h1, h2⟩
                · exact hown q (by rw [← h1]; exact hq)
                · have e : q = g' := by rw [h1] at hq; exact (Option.some.inj hq).symm
                  have := hBz.keep.size
                  omega
              have HF := Lib.hid (And.intro hfin hrow'); clear hfin hrow' hgrow hblk' hRa hnew hone hbe hbs
              go_wp2_with fail
              go_roundw
              case rel =>
                obtain ⟨⟨hB8, hown8⟩, hrow8⟩ := HF.out
                obtain ⟨hpl, _, hpu, _⟩ := HR.out
                have hfl : flat (ps ++ [(x, (at_ : Int))]) = flat ps ++ [Value.int .u64 x, Value.int .u64 at_] := flat_snoc ps x at_
                exact ⟨i + 1, ps ++ [(x, (at_ : Int))], A2, some ⟨g5, o5, none⟩, c5, by omega, by go_num, rfl, by simp [hpl], by rw [hfl]; exact hrow8, fun p hp => (List.mem_append.1 hp).elim (hpu p) (fun hp => by simp at hp; subst hp; exact ⟨hxu, by constructor <;> dsimp only <;> omega⟩), hB8, H4.out.2.1, hown8⟩
              case measure => simp [intOf]; omega
      · obtain rfl : i = ks.length := by omega
        have HR := Lib.hid (And.intro hpl (And.intro hrow (And.intro hpu (And.intro hBI (And.intro hlv hown))))); clear hpl hrow hpu hBI hlv hown hks hku
        go_wp2_with fail
        go_meet
        obtain ⟨hpl, hrow, hpu, hBI, hlv, hown⟩ := HR.out
        exact ⟨ps, A1, by rw [hpl]; exact hrow, hpu, by omega, hBI, hlv, hown⟩
    --S>
  case rest =>
  obtain ⟨ps, A1, hrow, hpu, hpl, hBI, hlv, hown⟩ := hcut
  have HQ := Lib.hid (And.intro hrow (And.intro hpu (And.intro hpl (And.intro hBI (And.intro hlv hown))))); clear hrow hpu hpl hBI hlv hown
  go_upto_block 4 with fail
  go_cut [] from 94 to 151 (fun wx => ∃ (A2 : Ar) (vs : List Value) (rv : Value) (R : List (Nat × Nd)), BI w n S b g wx A2 ∧ vs.length ≤ 15 ∧ RowAt wx 109 1 A2.lv (vs.length + 1) (vs ++ [rv]) ∧ RowAt wx 115 22 rv R.length (flatR R) ∧ (∀ x ∈ R, x.2.Ok ∧ x.1 + 192 ≤ n) ∧ 1 ≤ R.length)
  case first =>
    go_wp2_with fail
    go_loopw [10, 15] (fun s10 s15 wr => ∃ (ps : List (Int × Int)) (A2 : Ar) (vs : List Value), vs.length ≤ 15 ∧ s15 = .int .i64 vs.length ∧ RowAt wr 107 2 s10 ps.length (flat ps) ∧ (∀ p ∈ ps, U64 p.1 ∧ U64 p.2) ∧ (0 < vs.length → 0 < ps.length) ∧ ps.length ≤ 64 ∧ BI w n S b g wr A2 ∧ RowAt wr 109 1 A2.lv vs.length vs ∧ (∀ u ∈ vs, u.oneCell' = true) ∧ ∀ q, s10.ownBlock = some q → w.heap.size ≤ q) (fun _ s15 _ => 16 - (intOf s15).toNat)
    case atStart =>
      obtain ⟨hrow, hpu, hpl, hBI, hlv, hown⟩ := HQ.out
      exact ⟨ps, A1, [], by simp, rfl, hrow, hpu, by simp, hpl, hBI, by rw [hlv]; exact RowAt.nil _ _ _, by simp, hown⟩
    case round =>
      obtain ⟨ps2, A2, vs, hvl, rfl, hrow, hpu, hp0, hpl, hBI, hvs, hv1, hown⟩ := hrel
      obtain ⟨_, _, _, hrb⟩ := hBI.at_.row
      have HLv := Lib.hid (level_any hBI.at_ hBI.ok vs.length per (by omega) hp2 hp8 hrow hpu (fun q hq => ⟨fun e => row_apart_blk hrow hBI.at_.blk (by decide) (by rw [hq, e]), fun e => row_apart hrow hrb (by decide) (by rw [hq, e])⟩) hp0 hpl hvs hv1)
      have HR := Lib.hid (And.intro hvl (And.intro hpl (And.intro hBI (And.intro hv1 hown)))); clear hvl hrow hpu hp0 hpl hBI hvs hv1 hown hrb
      go_wp2_with fail
      refine HLv.out.mono ?_
      rintro e w4 ⟨hk4, rfl | ⟨rfl, A3, rv, R, hA3, ok3, g3, n3, S3, lv3, hvs3, hR3, hRo, hR1, hRn⟩⟩
      · go_wp2_with fail
        go_ret
        have hBI := HR.out.2.2.1
        exact ⟨hBI.keep.trans hk4 (fun j hj => .inr (by
          have q1 := hBI.hb; have q2 := hBI.hg; have q3 := hBI.g
          simp only [List.cons_append, List.nil_append, List.mem_cons, Option.mem_toList] at hj
          rcases hj with rfl | rfl | hj
          · exact q1
          · omega
          · exact hBI.lv j hj)), .inl rfl⟩
      · have hBI := HR.out.2.2.1
        have hB4 : BI w n S b g w4 A3 := ⟨hA3, ok3, by rw [g3]; exact hBI.g, by rw [n3]; exact hBI.n, by rw [S3]; exact hBI.S, hBI.hb, hBI.hg, hBI.keep.trans hk4 (fun j hj => .inr (by
          have q1 := hBI.hb; have q2 := hBI.hg; have q3 := hBI.g
          simp only [List.cons_append, List.nil_append, List.mem_cons, Option.mem_toList] at hj
          rcases hj with rfl | rfl | hj
          · exact q1
          · omega
          · exact hBI.lv j hj)), fun q hq => (lv3 q hq).elim (hBI.lv q) (fun h => Nat.le_trans hBI.keep.size h)⟩
        obtain ⟨lao, lcp, hlv3, _, _⟩ := row_shape hvs3
        have hvs3' := hvs3
        rw [hlv3] at hvs3'
        obtain ⟨lg, lo, rfl⟩ := row_addr hvs3' (by omega)
        have c7 : w4.cell? ⟨b, 7, none⟩ = some (.slice (some ⟨lg, lo, none⟩) (vs.length + 1) lcp) := by rw [← hlv3]; exact hA3.cells.2.2.2.2.2.2.2
        have cr : w4.cell? ⟨lg, lo + vs.length, none⟩ = some rv := hvs3'.cell (j := vs.length) (u := rv) (by simp)
        obtain ⟨rao, rcp, rfl, _, _⟩ := row_shape hR3
        have hvl := HR.out.1
        have H4 := Lib.hid (And.intro hB4 (And.intro hvs3 (And.intro hR3 (And.intro hRo (And.intro hR1 hRn))))); clear hB4 hvs3 hvs3' hR3 hRo hR1 hRn hBI hA3 ok3 g3 n3 S3 lv3 hk4 hlv3
        go_upto_region 24 with fail
        obtain ⟨m, hm⟩ : ∃ m, m = R.length := ⟨_, rfl⟩
        obtain ⟨k, hk⟩ : ∃ k, k = vs.length := ⟨_, rfl⟩
        rw [← hm, ← hk]
        have hm1 : 1 ≤ m ∧ m ≤ 64 ∧ k ≤ 15 := by
          have h1 := H4.out.2.2.2.2
          have h2 := HR.out.2.1
          omega
        have HM := Lib.hid (And.intro hm hk); clear hm hk
        by_cases hend : m = 1 ∨ k = 15
        · have hfinal : ∃ (A2 : Ar) (vs : List Value) (rv : Value) (R : List (Nat × Nd)), BI w n S b g w4 A2 ∧ vs.length ≤ 15 ∧ RowAt w4 109 1 A2.lv (vs.length + 1) (vs ++ [rv]) ∧ RowAt w4 115 22 rv R.length (flatR R) ∧ (∀ x ∈ R, x.2.Ok ∧ x.1 + 192 ≤ n) ∧ 1 ≤ R.length :=
            ⟨A3, vs, _, R, H4.out.1, HR.out.1, H4.out.2.1, H4.out.2.2.1, fun x hx => by have h1 := H4.out.2.2.2.1 x hx; have h2 := HR.out.2.2.1.n; exact ⟨h1.1, by omega⟩, H4.out.2.2.2.2.1⟩
          have HFN := Lib.hid hfinal; clear hfinal
          by_cases hme : m = 1
          · have b1 : ((m : Int) == 1) = true := by simp [hme]
            clear hme hend
            go_wp2_with fail
            go_meet
            exact HFN.out
          · have b1 : ((m : Int) == 1) = false := by simp; omega
            have b2 : ((k : Int) == 15) = true := by simp; omega
            clear hme hend
            go_wp2_with fail
            go_meet
            exact HFN.out
        · have b1 : ((m : Int) == 1) = false := by simp; omega
          have b2 : ((k : Int) == 15) = false := by simp; omega
          have hk15 : k < 15 := by omega
          clear hend
          obtain ⟨rg, ro, rfl⟩ := row_addr H4.out.2.2.1 H4.out.2.2.2.2.1
          go_upto_block 6 with fail
          go_cut [10] from 116 to 148 (fun s10 wx => ∃ (qs : List (Int × Int)) (ao : Option Addr) (cp : Nat), s10 = .slice ao qs.length cp ∧ RowAt wx 107 2 (.slice ao qs.length cp) qs.length (flat qs) ∧ (∀ p ∈ qs, U64 p.1 ∧ U64 p.2) ∧ 0 < qs.length ∧ qs.length ≤ 64 ∧ BI w n S b g wx A3 ∧ RowAt wx 109 1 A3.lv (vs.length + 1) (vs ++ [.slice (some ⟨rg, ro, none⟩) R.length rcp]) ∧ RowAt wx 115 22 (.slice (some ⟨rg, ro, none⟩) R.length rcp) R.length (flatR R) ∧ ∀ q, (Value.slice ao qs.length cp).ownBlock = some q → w.heap.size ≤ q)
          case first =>
            obtain ⟨d, hd⟩ : ∃ d : Int, d = (m : Int) - (lag : Int) := ⟨_, rfl⟩
            have e1 : IntKind.i64.wrap ((m : Int) - (lag : Int)) = d := by rw [IntWalk.i64_in _ (by omega)]; omega
            have HD := Lib.hid hd; clear hd
            go_wp2_with fail
            go_loopw [10, 17] (fun s10 s17 wz => ∃ (i : Nat) (qs : List (Int × Int)) (ao : Option Addr) (cp : Nat), i ≤ m ∧ s17 = .int .i64 i ∧ s10 = .slice ao i cp ∧ qs.length = i ∧ RowAt wz 107 2 (.slice ao i cp) i (flat qs) ∧ (∀ p ∈ qs, U64 p.1 ∧ U64 p.2) ∧ BI w n S b g wz A3 ∧ RowAt wz 109 1 A3.lv (vs.length + 1) (vs ++ [.slice (some ⟨rg, ro, none⟩) R.length rcp]) ∧ RowAt wz 115 22 (.slice (some ⟨rg, ro, none⟩) R.length rcp) R.length (flatR R) ∧ ∀ q, (Value.slice ao i cp).ownBlock = some q → w.heap.size ≤ q) (fun _ s17 _ => m - (intOf s17).toNat)
            case atStart => exact ⟨0, [], none, 0, by omega, rfl, rfl, rfl, RowAt.nil _ _ _, by simp, H4.out.1, H4.out.2.1, H4.out.2.2.1, fun q hq => by cases hq⟩
            case round =>
              obtain ⟨i, qs, ao2, cp2, hi, rfl, rfl, hql, hrow, hqu, hBz, hvz, hRz, hown⟩ := hrel
              have HZ := Lib.hid (And.intro hql (And.intro hrow (And.intro hqu (And.intro hBz (And.intro hvz (And.intro hRz hown)))))); clear hql hrow hqu hBz hvz hRz hown
              obtain ⟨c, hc⟩ : ∃ c : Bool, c = decide (i < m ∧ (i = 0 ∨ (i : Int) < d)) := ⟨_, rfl⟩
              have HC := Lib.hid hc; clear hc
              go_upto_region 27 with fail
              go_cut [131] from 116 to 131 (fun s131 wx => s131 = .bool c ∧ wr = wx)
              case first =>
                by_cases hlt : i < m
                · have hiI : (i : Int) < (m : Int) := by omega
                  by_cases h0 : i = 0
                  · have b0 : ((i : Int) == 0) = true := by simp [h0]
                    have HCT := Lib.hid (show c = true by rw [HC.out]; simp; omega)
                    clear h0
                    go_wp2_with fail
                    go_meet
                    exact ⟨by rw [HCT.out], rfl⟩
                  · have b0 : ((i : Int) == 0) = false := by simp; omega
                    by_cases hdl : (i : Int) < d
                    · have HCT := Lib.hid (show c = true by rw [HC.out]; simp; omega)
                      clear h0
                      go_wp2_with fail
                      go_meet
                      exact ⟨by rw [HCT.out], rfl⟩
                    · have HCT := Lib.hid (show c = false by rw [HC.out]; simp; omega)
                      clear h0
                      go_wp2_with fail
                      go_meet
                      exact ⟨by rw [HCT.out], rfl⟩
                · have hiI : ¬ (i : Int) < (m : Int) := by omega
                  have HCT := Lib.hid (show c = false by rw [HC.out]; simp; omega)
                  go_wp2_with fail
                  go_meet
                  exact ⟨by rw [HCT.out], rfl⟩
              case rest =>
              obtain ⟨rfl, rfl⟩ := hcut
              cases c with
              | true =>
                have hit : i < m ∧ (i = 0 ∨ (i : Int) < d) := by have := HC.out; simpa using this.symm
                have hiI : (i : Int) < (m : Int) := by omega
                go_upto_region 29 with fail
                obtain ⟨hql, hrow, hqu, hBz, hvz, hRz, hown⟩ := HZ.out
                obtain ⟨⟨p0, N0⟩, hx0⟩ : ∃ x, R[i]? = some x := ⟨_, List.getElem?_eq_getElem (by have := HM.out.1; omega)⟩
                have hok : ∀ x ∈ R, x.2.Ok := fun x hx => (H4.out.2.2.2.1 x hx).1
                obtain ⟨hN0, hp0⟩ := H4.out.2.2.2.1 _ (List.mem_of_getElem? hx0)
                dsimp only at hN0 hp0
                have hlow := hN0.low
                have hAn := HR.out.2.2.1.n
                obtain ⟨y0, hy0⟩ : ∃ y0, y0 = N0.low := ⟨_, rfl⟩
                have c0 : wr.cell? ⟨rg, ro + i * 22, none⟩ = some (.int .u64 p0) := by
                  have := hRz.cell (j := 22 * i + 0) (u := .int .u64 p0) (by rw [flatR_get R i 0 (p0, N0) hok hx0 (by omega)]; rfl)
                  rwa [Nat.add_zero, Nat.mul_comm] at this
                have c1 : wr.cell? ⟨rg, ro + i * 22 + 1 + 1, none⟩ = some (.int .u64 y0) := by
                  have := hRz.cell (j := 22 * i + 2) (u := .int .u64 y0) (by rw [flatR_get R i 2 (p0, N0) hok hx0 (by omega), hy0]; rfl)
                  rw [show ro + (22 * i + 2) = ro + i * 22 + 1 + 1 by omega] at this
                  exact this
                have hy0u : U64 y0 := by rw [hy0]; exact hlow
                have hpn : p0 ≤ n := by omega
                have hbe : ∀ wx, (Instr.build 107 #[(0, .int .u64 y0), (1, .int .u64 p0)]).run Tryz.prog wx = .ok (.agg #[.int .u64 y0, .int .u64 p0]) wx := fun wx => run_build wx _ _ _ (built_entry y0 p0)
                have hbs := one_entry (X := #[.int .u64 y0, .int .u64 p0]) rfl wr.drew
                obtain ⟨i1, hi1, hy0', hy1, hy2⟩ := info_parts entryZero
                obtain ⟨w2, hw2⟩ : ∃ w2, w2 = wr.drew.alloc (.cells #[.int .u64 y0, .int .u64 p0] 107) := ⟨_, rfl⟩
                have hk2 : Keeps [] wr w2 := by rw [hw2]; exact (Keeps.drew wr).trans (Keeps.alloc _ _) (by simp)
                obtain ⟨v', w8, hrun, hrow', hgrow, hblk', hsl⟩ := run_append_row (P := Tryz.prog) (w := w2) 103 103 107 i1 _ 2 16 Tryz.underlying103 hi1 hy0' hy1 hy2 rfl (hrow.same fun q hq => hk2.block q (hrow.lt hq) (by simp)) (xv := .slice (some ⟨wr.heap.size, 0, none⟩) 1 1) (m := 1) (news := [.int .u64 y0, .int .u64 p0])
                  (.inr ⟨⟨wr.heap.size, 0, none⟩, 1, rfl, rfl, fun i u hi => by
                    have hc := alloc_new (w := wr.drew) (o := .cells #[.int .u64 y0, .int .u64 p0] 107)
                    rw [← hw2] at hc
                    match i, hi with
                    | 0, hi => cases hi; exact cell_of hc rfl
                    | 1, hi => cases hi; exact cell_of hc rfl⟩) rfl (by intro u hu; simp only [List.mem_cons, List.not_mem_nil, or_false] at hu; rcases hu with rfl | rfl <;> rfl) (by unfold maxLen; omega) (by omega)
                obtain ⟨g5, o5, c5, rfl⟩ := hsl (by omega)
                have hs2 : wr.heap.size ≤ w2.heap.size := hk2.size
                have HX := Lib.hid (And.intro hrow' (And.intro hgrow (And.intro hblk' (And.intro hk2 hs2))))
                have hal : wr.drew.alloc (.cells #[.int .u64 y0, .int .u64 p0] 107) = w2 := hw2.symm
                have HY := Lib.hid hy0u
                clear hql hrow hqu hBz hvz hRz hown hx0 hok hN0 hp0 hlow hAn hy0 hy0u hit hw2 hrow' hgrow hblk' hk2 hsl hs2
                go_region
                go_wp2_with fail
                obtain ⟨hrow', hgrow, hblk', hk2, hs2⟩ := HX.out
                have hfin : BI w n S b g w8 A3 ∧ RowAt w8 109 1 A3.lv (vs.length + 1) (vs ++ [.slice (some ⟨rg, ro, none⟩) R.length rcp]) ∧ RowAt w8 115 22 (.slice (some ⟨rg, ro, none⟩) R.length rcp) R.length (flatR R) ∧ ∀ q, (Value.slice (some ⟨g5, o5, none⟩) (i + 1) c5).ownBlock = some q → w.heap.size ≤ q := by
                  obtain ⟨hql, hrow, hqu, hBz, hvz, hRz, hown⟩ := HZ.out
                  have kx : Keeps (Value.slice ao2 i cp2).ownBlock.toList wr w8 := (hk2.mono (G := (Value.slice ao2 i cp2).ownBlock.toList) (by simp)).trans ((Keeps.grown hgrow).mono (G := (Value.slice ao2 i cp2).ownBlock.toList) (fun j hj => .inl (by simp only [Option.mem_toList] at hj ⊢; exact hj))) (fun j hj => .inl hj)
                  refine ⟨hBz.app hrow hown kx, row_keep hvz hrow (by decide) kx, row_keep hRz hrow (by decide) kx, fun q hq => ?_⟩
                  rcases hblk' with h1 | ⟨g', h1, h2⟩
                  · exact hown q (by rw [← h1]; exact hq)
                  · have e : q = g' := by rw [h1] at hq; exact (Option.some.inj hq).symm
                    have := hBz.keep.size
                    omega
                have HF := Lib.hid (And.intro hfin hrow'); clear hfin hrow' hgrow hblk' hbe hbs
                go_roundw
                case rel =>
                  obtain ⟨⟨hB8, hv8, hR8, hown8⟩, hrow8⟩ := HF.out
                  obtain ⟨hql, _, hqu, _⟩ := HZ.out
                  have hfl : flat (qs ++ [(y0, (p0 : Int))]) = flat qs ++ [Value.int .u64 y0, Value.int .u64 p0] := flat_snoc qs y0 p0
                  exact ⟨i + 1, qs ++ [(y0, (p0 : Int))], some ⟨g5, o5, none⟩, c5, by omega, by go_num, rfl, by simp [hql], by rw [hfl]; exact hrow8, fun p hp => (List.mem_append.1 hp).elim (hqu p) (fun hp => by simp at hp; subst hp; exact ⟨HY.out, by constructor <;> dsimp only <;> omega⟩), hB8, hv8, hR8, hown8⟩
                case measure => simp [intOf]; omega
              | false =>
                have hit : ¬ (i < m ∧ (i = 0 ∨ (i : Int) < d)) := by have := HC.out; simpa using this.symm
                go_wp2_with fail
                go_meet
                obtain ⟨hql, hrow, hqu, hBz, hvz, hRz, hown⟩ := HZ.out
                rw [← hql] at hrow hown ⊢
                exact ⟨qs, ao2, cp2, rfl, hrow, hqu, by omega, by omega, hBz, hvz, hRz, hown⟩
          case rest =>
          obtain ⟨qs, ao2, cp2, rfl, hrow, hqu, hq0, hq64, hBz, hvz, hRz, hown⟩ := hcut
          have HRz := Lib.hid hRz; clear hRz
          obtain ⟨t, ht⟩ : ∃ t, t = qs.length := ⟨_, rfl⟩
          have HZ := Lib.hid (And.intro hrow (And.intro hqu (And.intro hBz (And.intro hvz (And.intro hown ht))))); clear hrow hqu hBz hvz hown
          rw [← ht] at hq0 hq64 ⊢
          clear ht
          by_cases ht1 : t = 1
          · have b3 : ((t : Int) == 1) = true := by simp [ht1]
            clear ht1
            go_wp2_with fail
            go_meet
            obtain ⟨hrow, hqu, hBz, hvz, hown, ht⟩ := HZ.out
            exact ⟨A3, vs, _, R, hBz, HR.out.1, hvz, HRz.out, fun x hx => by have h1 := H4.out.2.2.2.1 x hx; have h2 := HR.out.2.2.1.n; exact ⟨h1.1, by omega⟩, H4.out.2.2.2.2.1⟩
          · have b3 : ((t : Int) == 1) = false := by simp; omega
            clear ht1
            go_wp2_with fail
            go_roundw
            case rel =>
              obtain ⟨hrow, hqu, hBz, hvz, hown, ht⟩ := HZ.out
              have hk := HM.out.2
              rw [ht]
              refine ⟨qs, A3, vs ++ [.slice (some ⟨rg, ro, none⟩) R.length rcp], by simp; omega, by rw [List.length_append, hk]; go_num, hrow, hqu, fun _ => by omega, by omega, hBz, by rw [List.length_append]; exact hvz, fun u hu => ?_, hown⟩
              rcases List.mem_append.1 hu with hu | hu
              · exact HR.out.2.2.2.1 u hu
              · simp only [List.mem_singleton] at hu; subst hu; rfl
            case measure => simp [intOf]; have := HM.out.2; omega
  case rest =>
  obtain ⟨A2, vs, rv, R, hBI, hvl, hvs, hR, hRo, hR1⟩ := hcut
  obtain ⟨lao, lcp, hlv, hlc, hlm⟩ := row_shape hvs
  rw [hlv] at hvs
  obtain ⟨lg, lo, rfl⟩ := row_addr hvs (by omega)
  obtain ⟨rao, rcp, rfl, _, _⟩ := row_shape hR
  obtain ⟨rg, ro, rfl⟩ := row_addr hR hR1
  obtain ⟨k1, hk1⟩ : ∃ k1, k1 = vs.length + 1 := ⟨_, rfl⟩
  obtain ⟨k, hk0⟩ : ∃ k, k = vs.length := ⟨_, rfl⟩
  obtain ⟨m, hm⟩ : ∃ m, m = R.length := ⟨_, rfl⟩
  have c7 : wc.cell? ⟨b, 7, none⟩ = some (.slice (some ⟨lg, lo, none⟩) k1 lcp) := by rw [hk1, ← hlv]; exact hBI.at_.cells.2.2.2.2.2.2.2
  have cr : wc.cell? ⟨lg, lo + k, none⟩ = some (.slice (some ⟨rg, ro, none⟩) m rcp) := by rw [hk0, hm]; exact hvs.cell (j := vs.length) (by simp)
  obtain ⟨⟨p0, N0⟩, hx0⟩ : ∃ x, R[0]? = some x := ⟨_, List.getElem?_eq_getElem (by omega)⟩
  have hok : ∀ x ∈ R, x.2.Ok := fun x hx => (hRo x hx).1
  have c0 : wc.cell? ⟨rg, ro, none⟩ = some (.int .u64 p0) := by
    have := hR.cell (j := 22 * 0 + 0) (u := .int .u64 p0) (by rw [flatR_get R 0 0 (p0, N0) hok hx0 (by omega)]; rfl)
    simpa using this
  have hp0 : p0 + 192 ≤ n := (hRo _ (List.mem_of_getElem? hx0)).2
  have e1 : IntKind.i64.wrap ((k1 : Int) - 1) = (k : Int) := by rw [IntWalk.i64_in _ (by omega)]; omega
  have l1 : (k : Int) < (k1 : Int) := by omega
  have l0 : 0 < m := by omega
  have HB := Lib.hid hBI
  clear hBI hvl hvs hR hRo hR1 hlv hk1 hk0 hm hok hx0 hlc
  go_wp2_with fail
  go_quiet (fail)
  have hB2 := HB.out.same (Keeps.drewBy wc nq)
  have HP := Lib.hid (put_any hB2.at_ 16 p0 ⟨by omega, by omega⟩ (by rw [hB2.n]; omega))
  have H2 := Lib.hid hB2; clear hB2
  go_wp2_with fail
  refine HP.out.mono ?_
  rintro e w5 ⟨rfl, hA5, hk5⟩
  have H5 := Lib.hid (H2.out.put hA5 hk5); clear hA5 hk5
  go_wp2_with fail
  go_ret
  have hB5 := H5.out
  exact ⟨hB5.keep, .inr ⟨b, A2, rfl, hB5.at_, hB5.S, hB5.hb, by rw [hB5.g]; exact hB5.hg⟩⟩
end Go.Proofs.YtdbbbaallalhoaaGreat.ar
