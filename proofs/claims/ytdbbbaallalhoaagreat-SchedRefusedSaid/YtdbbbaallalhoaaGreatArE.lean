/-
  PROVED HERE: how a level of nodes is laid into an arena (level). Conditions: few entries; of a level above the leaves' one or more.
-/
import Derived.Test.YtdbbbaallalhoaaGreatArD
import Derived.Deep.CutBlock
import Derived.Great.BuildSlice
namespace Go.Proofs.YtdbbbaallalhoaaGreat.ar
open Go.RowKit Go.Proofs.YtdbbbaallalhoaaGreat.pm
set_option linter.unusedVariables false
attribute [-go_sem] Instr.build Instr.buildSlice

def LevelPost (w : World) (b : Nat) (A : Ar) (lev n : Nat) (vs : List Value) (e : Ending) (w' : World) : Prop :=
  Keeps ([b, A.g] ++ A.lv.ownBlock.toList) w w' ∧ (e = .returned (.bool false) ∨ (e = .returned (.bool true) ∧ ∃ (A' : Ar) (rv : Value) (R : List (Nat × Nd)), ArAt w' b A' ∧ ArOk A' ∧ A'.g = A.g ∧ A'.n = A.n ∧ A'.S = A.S ∧ (∀ g, A'.lv.ownBlock = some g → A.lv.ownBlock = some g ∨ w.heap.size ≤ g) ∧ RowAt w' 109 1 A'.lv (lev + 1) (vs ++ [rv]) ∧ RowAt w' 115 22 rv R.length (flatR R)
    ∧ (∀ x ∈ R, x.2.Ok ∧ x.1 + 192 ≤ A.n) ∧ 1 ≤ R.length ∧ R.length ≤ max 1 n))

/-- A node at first. -/
def nd0 (l a : Int) : Nd := ⟨l, 0, 0, 0, a, List.replicate 8 0, List.replicate 8 0⟩
theorem nd0_ok {l a : Int} (hl : 0 ≤ l ∧ l ≤ 15) (ha : U64 a) : (nd0 l a).Ok :=
  ⟨hl, ⟨by simp [nd0], by simp [nd0]⟩, ⟨by simp [nd0], by simp [nd0]⟩, ⟨by simp [nd0], by simp [nd0]⟩, ha, ⟨by simp [nd0], fun x hx => by rw [List.eq_of_mem_replicate hx]; unfold U64; omega⟩, ⟨by simp [nd0], fun x hx => by rw [List.eq_of_mem_replicate hx]; unfold U64; omega⟩⟩
set_option maxRecDepth 1000000 in
theorem built_nd (l a : Int) : Tryz.prog.built 113 [(0, .int .i64 l), (4, .int .u64 a)] = some (nd0 l a).arr := by kernel_rfl
set_option maxRecDepth 1000000 in
theorem built_at (l a c : Int) : Tryz.prog.built 115 [(0, .int .u64 c), (1, .agg (nd0 l a).arr)] = some (#[Value.int .u64 c] ++ (nd0 l a).arr) := by kernel_rfl
def z22 : Array Value := #[Value.int IntKind.u64 0, Value.int IntKind.i64 0, Value.int IntKind.u64 0, Value.int IntKind.u64 0, Value.int IntKind.u64 0, Value.int IntKind.u64 0, Value.int IntKind.u64 0, Value.int IntKind.u64 0, Value.int IntKind.u64 0, Value.int IntKind.u64 0, Value.int IntKind.u64 0, Value.int IntKind.u64 0, Value.int IntKind.u64 0, Value.int IntKind.u64 0, Value.int IntKind.u64 0, Value.int IntKind.u64 0, Value.int IntKind.u64 0, Value.int IntKind.u64 0, Value.int IntKind.u64 0, Value.int IntKind.u64 0, Value.int IntKind.u64 0, Value.int IntKind.u64 0]
theorem store_at0 (w : World) {A : Array Value} (hA : A.size = 22) (h1 : ∀ v ∈ A.toList, v.oneCell' = true) :
    (storeCells ⟨w.heap.size, 0, none⟩ A.toList).run Tryz.prog (w.alloc (.cells z22 115)) = .ok () (w.alloc (.cells A 115)) := by
  have hb : (w.alloc (.cells z22 115)).heap[w.heap.size]? = some (.cells z22 115) := (MapKept.heap_alloc w _).1
  have := run_storeCells_from (P := Tryz.prog) w.heap.size 115 A.toList 0 z22 (w.alloc (.cells z22 115)) hb (by simp only [Array.length_toList, Nat.zero_add, hA]; rfl) h1
  rw [List.take_zero, List.nil_append, Array.toArray_toList] at this
  exact this.trans (congrArg (Result.ok ()) (setRow_alloc w 115 _ A))

/-- A load whose run is known, in a region that draws its order. -/
theorem wpStill_load {P : Program} {ops : Array Oper} {w : World} {Q : Act → Prop} {rest : List Oper} {o : Oper} {a : Act} {v : Value} (hgd : o.guard = none) (ty : TypeId) (x : Operand) (ad : Addr) (ho : o.op = .load ty x)
    (hx : a.eval x = .pointer (some ad)) (hl : (loadVar ty ad).run P w = .ok v w) (h : wpStill P ops w Q rest (a.put o.dst v)) : wpStill P ops w Q (o :: rest) a := by
  have hrun : (execOp a.eval o).run P w = .ok (.value v) w := exec_load ho hx hl
  have hw : Region.wanted o (yielded ops a.tmps) = true := by simp [Region.wanted, hgd]
  unfold wpStill
  rw [if_pos hw, Oper.still, hrun, Oper.stillUpon_value]
  exact h

theorem row_shape {w : World} {T : TypeId} {sz n : Nat} {v : Value} {xs : List Value} (h : RowAt w T sz v n xs) : ∃ ao cp, v = .slice ao n cp ∧ n ≤ cp ∧ cp ≤ maxLen := by
  rcases h.2 with ⟨rfl, rfl⟩ | ⟨g, off, cap, cur, rfl, _, h1, h2, _⟩
  · exact ⟨none, 0, rfl, Nat.le_refl _, by unfold maxLen; omega⟩
  · exact ⟨_, _, rfl, h1, h2⟩
theorem row_addr {w : World} {T : TypeId} {sz n cp : Nat} {ao : Option Addr} {xs : List Value} (h : RowAt w T sz (.slice ao n cp) n xs) (hn : 0 < n) : ∃ g off, ao = some ⟨g, off, none⟩ := by
  rcases h.2 with ⟨e, h0⟩ | ⟨g, off, cap, cur, e, _⟩
  · omega
  · obtain ⟨e1, _, _⟩ := Value.slice.inj e; exact ⟨_, _, e1⟩

theorem flat_take : ∀ (l : List (Int × Int)) (n : Nat), flat (l.take n) = (flat l).take (2 * n)
  | [], n => by simp [flat]
  | _ :: _, 0 => by simp [flat]
  | p :: r, n + 1 => by
    have h := flat_take r n
    rw [show 2 * (n + 1) = 2 * n + 1 + 1 by omega]
    simp only [List.take_succ_cons, flat, h]
theorem row_sub {w : World} {T : TypeId} {g off n cap f t : Nat} {xs : List Value} (h : RowAt w T 2 (.slice (some ⟨g, off, none⟩) n cap) n xs) (hft : f ≤ t) (htn : t ≤ n) :
    RowAt w T 2 (.slice (some ⟨g, off + f * 2, none⟩) (t - f) (cap - f)) (t - f) ((xs.drop (2 * f)).take (2 * (t - f))) := by
  obtain ⟨hl, ⟨e, _⟩ | ⟨g', off', cap', cur, e, hg, h1, h2, h3, ht⟩⟩ := h
  · cases e
  · cases e
    refine ⟨by simp; omega, .inr ⟨g, off + f * 2, cap - f, cur, rfl, hg, by omega, by omega, by omega, ?_⟩⟩
    rw [← ht, List.drop_take, List.take_take, List.drop_drop]
    congr 1
    · omega
    · congr 1; omega

theorem set_low (p : Nat) (N : Nd) (y : Int) : (atList (p, N)).toArray.setIfInBounds 2 (.int .u64 y) = (atList (p, { N with low := y })).toArray := by simp [atList, Nd.list]
theorem set_fi (p : Nat) (N : Nd) (y : Int) : (atList (p, N)).toArray.setIfInBounds 5 (.int .u64 y) = (atList (p, { N with fi := y })).toArray := by simp [atList, Nd.list]
theorem set_key {p : Nat} {N : Nd} (h : N.Ok) {i : Nat} (hi : i < 8) (y : Int) : (atList (p, N)).toArray.setIfInBounds (6 + i) (.int .u64 y) = (atList (p, { N with ks := N.ks.set i y })).toArray := by
  have hk := h.ks.1
  simp only [List.setIfInBounds_toArray, atList, Nd.list]
  congr 1
  rw [show 6 + i = (5 + i) + 1 by omega, List.set_cons_succ, List.set_append_right _ _ (by simp), List.set_append_left _ _ (by simp [hk]; omega)]
  simp [List.map_set]
theorem set_ptr {p : Nat} {N : Nd} (h : N.Ok) {i : Nat} (hi : i < 8) (y : Int) : (atList (p, N)).toArray.setIfInBounds (14 + i) (.int .u64 y) = (atList (p, { N with ps := N.ps.set i y })).toArray := by
  have hk := h.ks.1
  simp only [List.setIfInBounds_toArray, atList, Nd.list]
  congr 1
  rw [show 14 + i = (13 + i) + 1 by omega, List.set_cons_succ, List.set_append_right _ _ (by simp; omega), List.set_append_right _ _ (by simp [hk]; omega)]
  simp [List.map_set, hk, show 13 + i - 5 - 8 = i by omega]
set_option maxRecDepth 1000000 in
theorem atInfo2 : (Tryz.prog.info? 115).map (fun i => (i.size, i.bytes, i.zero.isSome)) = some (22, 176, true) := by kernel_rfl
set_option maxRecDepth 1000000 in
theorem atZero : (Tryz.prog.info? 115).map (fun i => (i.zero, i.size, i.bytes)) = some (some (.agg z22), 22, 176) := by kernel_rfl
theorem one_at {X : Array Value} (hX : X.size = 22) (w : World) : (Instr.buildSlice 109 1 #[(0, .agg X)]).run Tryz.prog w = .ok (.slice (some ⟨w.heap.size, 0, none⟩) 1 1) (w.alloc (.cells X 115)) := by
  obtain ⟨i0, hi0, hz0, hz1, hz2⟩ := info_parts atZero
  refine run_buildSlice w 109 115 1 _ X i0 (.agg z22) Tryz.underlying109 hi0 hz0 (by rw [hz1]; decide) (by rw [hz1]; decide) ?_
  have := Go.Great.fill_whole (s := i0.size) (by rw [hz1]; decide) [Value.agg X] ((Array.range (1 * i0.size)).map ((Value.agg z22).cells[· % (Value.agg z22).cells.size]!)) (fun v hv => by simp at hv; subst hv; rw [hz1]; exact hX) (by simp)
  simp only [List.zipIdx_cons, List.zipIdx_nil, List.map_cons, List.map_nil, List.flatMap_cons, List.flatMap_nil, List.append_nil] at this
  exact this.trans (congrArg some (by simp [Value.cells]))

theorem row_apart_blk {w : World} {T U : TypeId} {s n b : Nat} {v : Value} {xs : List Value} {c : Array Value} (h : RowAt w T s v n xs) (hb : w.heap[b]? = some (.cells c U (0, 0))) (hne : T ≠ U) : v.ownBlock ≠ some b := by
  intro e
  rcases h.2 with ⟨rfl, _⟩ | ⟨g, off, cap, cur, rfl, hg, _⟩
  · cases e
  · cases e
    rw [hb] at hg
    injection hg with hg
    injection hg with _ hg
    exact hne hg.symm
theorem row_apart {w : World} {T U : TypeId} {s s2 n n2 c2 g2 o2 : Nat} {v : Value} {xs ys : List Value} (h : RowAt w T s v n xs) (h2 : RowAt w U s2 (.slice (some ⟨g2, o2, none⟩) n2 c2) n2 ys) (hne : T ≠ U) : v.ownBlock ≠ some g2 := by
  rcases h2.2 with ⟨e, _⟩ | ⟨g, off, cap, cur, e, hg, _⟩
  · cases e
  · cases e; exact row_apart_blk h hg hne
set_option maxRecDepth 1000000 in
theorem atsZero : (Tryz.prog.info? 109).map (fun i => (i.zero, i.size, i.bytes)) = some (some (.slice none 0 0), 1, 24) := by kernel_rfl
theorem one_ats (v : Value) (hv : v.cells = #[v]) (w : World) : (Instr.buildSlice 56 1 #[(0, v)]).run Tryz.prog w = .ok (.slice (some ⟨w.heap.size, 0, none⟩) 1 1) (w.alloc (.cells #[v] 109)) := by
  obtain ⟨i0, hi0, hz0, hz1, hz2⟩ := info_parts atsZero
  refine run_buildSlice w 56 109 1 _ #[v] i0 (.slice none 0 0) Tryz.underlying56 hi0 hz0 (by rw [hz1]; decide) (by rw [hz1]; decide) ?_
  have := Go.Great.fill_whole (s := i0.size) (by rw [hz1]; decide) [v] ((Array.range (1 * i0.size)).map ((Value.slice none 0 0).cells[· % (Value.slice none 0 0).cells.size]!)) (fun u hu => by simp at hu; subst hu; rw [hz1, hv]; rfl) (by simp)
  simp only [List.zipIdx_cons, List.zipIdx_nil, List.map_cons, List.map_nil, List.flatMap_cons, List.flatMap_nil, List.append_nil] at this
  exact this.trans (congrArg some (by rw [hv]))

/-- A node's variable. -/
def XAt (bx p lev : Nat) (N : Nd) (W : World) : Prop := W.heap[bx]? = some (.cells (atList (p, N)).toArray 115 (0, 0)) ∧ N.Ok ∧ N.lv = lev
theorem XAt.has {bx p lev : Nat} {N : Nd} {W : World} (h : XAt bx p lev N W) {i : Nat} (hi : i < 22) : ∃ o, W.cell? ⟨bx, i, none⟩ = some o ∧ W.frozen? ⟨bx, i, none⟩ = false :=
  ⟨_, cell_of h.1 (by rw [List.getElem?_toArray]; exact List.getElem?_eq_getElem (by rw [atList_length h.2.1]; exact hi)), free_of h.1⟩
theorem XAt.low {bx p lev : Nat} {N : Nd} {W : World} (h : XAt bx p lev N W) {y : Int} (hy : U64 y) : XAt bx p lev { N with low := y } (W.setCell ⟨bx, 2, none⟩ (.int .u64 y)) :=
  ⟨by rw [set_same h.1, set_low], { h.2.1 with low := hy }, h.2.2⟩
theorem XAt.fi {bx p lev : Nat} {N : Nd} {W : World} (h : XAt bx p lev N W) {y : Int} (hy : U64 y) : XAt bx p lev { N with fi := y } (W.setCell ⟨bx, 5, none⟩ (.int .u64 y)) :=
  ⟨by rw [set_same h.1, set_fi], { h.2.1 with fi := hy }, h.2.2⟩
theorem mem_set_u64 {l : List Int} {i : Nat} {y : Int} (h : ∀ x ∈ l, U64 x) (hy : U64 y) : ∀ x ∈ l.set i y, U64 x := fun x hx => by
  rcases List.mem_or_eq_of_mem_set hx with hx | rfl
  · exact h x hx
  · exact hy
theorem XAt.key {bx p lev : Nat} {N : Nd} {W : World} (h : XAt bx p lev N W) {i : Nat} (hi : i < 8) {y : Int} (hy : U64 y) : XAt bx p lev { N with ks := N.ks.set i y } (W.setCell ⟨bx, 6 + i, none⟩ (.int .u64 y)) :=
  ⟨by rw [set_same h.1, set_key h.2.1 hi], { h.2.1 with ks := ⟨by simp [h.2.1.ks.1], mem_set_u64 h.2.1.ks.2 hy⟩ }, h.2.2⟩
theorem XAt.ptr {bx p lev : Nat} {N : Nd} {W : World} (h : XAt bx p lev N W) {i : Nat} (hi : i < 8) {y : Int} (hy : U64 y) : XAt bx p lev { N with ps := N.ps.set i y } (W.setCell ⟨bx, 14 + i, none⟩ (.int .u64 y)) :=
  ⟨by rw [set_same h.1, set_ptr h.2.1 hi], { h.2.1 with ps := ⟨by simp [h.2.1.ps.1], mem_set_u64 h.2.1.ps.2 hy⟩ }, h.2.2⟩
theorem XAt.keeps {bx p lev : Nat} {N : Nd} {W W' : World} {F : List Nat} (h : XAt bx p lev N W) (hk : Keeps F W W') (hF : bx ∉ F) : XAt bx p lev N W' := ⟨(hk.block bx (lt_of h.1) hF).trans h.1, h.2⟩

set_option maxRecDepth 100000 in
set_option maxHeartbeats 4000000 in
theorem level_any {w : World} {b : Nat} {A : Ar} (h : ArAt w b A) (ok : ArOk A) (lev per : Nat) (hlev : lev ≤ 15) (hp2 : 2 ≤ per) (hp8 : per ≤ 8) {lv : Value} {ps : List (Int × Int)} (hl : RowAt w 107 2 lv ps.length (flat ps)) (hpu : ∀ p ∈ ps, U64 p.1 ∧ U64 p.2)
    (hlb : ∀ g, lv.ownBlock = some g → g ≠ b ∧ g ≠ A.g) (hn0 : 0 < lev → 0 < ps.length) (hn : ps.length ≤ 64) {vs : List Value} (hvs : RowAt w 109 1 A.lv lev vs) (hv1 : ∀ u ∈ vs, u.oneCell' = true) :
    Calls Tryz.prog 36 #[.pointer (some ⟨b, 0, none⟩), .int .i64 lev, lv, .int .i64 per] w (LevelPost w b A lev ps.length vs) := by
  obtain ⟨ao, cp, rfl, hcp, hcm⟩ := row_shape hl
  unfold maxLen at hcm
  obtain ⟨n, hnn⟩ : ∃ n, n = ps.length := ⟨_, rfl⟩
  rw [← hnn] at hl hn0 hn hlb hcp ⊢
  have HL := Lib.hid (And.intro hl (And.intro hpu (And.intro hnn (And.intro hn0 hlb))))
  have HA := Lib.hid (And.intro h (And.intro ok (And.intro hvs hv1)))
  clear h ok hl hpu hn0 hnn hvs hv1 hlb
  go_enter Tryz.func36, Tryz.ntmps36
  go_upto_block 0 with fail
  go_cut [9] from 10 to 103 (fun s9 wx => ∃ (A1 : Ar) (R : List (Nat × Nd)) (ao9 : Option Addr) (cp9 : Nat), s9 = .slice ao9 R.length cp9 ∧ ArAt wx b A1 ∧ ArOk A1 ∧ ArSame A A1 ∧ RowAt wx 115 22 (.slice ao9 R.length cp9) R.length (flatR R) ∧ (∀ x ∈ R, x.2.Ok ∧ x.1 + 192 ≤ A.n) ∧ 1 ≤ R.length ∧ R.length ≤ max 1 n ∧ Keeps [b, A.g] w wx ∧ ∀ g, (Value.slice ao9 R.length cp9).ownBlock = some g → w.heap.size ≤ g)
  case first =>
    go_wp2_with fail
    go_loopw [9, 10] (fun s9 s10 wr => ∃ (f : Nat) (A1 : Ar) (R : List (Nat × Nd)) (ao9 : Option Addr) (cp9 : Nat), s9 = .slice ao9 R.length cp9 ∧ s10 = .int .i64 f ∧ (f = 0 ∨ f < n) ∧ ArAt wr b A1 ∧ ArOk A1 ∧ ArSame A A1 ∧ RowAt wr 115 22 (.slice ao9 R.length cp9) R.length (flatR R) ∧ (∀ x ∈ R, x.2.Ok ∧ x.1 + 192 ≤ A.n) ∧ R.length ≤ f ∧ Keeps [b, A.g] w wr ∧ ∀ g, (Value.slice ao9 R.length cp9).ownBlock = some g → w.heap.size ≤ g) (fun _ s10 _ => n + 1 - (intOf s10).toNat)
    case atStart =>
      obtain ⟨h, ok, hvs, hv1⟩ := HA.out
      exact ⟨0, A, [], none, 0, rfl, rfl, .inl rfl, h, ok, ⟨rfl, rfl, rfl, rfl⟩, RowAt.nil _ _ _, by simp, by simp, Keeps.refl _ _, fun g e => by cases e⟩
    case round =>
      obtain ⟨f, A1, R, ao9, cp9, rfl, rfl, hf, hA1, ok1, sm1, hR, hRo, hRl, hkw, hown⟩ := hrel
      obtain ⟨t, ht⟩ : ∃ t, t = min (f + per) n := ⟨_, rfl⟩
      have hft : f ≤ t := by omega
      have htn : t ≤ n := by omega
      have e1 : IntKind.i64.wrap ((f : Int) + (per : Int)) = ((f + per : Nat) : Int) := by rw [IntWalk.i64_in _ (by omega)]; omega
      obtain ⟨q, hq⟩ : ∃ q, q = f + per := ⟨_, rfl⟩
      rw [← hq] at e1
      have hm : (if n < q then (n : Int) else (q : Int)) = (t : Int) := by split <;> omega
      have HNN := Lib.hid (newNode_any hA1 ok1)
      have HR := Lib.hid (And.intro hA1 (And.intro ok1 (And.intro sm1 (And.intro hR (And.intro hRo (And.intro hRl (And.intro hkw hown)))))))
      have HT := Lib.hid (And.intro ht hq)
      clear hA1 ok1 sm1 hR hRo hRl hkw hown ht hq
      go_upto_region 3 with fail
      go_cut [24] from 17 to 24 (fun s24 wx => s24 = .bool true ∧ wr = wx)
      case first =>
        by_cases hfn : f < n
        · have hfI : (f : Int) < (n : Int) := by omega
          go_wp2_with fail
          go_meet
          exact ⟨rfl, rfl⟩
        · obtain rfl : f = 0 := by omega
          have hfI : ¬ ((0 : Nat) : Int) < (n : Int) := by omega
          go_wp2_with fail
          go_meet
          exact ⟨rfl, rfl⟩
      case rest =>
      obtain ⟨rfl, rfl⟩ := hcut
      go_upto_region 6 with fail
      clear hm
      go_wp2_with fail
      refine HNN.out.mono ?_
      rintro e w1 ⟨A2, at_, rfl, hA2, ok2, sm2, hk2, hat⟩
      have H2 := Lib.hid (And.intro hA2 (And.intro ok2 (And.intro sm2 hk2))); clear hA2 ok2 sm2 hk2
      by_cases hz : at_ = 0
      · subst hz
        go_wp2_with fail
        go_ret
        obtain ⟨hA1, ok1, sm1, hR, hRo, hRl, hkw, hown⟩ := HR.out
        obtain ⟨hA2, ok2, sm2, hk2⟩ := H2.out
        rw [sm1.g] at hk2
        exact ⟨(hkw.trans hk2 (fun i hi => .inl hi)).mono (fun i hi => .inl (List.mem_append_left _ hi)), .inl rfl⟩
      · have b0 : ((at_ : Int) == 0) = false := by simp; omega
        have ha : at_ + 192 ≤ A.n := by
          obtain ⟨_, _, sm1, _⟩ := HR.out
          have := sm1.n
          omega
        have hA192 : A.n ≤ 1100000 := by have h1 := HA.out.1.size; have h2 := HA.out.1.small; omega
        have e2 : IntKind.u64.wrap (at_ : Int) = (at_ : Int) := IntWalk.u64_in _ (by omega)
        clear hat hz
        have hb1 : ∀ wx, (Instr.build 113 #[(0, .int .i64 lev), (4, .int .u64 at_)]).run Tryz.prog wx = .ok (.agg (nd0 lev at_).arr) wx := fun wx => run_build wx _ _ _ (built_nd lev at_)
        have hb2 : ∀ wx, (Instr.build 115 #[(0, .int .u64 at_), (1, .agg (nd0 lev at_).arr)]).run Tryz.prog wx = .ok (.agg (#[Value.int .u64 at_] ++ (nd0 lev at_).arr)) wx := fun wx => run_build wx _ _ _ (built_at lev at_ at_)
        obtain ⟨N0, hN0⟩ : ∃ N0, N0 = nd0 lev at_ := ⟨_, rfl⟩
        have hN0k : N0.Ok := by rw [hN0]; exact nd0_ok ⟨by omega, by omega⟩ ⟨by omega, by omega⟩
        rw [← hN0] at hb1 hb2
        obtain ⟨C, hC⟩ : ∃ C, C = N0.arr := ⟨_, rfl⟩
        rw [← hC] at hb1 hb2
        obtain ⟨X, hX⟩ : ∃ X, X = #[Value.int .u64 at_] ++ C := ⟨_, rfl⟩
        rw [← hX] at hb2
        have hX22 : X.size = 22 := by rw [hX, hC, Array.size_append, hN0k.size]; rfl
        have hst : (storeCells ⟨w1.heap.size, 0, none⟩ X.toList).run Tryz.prog (w1.alloc (.cells #[Value.int IntKind.u64 0, Value.int IntKind.i64 0, Value.int IntKind.u64 0, Value.int IntKind.u64 0, Value.int IntKind.u64 0, Value.int IntKind.u64 0, Value.int IntKind.u64 0, Value.int IntKind.u64 0, Value.int IntKind.u64 0, Value.int IntKind.u64 0, Value.int IntKind.u64 0, Value.int IntKind.u64 0, Value.int IntKind.u64 0, Value.int IntKind.u64 0, Value.int IntKind.u64 0, Value.int IntKind.u64 0, Value.int IntKind.u64 0, Value.int IntKind.u64 0, Value.int IntKind.u64 0, Value.int IntKind.u64 0, Value.int IntKind.u64 0, Value.int IntKind.u64 0] 115)) = .ok () (w1.alloc (.cells X 115)) := store_at0 w1 hX22 (fun v hv => flatR_one (R := [(at_, N0)]) (by simpa using hN0k) v (by
          rw [hX, hC] at hv
          simpa [flatR, atList, Nd.arr] using hv))
        have HN0 := Lib.hid (And.intro hN0 (And.intro hN0k (And.intro hC hX))); clear hN0 hN0k hC hX
        go_upto_region 10 with fail
        obtain ⟨W2, hW2⟩ : ∃ W2, W2 = w1.alloc (.cells X 115) := ⟨_, rfl⟩
        obtain ⟨bx, hbx⟩ : ∃ bx, bx = w1.heap.size := ⟨_, rfl⟩
        rw [← hW2, ← hbx]
        have hx2 : W2.heap[bx]? = some (.cells (atList (at_, N0)).toArray 115 (0, 0)) := by
          rw [hW2, hbx]
          have h1 := alloc_new (w := w1) (o := .cells X 115)
          rw [show X = (atList (at_, N0)).toArray from by rw [HN0.out.2.2.2, HN0.out.2.2.1]; simp [atList, Nd.arr]] at h1 ⊢
          exact h1
        have hk2' : Keeps [b, A.g] w W2 := by
          obtain ⟨hA1, ok1, sm1, hR, hRo, hRl, hkw, hown⟩ := HR.out
          obtain ⟨hA2, ok2, sm2, hk2⟩ := H2.out
          rw [sm1.g] at hk2
          rw [hW2]
          exact (hkw.trans hk2 (fun i hi => .inl hi)).trans (Keeps.alloc _ _) (by simp)
        have hbxw : w.heap.size ≤ bx := by rw [hbx]; have h1 := HR.out.2.2.2.2.2.2.1.size; have h2 := H2.out.2.2.2.size; omega
        have hA2w : ArAt W2 b A2 := by rw [hW2]; exact H2.out.1.keeps (Keeps.alloc w1 _) (by simp) (by simp)
        have hR2 : RowAt W2 115 22 (.slice ao9 R.length cp9) R.length (flatR R) := by
          obtain ⟨hA1, ok1, sm1, hR, hRo, hRl, hkw, hown⟩ := HR.out
          obtain ⟨hA2, ok2, sm2, hk2⟩ := H2.out
          rw [sm1.g] at hk2
          refine hR.same fun g hg => ?_
          rw [hW2]
          refine (hk2.trans (Keeps.alloc w1 _) (by simp)).block g (hR.lt hg) ?_
          have h1 := hown g hg
          have h2 := HA.out.1.lt
          have h3 := HA.out.1.glt
          simp; omega
        have hR9 : ∀ g, (Value.slice ao9 R.length cp9).ownBlock = some g → g < bx := fun g hg => by
          have h1 := HR.out.2.2.2.1.lt hg
          have h2 := H2.out.2.2.2.size
          omega
        have HB := Lib.hid (And.intro hW2 (And.intro hbx (And.intro hx2 (And.intro hk2' (And.intro hbxw (And.intro hA2w (And.intro hR2 hR9))))))); clear hW2 hbx hx2 hk2' hbxw hst hX22 hb1 hb2 hA2w hR2 hR9
        go_cut [14] from 45 to 48 (fun s14 wx => ∃ (ao' : Option Addr) (cp' : Nat), s14 = .slice ao' (t - f : Nat) cp' ∧ RowAt W2 107 2 (.slice ao' (t - f : Nat) cp') (t - f) (flat ((ps.drop f).take (t - f))) ∧ (∀ g, (Value.slice ao' (t - f : Nat) cp').ownBlock = some g → (Value.slice ao n cp).ownBlock = some g) ∧ W2 = wx)
        case first =>
          have hfI : (f : Int) ≤ (t : Int) := by omega
          have htI : (t : Int) ≤ (cp : Int) := by omega
          cases ao with
          | none =>
            go_wp2_with fail
            go_meet
            obtain ⟨hl, hpu, hnn, hn0, hlb⟩ := HL.out
            have hn0' : n = 0 := by
              rcases hl.2 with ⟨e, h0⟩ | ⟨g, off, cap, cur, e, _⟩
              · exact h0
              · cases e
            have hcp0 : cp = 0 := by
              rcases hl.2 with ⟨e, h0⟩ | ⟨g, off, cap, cur, e, _⟩
              · cases e; rfl
              · cases e
            have ht0 : t - f = 0 := by omega
            refine ⟨none, cp - f, rfl, ?_, fun g hg => (nomatch hg), rfl⟩
            rw [ht0, hcp0, Nat.zero_sub, List.take_zero]
            exact RowAt.nil _ _ _
          | some ad =>
            obtain ⟨gl, ol, sp⟩ := ad
            obtain rfl : sp = none := by
              rcases HL.out.1.2 with ⟨e, h0⟩ | ⟨g, off, cap, cur, e, _⟩
              · cases e
              · cases e; rfl
            by_cases hcf : cp = f
            · subst hcf
              go_wp2_with fail
              go_meet
              obtain ⟨hl, hpu, hnn, hn0, hlb⟩ := HL.out
              have hl2 : RowAt W2 107 2 (.slice (some ⟨gl, ol, none⟩) n cp) n (flat ps) := hl.same fun g hg => HB.out.2.2.2.1.block g (hl.lt hg) (by have := hlb g hg; simp; exact this)
              have hsub := row_sub hl2 (f := 0) (t := 0) (Nat.le_refl _) (Nat.zero_le _)
              have ht0 : t - cp = 0 := by omega
              refine ⟨_, _, rfl, ?_, fun g hg => hg, rfl⟩
              rw [ht0, List.take_zero]
              have hnil : flat ([] : List (Int × Int)) = [] := rfl
              rw [hnil]
              have hc0 : cp = 0 := by omega
              subst hc0
              simpa using hsub
            · go_wp2_with fail
              go_meet
              obtain ⟨hl, hpu, hnn, hn0, hlb⟩ := HL.out
              have hl2 : RowAt W2 107 2 (.slice (some ⟨gl, ol, none⟩) n cp) n (flat ps) := hl.same fun g hg => HB.out.2.2.2.1.block g (hl.lt hg) (by have := hlb g hg; simp; exact this)
              have hsub := row_sub hl2 hft htn
              rw [← flat_drop, ← flat_take] at hsub
              exact ⟨_, _, rfl, hsub, fun g hg => hg, rfl⟩
        case rest =>
        obtain ⟨ao1, cp1, rfl, hE1, hE1b, rfl⟩ := hcut
        obtain ⟨m, hm⟩ : ∃ m, m = t - f := ⟨_, rfl⟩
        obtain ⟨es, hes⟩ : ∃ es, es = (ps.drop f).take m := ⟨_, rfl⟩
        rw [← hm] at hE1 hE1b ⊢
        rw [← hes] at hE1
        have hesl : es.length = m := by
          rw [hes, List.length_take, List.length_drop, ← HL.out.2.2.1]; omega
        have hesu : ∀ e ∈ es, U64 e.1 ∧ U64 e.2 := fun e he => HL.out.2.1 e (by rw [hes] at he; exact List.mem_of_mem_drop (List.mem_of_mem_take he))
        have hm8 : m ≤ 8 := by have := HT.out; omega
        have hm0 : 0 < lev → 0 < m := fun h0 => by have h1 := HL.out.2.2.2.1 h0; have h2 := HT.out; omega
        have hxa : XAt bx at_ lev N0 W2 := ⟨HB.out.2.2.1, HN0.out.2.1, by rw [HN0.out.1]; rfl⟩
        have hE1x : ∀ g, (Value.slice ao1 m cp1).ownBlock = some g → g ≠ bx := fun g hg e => by
          have h1 := HL.out.1.lt (hE1b g hg)
          have h2 := HB.out.2.2.2.2.1
          omega
        have HE := Lib.hid (And.intro hE1 (And.intro hE1b (And.intro hesl (And.intro hesu (And.intro hm8 (And.intro hm0 (And.intro hxa hE1x))))))); clear hE1 hE1b hesl hesu hm8 hm0 hxa hE1x hm hes
        go_upto_if 51 with fail
        go_cut [] from 52 to 57 (fun wx => ∃ N : Nd, XAt bx at_ lev N wx ∧ Keeps [bx] W2 wx)
        case first =>
          by_cases hm0 : 0 < m
          · have hmI : (0 : Int) < (m : Int) := by omega
            obtain ⟨hE1, hE1b, hesl, hesu, hm8, hml, hxa, hE1x⟩ := HE.out
            obtain ⟨g1, o1, rfl⟩ := row_addr hE1 hm0
            obtain ⟨e0, he0⟩ : ∃ e0, es[0]? = some e0 := ⟨_, List.getElem?_eq_getElem (by omega)⟩
            have ck : W2.cell? ⟨g1, o1, none⟩ = some (.int .u64 e0.1) := by
              have := hE1.cell (flat_get es 0 e0 he0).1
              simpa using this
            obtain ⟨ox, hox, fx⟩ := hxa.has (i := 2) (by omega)
            have hu0 := (hesu e0 (List.mem_of_getElem? he0)).1
            have HX := Lib.hid (And.intro hxa hu0); clear hE1 hE1b hesl hesu hm8 hml hxa hE1x he0 hu0
            go_wp2_with fail
            go_meet
            exact ⟨_, HX.out.1.low HX.out.2, Keeps.setCell _ bx 2 _⟩
          · obtain rfl : m = 0 := by omega
            have HX := Lib.hid HE.out.2.2.2.2.2.2.1
            go_wp2_with fail
            go_meet
            exact ⟨_, HX.out, Keeps.refl _ _⟩
        case rest =>
        obtain ⟨N1, hx1, hk1⟩ := hcut
        have H1 := Lib.hid (And.intro hx1 hk1); clear hx1 hk1
        go_upto_if 59 with fail
        go_cut [] from 60 to 61 (fun wx => ∃ N : Nd, XAt bx at_ lev N wx ∧ Keeps [bx] W2 wx)
        case first =>
          by_cases hf0 : f = 0
          · obtain ⟨ox, hox, fx⟩ := H1.out.1.has (i := 2) (by omega)
            have fb : ((f : Int) == 0) = true := by simp [hf0]
            clear hf0
            go_wp2_with fail
            go_meet
            exact ⟨_, H1.out.1.low ⟨by omega, by omega⟩, H1.out.2.trans (Keeps.setCell _ bx 2 _) (fun i hi => .inl hi)⟩
          · have fb : ((f : Int) == 0) = false := by simp; omega
            clear hf0
            go_wp2_with fail
            go_meet
            exact ⟨_, H1.out.1, H1.out.2⟩
        case rest =>
        obtain ⟨N2, hx2, hk2⟩ := hcut
        have H3 := Lib.hid (And.intro hx2 hk2); clear hx2 hk2
        go_upto_if 63 with fail
        go_cut [14] from 64 to 71 (fun s14 wx => ∃ (N : Nd) (ao2 : Option Addr) (cp2 : Nat) (es2 : List (Int × Int)), s14 = .slice ao2 es2.length cp2 ∧ RowAt wx 107 2 (.slice ao2 es2.length cp2) es2.length (flat es2) ∧ es2.length ≤ 8 ∧ (∀ e ∈ es2, U64 e.1 ∧ U64 e.2) ∧ (∀ g, (Value.slice ao2 es2.length cp2).ownBlock = some g → g ≠ bx ∧ g < W2.heap.size) ∧ XAt bx at_ lev N wx ∧ Keeps [bx] W2 wx)
        case first =>
          obtain ⟨hE1, hE1b, hesl, hesu, hm8, hml, hxa, hE1x⟩ := HE.out
          by_cases hl0 : 0 < lev
          · have hlI : (0 : Int) < (lev : Int) := by omega
            have hm0 := hml hl0
            obtain ⟨g1, o1, rfl⟩ := row_addr hE1 hm0
            obtain ⟨e0, he0⟩ : ∃ e0, es[0]? = some e0 := ⟨_, List.getElem?_eq_getElem (by omega)⟩
            have hEw : RowAt wc 107 2 (.slice (some ⟨g1, o1, none⟩) m cp1) m (flat es) := hE1.same fun g hg => H3.out.2.block g (hE1.lt hg) (by have := hE1x g hg; simpa using this)
            have ck : wc.cell? ⟨g1, o1 + 1, none⟩ = some (.int .u64 e0.2) := by
              have := hEw.cell (flat_get es 0 e0 he0).2
              simpa using this
            obtain ⟨ox, hox, fx⟩ := H3.out.1.has (i := 5) (by omega)
            have hu0 := (hesu e0 (List.mem_of_getElem? he0)).2
            have hcp1 : m ≤ cp1 := by
              rcases hE1.2 with ⟨e, _⟩ | ⟨_, _, _, _, e, _, h1, _⟩
              · cases e
              · cases e; exact h1
            have hm1 : (1 : Int) ≤ (m : Int) := by omega
            have hmI : (0 : Int) < (m : Int) := by omega
            obtain ⟨W4, hW4⟩ : ∃ W4, W4 = wc.setCell ⟨bx, 5, none⟩ (.int .u64 e0.2) := ⟨_, rfl⟩
            have hx4 : XAt bx at_ lev { N2 with fi := e0.2 } W4 := by rw [hW4]; exact H3.out.1.fi hu0
            have hk4 : Keeps [bx] W2 W4 := by rw [hW4]; exact H3.out.2.trans (Keeps.setCell _ bx 5 _) (fun i hi => .inl hi)
            have hE4 : RowAt W4 107 2 (.slice (some ⟨g1, o1, none⟩) m cp1) m (flat es) := hE1.same fun g hg => hk4.block g (hE1.lt hg) (by have := hE1x g hg; simpa using this)
            have hsub := row_sub hE4 (f := 1) (t := m) (by omega) (Nat.le_refl _)
            rw [← flat_drop, ← flat_take] at hsub
            have hd : (es.drop 1).take (m - 1) = es.drop 1 := List.take_of_length_le (by rw [List.length_drop]; omega)
            rw [hd] at hsub
            have hdl : (es.drop 1).length = m - 1 := by rw [List.length_drop, hesl]
            have hdu : ∀ e ∈ es.drop 1, U64 e.1 ∧ U64 e.2 := fun e he => hesu e (List.mem_of_mem_drop he)
            have hgx : g1 ≠ bx := hE1x g1 rfl
            have H5 := Lib.hid (And.intro hx4 (And.intro hk4 (And.intro hE4 (And.intro hsub (And.intro hdl (And.intro hdu hgx))))))
            have hW4' := hW4.symm
            have hm8' : m ≤ 8 := hm8
            clear hE1 hE1b hesl hesu hm8 hml hE1x he0 hEw hu0 hx4 hk4 hE4 hsub hd hdl hdu hgx hW4 hxa hl0
            by_cases hc1 : cp1 = 1
            · subst hc1
              obtain rfl : m = 1 := by omega
              go_wp2_with fail
              go_meet
              obtain ⟨hx4, hk4, hE4, hsub, hdl, hdu, hgx⟩ := H5.out
              have hnil : es.drop 1 = [] := List.eq_nil_of_length_eq_zero hdl
              refine ⟨_, some ⟨g1, o1, none⟩, 0, [], rfl, ?_, by simp, by simp, fun g hg => by cases hg; exact ⟨hgx, HE.out.1.lt rfl⟩, hx4, hk4⟩
              have := row_sub hE4 (f := 0) (t := 0) (Nat.le_refl _) (by omega)
              rcases hE4.2 with ⟨e, _⟩ | ⟨g', off', cap', cur, e, hg, h1, h2, h3, ht⟩
              · cases e
              · cases e
                exact ⟨rfl, .inr ⟨g1, o1, 0, cur, rfl, hg, by simp, by omega, by omega, by simp [flat]⟩⟩
            · go_wp2_with fail
              go_meet
              obtain ⟨hx4, hk4, hE4, hsub, hdl, hdu, hgx⟩ := H5.out
              have hd8 : (es.drop 1).length ≤ 8 := by rw [List.length_drop, HE.out.2.2.1]; have := HE.out.2.2.2.2.1; omega
              rw [← hdl] at hsub ⊢
              exact ⟨_, _, _, es.drop 1, rfl, hsub, hd8, hdu, fun g hg => by cases hg; exact ⟨hgx, HE.out.1.lt rfl⟩, hx4, hk4⟩
          · have hl00 : lev = 0 := by omega
            subst hl00
            have HE' := Lib.hid (And.intro hE1 (And.intro hesl (And.intro hm8 (And.intro hesu hE1x)))); clear hE1 hE1b hesl hesu hm8 hml hxa hE1x
            go_wp2_with fail
            go_meet
            obtain ⟨hE1, hesl, hm8, hesu, hE1x⟩ := HE'.out
            rw [← hesl] at hE1 hE1x ⊢
            exact ⟨N2, ao1, cp1, es, rfl, hE1.same fun g hg => H3.out.2.block g (hE1.lt hg) (by have := hE1x g hg; simpa using this), by omega, hesu, fun g hg => ⟨hE1x g hg, hE1.lt hg⟩, H3.out.1, H3.out.2⟩
        case rest =>
        obtain ⟨N3, ao2, cp2, es2, rfl, hE2, he8, heu, hE2x, hx3, hk3⟩ := hcut
        obtain ⟨m2, hm2⟩ : ∃ m2, m2 = es2.length := ⟨_, rfl⟩
        rw [← hm2] at hE2 he8 hE2x ⊢
        have H6 := Lib.hid (And.intro hE2 (And.intro heu (And.intro hE2x (And.intro hx3 (And.intro hk3 hm2))))); clear hE2 heu hE2x hx3 hk3 hm2
        go_wp2_with fail
        go_loopw [15] (fun s15 wr2 => ∃ (i : Nat) (N : Nd), i ≤ m2 ∧ s15 = .int .i64 i ∧ XAt bx at_ lev N wr2 ∧ Keeps [bx] W2 wr2) (fun s15 _ => m2 - (intOf s15).toNat)
        case atStart => exact ⟨0, N3, by omega, rfl, H6.out.2.2.2.1, H6.out.2.2.2.2.1⟩
        case round =>
          obtain ⟨i, N, hi, rfl, hx, hkx⟩ := hrel
          by_cases hlt : i < m2
          · obtain ⟨hE2, heu, hE2x, hx3, hk3, hm2⟩ := H6.out
            have hiI : (i : Int) < (m2 : Int) := by omega
            have hi8 : (i : Int) < 8 := by omega
            obtain ⟨e1', he1'⟩ : ∃ e, es2[i]? = some e := ⟨_, List.getElem?_eq_getElem (by omega)⟩
            obtain ⟨g2, o2, rfl⟩ := row_addr hE2 (by omega)
            have hE2w : RowAt wr 107 2 (.slice (some ⟨g2, o2, none⟩) m2 cp2) m2 (flat es2) := hE2.same fun g hg => by
              obtain ⟨h1, h2⟩ := hE2x g hg
              exact (hkx.block g h2 (by simpa using h1)).trans (hk3.block g h2 (by simpa using h1)).symm
            have ck : wr.cell? ⟨g2, o2 + i * 2, none⟩ = some (.int .u64 e1'.1) := by
              have := hE2w.cell (flat_get es2 i e1' he1').1
              rwa [Nat.mul_comm] at this
            have cp : wr.cell? ⟨g2, o2 + i * 2 + 1, none⟩ = some (.int .u64 e1'.2) := by
              have := hE2w.cell (flat_get es2 i e1' he1').2
              rwa [Nat.mul_comm, ← Nat.add_assoc] at this
            obtain ⟨oa, hoa, fa⟩ := hx.has (i := 6 + i) (by omega)
            obtain ⟨ob, hob, fb⟩ := hx.has (i := 14 + i) (by omega)
            obtain ⟨hu1, hu2⟩ := heu e1' (List.mem_of_getElem? he1')
            have hxk := hx.key (i := i) (by omega) hu1
            have hxp := hxk.ptr (i := i) (by omega) hu2
            obtain ⟨ob2, hob2, fb2⟩ := hxk.has (i := 14 + i) (by omega)
            have hgx := (hE2x g2 rfl).1
            have HX := Lib.hid (And.intro hxp hkx)
            have hi22 : i < m2 := hlt
            clear hE2 heu hE2x hx3 hk3 hm2 hx hkx he1' hE2w hxk hxp hu1 hu2
            go_upto_region 21 with fail
            go_region
            all_goals
              go_wp2_with fail
              go_roundw
              case rel =>
                have hgo : ∃ (i' : Nat) (N' : Nd), i' ≤ m2 ∧ Value.int .i64 ((i : Int) + 1) = .int .i64 i' ∧ XAt bx at_ lev N' ((wr.setCell ⟨bx, 6 + i, none⟩ (.int .u64 e1'.1)).setCell ⟨bx, 14 + i, none⟩ (.int .u64 e1'.2)).drew ∧ Keeps [bx] W2 ((wr.setCell ⟨bx, 6 + i, none⟩ (.int .u64 e1'.1)).setCell ⟨bx, 14 + i, none⟩ (.int .u64 e1'.2)).drew :=
                  ⟨i + 1, _, by omega, by go_num, HX.out.1.keeps (Keeps.drew _) (by simp), ((HX.out.2.trans (Keeps.setCell _ bx (6 + i) _) (fun i hi => .inl hi)).trans (Keeps.setCell _ bx (14 + i) _) (fun i hi => .inl hi)).trans (Keeps.drew _) (by simp)⟩
                first | exact hgo | ((repeat apply Exists.intro); exact ⟨hgo, rfl⟩)
              case measure => simp [intOf]; omega
          · obtain rfl : i = m2 := by omega
            have H7 := Lib.hid (And.intro hx hkx); clear hx hkx
            go_upto_region 22 with fail
            obtain ⟨X2, hX2⟩ : ∃ X2, X2 = (atList (at_, N)).toArray := ⟨_, rfl⟩
            have hX22 : X2.size = 22 := by rw [hX2]; simp [atList_length (x := (at_, N)) H7.out.1.2.1]
            have hld : (loadVar 115 ⟨bx, 0, none⟩).run Tryz.prog wr = .ok (.agg X2) wr := by
              rw [hX2]
              exact run_loadVar_row (P := Tryz.prog) _ _ 115 115 _ (0, 0) _ H7.out.1.1 Tryz.underlying115 rfl (by rw [atInfo, ← hX2, hX22])
            have hbs := one_at hX22 wr
            obtain ⟨i0, hi0, hz0, hz1, hz2⟩ := info_parts atZero
            have hRw : RowAt wr 115 22 (.slice ao9 R.length cp9) R.length (flatR R) := HB.out.2.2.2.2.2.2.1.same fun g hg => H7.out.2.block g (HB.out.2.2.2.2.2.2.1.lt hg) (by have := HB.out.2.2.2.2.2.2.2 g hg; simp; omega)
            have hRn : R.length ≤ 1000 := by have := HR.out.2.2.2.2.2.1; omega
            have hRa : RowAt (wr.alloc (.cells X2 115)) 115 22 (.slice ao9 R.length cp9) R.length (flatR R) := hRw.same fun g hg => (MapKept.heap_alloc wr _).2 g (hRw.lt hg)
            have hnew : Reads (wr.alloc (.cells X2 115)) (.slice (some ⟨wr.heap.size, 0, none⟩) 1 1) 1 (atList (at_, N)) := .inr ⟨⟨wr.heap.size, 0, none⟩, 1, rfl, rfl, fun j u hu => by
              rw [Nat.zero_add]; exact cell_of alloc_new (by rw [hX2, List.getElem?_toArray]; exact hu)⟩
            have hone : ∀ u ∈ atList (at_, N), u.oneCell' = true := fun u hu => flatR_one (R := [(at_, N)]) (by simpa using H7.out.1.2.1) u (by simpa [flatR] using hu)
            have hnl : (atList (at_, N)).length = 1 * 22 := atList_length (x := (at_, N)) H7.out.1.2.1
            have HX := Lib.hid (And.intro hX2 hX22); clear hX2 hX22
            go_wp2_with (first
              | (refine wpList_run (o := ⟨some 97, _, _, _, _, _⟩) rfl (v := .agg X2) (w' := wr) (exec_load rfl rfl hld) ?_)
              | (at_builtin; refine wpList_append_row _ rfl _ _ 109 rfl 115 i0 (.agg z22) 22 176 Tryz.underlying109 hi0 hz0 hz1 hz2 rfl _ (.slice (some ⟨wr.heap.size, 0, none⟩) 1 1) rfl rfl R.length (flatR R) hRa 1 (atList (at_, N)) hnew hnl hone ?hmx ?hby ?_)
              | fail)
            case hmx => unfold maxLen; omega
            case hby => omega
            intro v' w5 hrow' hgrow hblk' g5 o5 c5 hsl
            subst hsl
            have hfin : ArAt w5 b A2 ∧ ArOk A2 ∧ ArSame A A2 ∧ RowAt w5 115 22 (.slice (some ⟨g5, o5, none⟩) (R.length + 1) c5) (R.length + 1) (flatR (R ++ [(at_, N)])) ∧ (∀ x ∈ R ++ [(at_, N)], x.2.Ok ∧ x.1 + 192 ≤ A.n) ∧ Keeps [b, A.g] w w5 ∧ w.heap.size ≤ g5 := by
              obtain ⟨hA1, ok1, sm1, hR, hRo, hRl, hkw, hown⟩ := HR.out
              obtain ⟨hA2, ok2, sm2, hk2⟩ := H2.out
              obtain ⟨hW2, hbx, hx2, hk2', hbxw, hA2w, hR2, hR9⟩ := HB.out
              have hb1 := HA.out.1.lt
              have hb2 := HA.out.1.glt
              have kx : Keeps (bx :: (Value.slice ao9 R.length cp9).ownBlock.toList) W2 w5 := ((H7.out.2.mono (G := bx :: (Value.slice ao9 R.length cp9).ownBlock.toList) (by simp)).trans ((Keeps.alloc wr _).mono (G := bx :: (Value.slice ao9 R.length cp9).ownBlock.toList) (by simp)) (fun i hi => .inl hi)).trans ((Keeps.grown hgrow).mono (G := bx :: (Value.slice ao9 R.length cp9).ownBlock.toList) (fun i hi => .inl (by simp only [Option.mem_toList] at hi; simp [hi]))) (fun i hi => .inl hi)
              have hni : ∀ i, i < w.heap.size → i ∉ bx :: (Value.slice ao9 R.length cp9).ownBlock.toList := fun i hi hm => by
                simp only [List.mem_cons, Option.mem_toList] at hm
                rcases hm with rfl | hm
                · omega
                · have := hown i hm; omega
              have hg2 : A2.g = A.g := by rw [sm2.g, sm1.g]
              refine ⟨hA2w.keeps kx (hni b hb1) (by rw [hg2]; exact hni A.g hb2), ok2, ⟨hg2, by rw [sm2.n, sm1.n], by rw [sm2.S, sm1.S], by rw [sm2.lv, sm1.lv]⟩, ?_, fun x hx => ?_, ?_, ?_⟩
              · rw [flatR_append]
                have : flatR [(at_, N)] = atList (at_, N) := by simp [flatR]
                rw [this]; exact hrow'
              · rcases List.mem_append.1 hx with hx | hx
                · exact hRo x hx
                · simp only [List.mem_singleton] at hx; subst hx; exact ⟨H7.out.1.2.1, ha⟩
              · refine hk2'.trans kx (fun i hi => ?_)
                simp only [List.mem_cons, Option.mem_toList] at hi
                rcases hi with rfl | hi
                · exact .inr hbxw
                · exact .inr (hown i hi)
              · rcases hblk' with h1 | ⟨g, h1, h2⟩
                · exact hown g5 (by rw [← h1]; rfl)
                · obtain rfl : g5 = g := by simpa [Value.ownBlock] using h1
                  have q1 := hk2'.size
                  have q2 := H7.out.2.size
                  omega
            have HF := Lib.hid hfin; clear hfin hrow' hgrow hblk' hRw hRa hnew hone hnl hld hbs
            by_cases htn2 : t = n
            · have hb : ((t : Int) == (n : Int)) = true := by simp [htn2]
              clear htn2
              go_wp2_with fail
              go_meet
              obtain ⟨hA5, ok5, sm5, hR5, hRo5, hK5, hg5⟩ := HF.out
              refine ⟨A2, R ++ [(at_, N)], some ⟨g5, o5, none⟩, c5, by rw [List.length_append]; rfl, hA5, ok5, sm5, by rw [List.length_append]; exact hR5, hRo5, by simp, ?_, hK5, fun g hg => by cases hg; exact hg5⟩
              have := HR.out.2.2.2.2.2.1
              rw [List.length_append]; simp only [List.length_singleton]; omega
            · have hb : ((t : Int) == (n : Int)) = false := by simp; omega
              have e5 : IntKind.i64.wrap ((f : Int) + (per : Int)) = (t : Int) := by rw [IntWalk.i64_in _ (by omega)]; have := HT.out; omega
              clear e1
              go_wp2_with fail
              go_roundw
              case rel =>
                obtain ⟨hA5, ok5, sm5, hR5, hRo5, hK5, hg5⟩ := HF.out
                have hgo : ∃ (f' : Nat) (A' : Ar) (R' : List (Nat × Nd)) (ao' : Option Addr) (cp' : Nat), Value.slice (some ⟨g5, o5, none⟩) (R.length + 1) c5 = .slice ao' R'.length cp' ∧ Value.int .i64 (t : Int) = .int .i64 f' ∧ (f' = 0 ∨ f' < n) ∧ ArAt w5 b A' ∧ ArOk A' ∧ ArSame A A' ∧ RowAt w5 115 22 (.slice ao' R'.length cp') R'.length (flatR R') ∧ (∀ x ∈ R', x.2.Ok ∧ x.1 + 192 ≤ A.n) ∧ R'.length ≤ f' ∧ Keeps [b, A.g] w w5 ∧ ∀ g, (Value.slice ao' R'.length cp').ownBlock = some g → w.heap.size ≤ g := by
                  refine ⟨t, A2, R ++ [(at_, N)], some ⟨g5, o5, none⟩, c5, by rw [List.length_append]; rfl, rfl, .inr (by omega), hA5, ok5, sm5, by rw [List.length_append]; exact hR5, hRo5, ?_, hK5, fun g hg => by cases hg; exact hg5⟩
                  have := HR.out.2.2.2.2.2.1
                  have := HT.out
                  rw [List.length_append]; simp only [List.length_singleton]; omega
                first | exact hgo | ((repeat apply Exists.intro); exact ⟨hgo, rfl⟩)
              case measure => simp [intOf]; have := HT.out; omega
  case rest =>
  obtain ⟨A1, R, ao9, cp9, rfl, hA1, ok1, sm1, hR, hRo, hR1, hRn, hkw, hown⟩ := hcut
  obtain ⟨m, hm⟩ : ∃ m, m = R.length := ⟨_, rfl⟩
  rw [← hm] at hR hR1 hRn hown ⊢
  obtain ⟨g9, o9, rfl⟩ := row_addr hR (by omega)
  have hm64 : m ≤ 64 := by omega
  have hg9 : w.heap.size ≤ g9 := hown g9 rfl
  have HC := Lib.hid (And.intro hA1 (And.intro ok1 (And.intro sm1 (And.intro hR (And.intro hRo (And.intro hm (And.intro hR1 (And.intro hRn hkw)))))))); clear hA1 ok1 sm1 hR hRo hm hR1 hRn hkw hown
  go_wp2_with fail
  go_loopw [16] (fun s16 wr => ∃ (i : Nat) (R' : List (Nat × Nd)), i ≤ m ∧ s16 = .int .i64 i ∧ R'.length = m ∧ RowAt wr 115 22 (.slice (some ⟨g9, o9, none⟩) m cp9) m (flatR R') ∧ (∀ x ∈ R', x.2.Ok ∧ x.1 + 192 ≤ A.n) ∧ ArAt wr b A1 ∧ Keeps [b, A.g] w wr) (fun s16 _ => m - (intOf s16).toNat)
  case atStart =>
    obtain ⟨hA1, ok1, sm1, hR, hRo, hm, hR1, hRn, hkw⟩ := HC.out
    exact ⟨0, R, by omega, rfl, hm.symm, hR, hRo, hA1, hkw⟩
  case round =>
    obtain ⟨i, R1, hi, rfl, hRl, hR, hRo, hA1, hkw⟩ := hrel
    by_cases hlt : i < m
    · have hiI : (i : Int) < (m : Int) := by omega
      have e1 : IntKind.i64.wrap ((i : Int) + 1) = ((i + 1 : Nat) : Int) := by rw [IntWalk.i64_in _ (by omega)]; omega
      obtain ⟨i1, hi1⟩ : ∃ i1, i1 = i + 1 := ⟨_, rfl⟩
      rw [← hi1] at e1
      have HI := Lib.hid hi1; clear hi1
      have HR := Lib.hid (And.intro hRl (And.intro hR (And.intro hRo (And.intro hA1 hkw)))); clear hRl hR hRo hA1 hkw
      go_upto_if 114 with fail
      obtain ⟨c, hcd⟩ : ∃ c, c = decide (i1 < m) := ⟨_, rfl⟩
      rw [← hcd]
      have HD := Lib.hid hcd; clear hcd
      go_cut [] from 115 to 125 (fun wx => ∃ R' : List (Nat × Nd), R'.length = m ∧ RowAt wx 115 22 (.slice (some ⟨g9, o9, none⟩) m cp9) m (flatR R') ∧ (∀ x ∈ R', x.2.Ok ∧ x.1 + 192 ≤ A.n) ∧ ArAt wx b A1 ∧ Keeps [b, A.g] w wx)
      case first =>
        obtain ⟨hRl, hR, hRo, hA1, hkw⟩ := HR.out
        cases c with
        | true =>
          have hlt1 : i1 < m := by have := HD.out; simpa using this.symm
          have hi1I : (i1 : Int) < (m : Int) := by omega
          obtain ⟨x0, hx0⟩ : ∃ x, R1[i]? = some x := ⟨_, List.getElem?_eq_getElem (by omega)⟩
          obtain ⟨x1, hx1⟩ : ∃ x, R1[i1]? = some x := ⟨_, List.getElem?_eq_getElem (by omega)⟩
          obtain ⟨p0, N0⟩ := x0
          obtain ⟨p1, N1⟩ := x1
          have hok : ∀ x ∈ R1, x.2.Ok := fun x hx => (hRo x hx).1
          have c1 : wr.cell? ⟨g9, o9 + i1 * 22, none⟩ = some (.int .u64 p1) := by
            have := hR.cell (j := 22 * i1 + 0) (u := .int .u64 p1) (by rw [flatR_get R1 i1 0 (p1, N1) hok hx1 (by omega)]; rfl)
            rwa [Nat.add_zero, Nat.mul_comm] at this
          have c0 : wr.cell? ⟨g9, o9 + i * 22 + 1 + 2, none⟩ = some (.int .u64 N0.nx) := by
            have := hR.cell (j := 22 * i + 3) (u := .int .u64 N0.nx) (by rw [flatR_get R1 i 3 (p0, N0) hok hx0 (by omega)]; rfl)
            rw [show o9 + (22 * i + 3) = o9 + i * 22 + 1 + 2 by omega] at this
            exact this
          have f0 : wr.frozen? ⟨g9, o9 + i * 22 + 1 + 2, none⟩ = false := hR.free _
          have HX := Lib.hid (And.intro hx0 (And.intro hx1 hok)); clear hx0 hx1 hok hRl hR hRo hA1 hkw hlt1
          go_wp2_with fail
          go_meet
          obtain ⟨hx0, hx1, hok⟩ := HX.out
          obtain ⟨hRl, hR, hRo, hA1, hkw⟩ := HR.out
          have hp1 : U64 (p1 : Int) := by
            have h1 := (hRo _ (List.mem_of_getElem? hx1)).2
            have h2 := HA.out.1.size
            have h3 := HA.out.1.small
            dsimp only at h1
            constructor <;> omega
          have hset := hR.set (22 * i + 3) (by rw [flatR_length R1 hok, hRl]; omega) (.int .u64 p1)
          rw [flatR_set R1 i p0 N0 p1 hok hx0, show o9 + (22 * i + 3) = o9 + i * 22 + 1 + 2 by omega] at hset
          have hb1 := HA.out.1.lt
          have hb2 := HA.out.1.glt
          have hsg : A1.g = A.g := HC.out.2.2.1.g
          refine ⟨R1.set i (p0, { N0 with nx := p1 }), by rw [List.length_set]; exact hRl, hset, fun x hx => ?_, hA1.keeps (Keeps.setCell wr g9 _ _) (by simp; omega) (by rw [hsg]; simp; omega), hkw.trans (Keeps.setCell wr g9 _ _) (fun q hq => .inr (by simp at hq; omega))⟩
          rcases List.mem_or_eq_of_mem_set hx with hx | rfl
          · exact hRo x hx
          · have h0 := hRo _ (List.mem_of_getElem? hx0)
            exact ⟨{ h0.1 with nx := hp1 }, h0.2⟩
        | false =>
          clear hRl hR hRo hA1 hkw
          go_wp2_with fail
          go_meet
          exact ⟨R1, HR.out.1, HR.out.2.1, HR.out.2.2.1, HR.out.2.2.2.1, HR.out.2.2.2.2⟩
      case rest =>
      obtain ⟨R2, hRl2, hR2, hRo2, hA2, hkw2⟩ := hcut
      obtain ⟨x0, hx0⟩ : ∃ x, R2[i]? = some x := ⟨_, List.getElem?_eq_getElem (by omega)⟩
      obtain ⟨p0, N0⟩ := x0
      have hok : ∀ x ∈ R2, x.2.Ok := fun x hx => (hRo2 x hx).1
      obtain ⟨hN0, hp0⟩ := hRo2 _ (List.mem_of_getElem? hx0)
      dsimp only at hN0 hp0
      have c1 : ∀ wx, Keeps [] wc wx → wx.cell? ⟨g9, o9 + i * 22, none⟩ = some (.int .u64 p0) := fun wx hk => by
        have := hR2.cell (j := 22 * i + 0) (u := .int .u64 p0) (by rw [flatR_get R2 i 0 (p0, N0) hok hx0 (by omega)]; rfl)
        rw [Nat.add_zero, Nat.mul_comm] at this
        rw [World.cell?_of_block (hk.block g9 (hR2.lt rfl) (by simp))]; exact this
      have hld : ∀ wx, Keeps [] wc wx → (loadVar 113 ⟨g9, o9 + i * 22 + 1, none⟩).run Tryz.prog wx = .ok (.agg N0.arr) wx := fun wx hk => by
        refine load_nd (d := _) (fun j v hv => ?_) Tryz.underlying113 rfl (by rw [nodeInfo, hN0.list_length])
        have hj : j < 21 := by have := (List.getElem?_eq_some_iff.1 hv).1; rw [hN0.list_length] at this; exact this
        have := hR2.cell (j := 22 * i + (j + 1)) (u := v) (by rw [flatR_get R2 i (j + 1) (p0, N0) hok hx0 (by omega)]; simpa [atList] using hv)
        rw [show o9 + (22 * i + (j + 1)) = o9 + i * 22 + 1 + j by omega] at this
        rw [World.cell?_of_block (hk.block g9 (hR2.lt rfl) (by simp))]; exact this
      have q1 := c1 _ (Keeps.drew wc)
      have q2 := hld _ (Keeps.drew wc)
      have HLay := Lib.hid (lay_any (hA2.keeps (Keeps.drew wc) (by simp) (by simp)) hN0 p0 (by rw [HC.out.2.2.1.n]; exact hp0))
      have HR2 := Lib.hid (And.intro hRl2 (And.intro hR2 (And.intro hRo2 (And.intro hA2 hkw2)))); clear hRl2 hR2 hRo2 hA2 hkw2 hx0 hok c1 hld
      obtain ⟨C, hC⟩ : ∃ C, C = N0.arr := ⟨_, rfl⟩
      rw [← hC] at q2 HLay
      clear hC hN0 hp0
      go_upto_region 29 with fail
      refine wp_region_still_tail 11 (by kernel_rfl) (by kernel_rfl) ?_
      simp only [List.take_succ_cons, List.take_zero, List.drop_succ_cons, List.drop_zero]
      have hdr : ({ wc with drawn := wc.drawn + 1 } : World) = wc.drew := rfl
      rw [hdr]
      clear hdr
      still_step
      still_step
      still_step
      still_step
      still_step
      still_step
      still_step
      still_step
      still_step
      still_step
      refine wpStill_load rfl 113 _ ⟨g9, o9 + i * 22 + 1, none⟩ rfl rfl q2 ?_
      simp only [Act.put, List.setIfInBounds_toArray, List.set_cons_succ, List.set_cons_zero]
      refine wpStill_nil ?_
      go_wp2_with fail
      refine HLay.out.mono ?_
      rintro e w3 ⟨rfl, hA3, hk3⟩
      have H3 := Lib.hid (And.intro hA3 hk3); clear hA3 hk3
      go_wp2_with fail
      go_roundw
      case rel =>
        have hgo : ∃ (i' : Nat) (R' : List (Nat × Nd)), i' ≤ m ∧ Value.int .i64 (i1 : Int) = .int .i64 i' ∧ R'.length = m ∧ RowAt w3 115 22 (.slice (some ⟨g9, o9, none⟩) m cp9) m (flatR R') ∧ (∀ x ∈ R', x.2.Ok ∧ x.1 + 192 ≤ A.n) ∧ ArAt w3 b A1 ∧ Keeps [b, A.g] w w3 := by
          obtain ⟨hRl2, hR2, hRo2, hA2, hkw2⟩ := HR2.out
          have hsg : A1.g = A.g := HC.out.2.2.1.g
          have hb2 := HA.out.1.glt
          have k3 := ((Keeps.drew wc).mono (G := [A1.g]) (by simp)).trans H3.out.2 (fun i hi => .inl hi)
          rw [hsg] at k3
          refine ⟨i1, R2, by have := HI.out; omega, rfl, hRl2, hR2.same fun g hg => ?_, hRo2, H3.out.1, hkw2.trans k3 (fun i hi => .inl (by simp at hi; simp [hi]))⟩
          cases hg
          exact k3.block g9 (hR2.lt rfl) (by simp; omega)
        first | exact hgo | ((repeat apply Exists.intro); exact ⟨hgo, rfl⟩)
      case measure => simp [intOf]; have := HI.out; omega
    · obtain rfl : i = m := by omega
      have HR := Lib.hid (And.intro hRl (And.intro hR (And.intro hRo (And.intro hA1 hkw)))); clear hRl hR hRo hA1 hkw
      go_upto_region 30 with fail
      have hA1 := HR.out.2.2.2.1
      have hkw := HR.out.2.2.2.2
      obtain ⟨hAt, _, hvs, hv1⟩ := HA.out
      obtain ⟨lg, lc, hlv, hlc, hlm⟩ := row_shape hvs
      have hlv1 : A1.lv = A.lv := HC.out.2.2.1.lv
      obtain ⟨bs, _, _, hrb⟩ := hAt.row
      have np1 : A.lv.ownBlock ≠ some b := row_apart_blk hvs hAt.blk (by decide)
      have np2 : A.lv.ownBlock ≠ some A.g := row_apart hvs hrb (by decide)
      have hvw : RowAt wr 109 1 A.lv lev vs := hvs.same fun g hg => hkw.block g (hvs.lt hg) (by simp; exact ⟨fun e => np1 (by rw [hg, e]), fun e => np2 (by rw [hg, e])⟩)
      have c7 : wr.cell? ⟨b, 7, none⟩ = some A.lv := by rw [← hlv1]; exact hA1.cells.2.2.2.2.2.2.2
      have hni : A1.lv.ownBlock ≠ some b ∧ A1.lv.ownBlock ≠ some A1.g := by rw [hlv1, HC.out.2.2.1.g]; exact ⟨np1, np2⟩
      obtain ⟨rv, hrv⟩ : ∃ rv, rv = Value.slice (some ⟨g9, o9, none⟩) i cp9 := ⟨_, rfl⟩
      have hrc : rv.cells = #[rv] := by rw [hrv]; rfl
      have hr1 : rv.oneCell' = true := by rw [hrv]; rfl
      have hbs := one_ats rv hrc wr
      obtain ⟨i0, hi0, hz0, hz1, hz2⟩ := info_parts atsZero
      have hRa : RowAt (wr.alloc (.cells #[rv] 109)) 109 1 A.lv lev vs := hvw.same fun g hg => (MapKept.heap_alloc wr _).2 g (hvw.lt hg)
      have hnew : Reads (wr.alloc (.cells #[rv] 109)) (.slice (some ⟨wr.heap.size, 0, none⟩) 1 1) 1 [rv] := .inr ⟨⟨wr.heap.size, 0, none⟩, 1, rfl, rfl, fun j u hu => by
        rw [Nat.zero_add]; exact cell_of alloc_new (by rw [← hu]; cases j <;> rfl)⟩
      have hone : ∀ u ∈ [rv], u.oneCell' = true := fun u hu => by simp at hu; rw [hu]; exact hr1
      subst hrv
      have HX := Lib.hid (And.intro hr1 (And.intro hA1 (And.intro hkw (And.intro hvw (And.intro hni hlv1))))); clear hAt hvs hv1 hlv1 hrb np1 np2 hvw hA1 hkw hni hr1 hrc
      rw [hlv] at c7 hRa
      have HLv := Lib.hid hlv; clear hlv
      go_wp2_with (first
        | (at_builtin; refine wpList_append_row _ rfl _ _ 56 rfl 109 i0 (.slice none 0 0) 1 24 Tryz.underlying56 hi0 hz0 hz1 hz2 rfl _ (.slice (some ⟨wr.heap.size, 0, none⟩) 1 1) rfl rfl lev vs hRa 1 [.slice (some ⟨g9, o9, none⟩) i cp9] hnew rfl hone ?hmx ?hby ?_)
        | fail)
      case hmx => unfold maxLen; omega
      case hby => omega
      intro v' w5 hrow' hgrow hblk' g5 o5 c5 hsl
      subst hsl
      have hlv := HLv.out
      rw [← hlv] at hgrow hblk'
      obtain ⟨_, hA1, hkw, hvw, ⟨np1, np2⟩, hlv1⟩ := HX.out
      have hblt := HA.out.1.lt
      have hglt := HA.out.1.glt
      have hsg : A1.g = A.g := HC.out.2.2.1.g
      have kx : Keeps A.lv.ownBlock.toList wr w5 := ((Keeps.alloc wr _).mono (G := A.lv.ownBlock.toList) (by simp)).trans ((Keeps.grown hgrow).mono (G := A.lv.ownBlock.toList) (fun i hi => .inl (by simp only [Option.mem_toList] at hi ⊢; exact hi))) (fun i hi => .inl hi)
      have np9 : A.lv.ownBlock ≠ some g9 := row_apart hvw HR.out.2.1 (by decide)
      rw [hlv1] at np1 np2
      have hA5 := hA1.keeps kx (by simpa [Option.mem_toList] using np1) (by simpa [Option.mem_toList] using np2)
      have hR5 : RowAt w5 115 22 (.slice (some ⟨g9, o9, none⟩) i cp9) i (flatR R1) := HR.out.2.1.same fun g hg => by
        cases hg
        exact kx.block g9 (HR.out.2.1.lt rfl) (by simpa [Option.mem_toList] using np9)
      have n5 : g5 ≠ b := fun e => by
        rcases hblk' with h1 | ⟨g, h1, h2⟩
        · exact np1 (by rw [← h1, e]; rfl)
        · have : g5 = g := by simpa [Value.ownBlock] using h1
          have q := hkw.size
          omega
      have nw5 : ∀ g, (Value.slice (some ⟨g5, o5, none⟩) (lev + 1) c5).ownBlock = some g → A.lv.ownBlock = some g ∨ w.heap.size ≤ g := fun g hg => by
        rcases hblk' with h1 | ⟨g', h1, h2⟩
        · exact .inl (by rw [← h1]; exact hg)
        · have e : g = g' := by rw [h1] at hg; exact (Option.some.inj hg).symm
          have q := hkw.size
          exact .inr (by omega)
      have c7' := hA5.cells.2.2.2.2.2.2.2
      have f7' := hA5.free 7
      have hA6 := hA5.setc (i := 7) (v := .slice (some ⟨g5, o5, none⟩) (lev + 1) c5) (A' := { A1 with lv := .slice (some ⟨g5, o5, none⟩) (lev + 1) c5 }) rfl rfl rfl rfl
      rw [hlv1, hlv] at c7'
      have HF := Lib.hid (And.intro hrow' (And.intro kx (And.intro hR5 (And.intro n5 (And.intro hA6 nw5))))); clear hrow' kx hR5 n5 hA6 nw5 hgrow hblk' hlv hA1 hkw hvw np1 np2 np9 hlv1 hA5 hsg
      go_wp2_with fail
      go_ret
      obtain ⟨hrow', kx, hR5, n5, hA6, nw5⟩ := HF.out
      obtain ⟨hA1, ok1, sm1, _, _, _, hR1, hRn, _⟩ := HC.out
      have hb1 := HA.out.1.lt
      have hR6 : RowAt (w5.setCell ⟨b, 7, none⟩ (.slice (some ⟨g5, o5, none⟩) (lev + 1) c5)) 115 22 (.slice (some ⟨g9, o9, none⟩) R1.length cp9) R1.length (flatR R1) := by
        rw [HR.out.1]
        exact hR5.same fun g hg => by cases hg; exact set_other (by show b ≠ g9; omega)
      refine ⟨?_, .inr ⟨rfl, { A1 with lv := .slice (some ⟨g5, o5, none⟩) (lev + 1) c5 }, .slice (some ⟨g9, o9, none⟩) i cp9, R1, hA6, ⟨ok1.used, ok1.value, ok1.values, ok1.node, ok1.nodes⟩, sm1.g, sm1.n, sm1.S, nw5, hrow'.same fun g hg => by cases hg; exact set_other (Ne.symm n5), ?_, HR.out.2.2.1, by rw [HR.out.1]; omega, by rw [HR.out.1]; omega⟩⟩
      · refine ((HX.out.2.2.1.mono (G := [b, A.g] ++ A.lv.ownBlock.toList) (fun i hi => .inl (List.mem_append_left _ hi))).trans (kx.mono (G := [b, A.g] ++ A.lv.ownBlock.toList) (fun i hi => .inl (List.mem_append_right _ hi))) (fun i hi => .inl hi)).trans (Keeps.setCell w5 b 7 _) (fun i hi => .inl (by simp at hi; simp [hi]))
      · have := hR6
        rw [HR.out.1] at this ⊢
        exact this
end Go.Proofs.YtdbbbaallalhoaaGreat.ar
