/-
  PROVED HERE: the iterator over a word's bits (bits.All), bits.May, slab.word: what they answer is of its kind; nothing that was there is turned. Conditions: the places are in the bytes.
-/
import Derived.Test.YtdbbbaallalhoaaGreatBtA
import Derived.Test.YtdbbbaallalhoaaGreatSpOf
namespace Go.Proofs.YtdbbbaallalhoaaGreat.bt
open Go.RowKit Go.Shelf Go.Proofs.YtdbbbaallalhoaaGreat.pm Go.Proofs.YtdbbbaallalhoaaGreat.ar Go.Proofs.YtdbbbaallalhoaaGreat.rn
set_option linter.unusedVariables false
attribute [local go_sem] Oper.semAt_some

theorem all_any (x : Int) (w : World) : Calls Tryz.prog 48 #[.int .u64 x] w fun e w' => e = .returned (.func (.func 77) #[] #[.pointer (some ⟨w.heap.size, 0, none⟩)]) ∧ w' = w.alloc (.cells #[.int .u64 x] 26) := by
  go_enter Tryz.func48, Tryz.ntmps48
  go_wp2_with fail
  go_ret
  exact ⟨rfl, rfl⟩

set_option maxRecDepth 100000 in
set_option maxHeartbeats 1000000 in
theorem all1_seq (n : Nat) (hn : 1 ≤ n) (bx : Nat) (x : Int) (w : World) (hc : w.cell? ⟨bx, 0, none⟩ = some (.int .u64 x)) :
    SeqN Fence.wide n Tryz.prog 77 #[.pointer (some ⟨bx, 0, none⟩)] (fun j : Nat => #[.int .i64 j]) (fun _ _ W W' => W'.heap[bx]? = W.heap[bx]?) (fun _ _ _ j _ => j < 64) (fun _ => True) (fun _ => True) 64 w := by
  intro l J Jx W hW hJ hJx hY h0
  have d1 : W.cell? ⟨bx, 0, none⟩ = some (.int .u64 x) := (hW.cell (p := ⟨bx, 0, none⟩) (World.block_lt_of_cell? _ _ hc)).trans hc
  have hJ0 := h0 none (fun k e => by cases e)
  clear hc hW h0
  have HY := Lib.hid hY; clear hY
  have HJ := Lib.hid hJ; clear hJ
  have HJx := Lib.hid hJx; clear hJx
  refine callsIn_of_wp Tryz.func77 rfl trivial ?_ rfl
  simp only [Tryz.ntmps77, List.size_toArray, List.length_cons, List.length_nil, Nat.reduceAdd, Nat.reduceSub, Array.replicate_succ, Array.replicate_zero, List.push_toArray, List.append_toArray, List.nil_append, List.cons_append]
  gi_wp2
  gi_loopw [4] (fun s4 wr => ∃ (k : Nat) (pre : List Nat), s4 = .int .i64 k ∧ k ≤ 64 ∧ pre.length ≤ k ∧ wr.cell? ⟨bx, 0, none⟩ = some (.int .u64 x) ∧ J none pre wr) (fun s4 _ => 64 - (RowKit.intOf s4).toNat)
  case atStart => exact ⟨0, [], rfl, by omega, by simp, d1, hJ0⟩
  case round =>
    obtain ⟨k, pre, rfl, hk, hpl, d1, hJs⟩ := hrel
    by_cases hlt : k < 64
    · have hltI : (k : Int) < 64 := by omega
      have HH := Lib.hid (callsIn_wide (n := n - 1) |>.2 (has_any x k wr hlt))
      obtain ⟨fn, tmps, assign, body, hy, hRd⟩ := HY.out none pre k wr (fun k e => by cases e) (fun k e => by cases e) hJs hlt (by omega)
      have HD := Lib.hid (And.intro hy (And.intro hRd hJs)); clear hy hRd hJs
      gi_wp2
      refine ⟨trivial, HH.out.mono ?_⟩
      rintro e w' ⟨c, rfl, rfl⟩
      cases c with
      | true =>
        obtain ⟨hy, hRd, hJs⟩ := HD.out
        clear hJs
        gi_wp2
        refine hRd.mono ?_
        rintro e W3 (⟨rfl, hJ3, hk3⟩ | ⟨rfl, hJx3⟩)
        · have f1 : W3.cell? ⟨bx, 0, none⟩ = some (.int .u64 x) := by rw [World.cell?_of_block hk3]; exact d1
          have HK := Lib.hid hJ3; clear hJ3 hk3
          gi_wp2
          go_roundw
          case rel => exact ⟨k + 1, pre ++ [k], by go_num, by omega, by simp; omega, f1, HK.out⟩
          case measure => simp [RowKit.intOf]; omega
        · have HK := Lib.hid hJx3; clear hJx3
          gi_wp2
          refine bodyPost_ret (results_none rfl _ _ _) rfl ?_
          exact ⟨⟨_, rfl⟩, none, (fun k e => by cases e), .inr ⟨_, trivial, HK.out⟩⟩
      | false =>
        have hJs := Lib.hid HD.out.2.2
        have e1 : IntKind.i64.wrap ((k : Int) + 1) = (k : Int) + 1 := IntWalk.i64_in _ (by omega)
        gi_wp2_with (refine ⟨fun f hf => (by cases hf), ?_⟩)
        go_roundw
        case rel => exact ⟨k + 1, pre, by go_num, by omega, by omega, d1, hJs.out⟩
        case measure => simp [RowKit.intOf]; omega
    · obtain rfl : k = 64 := by omega
      have HK := Lib.hid hJs; clear hJs
      gi_wp2
      go_end0
      exact ⟨⟨_, rfl⟩, none, (fun k e => by cases e), .inl ⟨pre, trivial, HK.out⟩⟩

/-- bits.May answers something. -/
def MayPost (w : World) (e : Ending) (w' : World) : Prop := ∃ b, e = .returned (.bool b) ∧ Keeps [] w w'
/-- What holds between two rounds of May. -/
def MayI (w : World) (N : Nat) (y : Int) (b : Bool) (nb : Option Nat) (pre : List Nat) (W : World) : Prop :=
  Boxed W N 3 (.int .i64 y) ∧ Boxed W (N + 1) 4 (.bool b) ∧ Keeps [] w W ∧ N + 3 ≤ W.heap.size
theorem mayI_abd {w : World} {N B : Nat} {y : Int} {b : Bool} (hN : N = w.heap.size) (hB : B = N + 3) : AbdX B (MayI w N y b) := by
  rintro nb s W W' row hnb ⟨h1, h2, hk, hsz⟩ hg hr
  have hn : ∀ k, k < B → nb ≠ some k := fun k hk e => by have := hnb k e; omega
  refine ⟨abd_same hg hr h1 (.inl rfl) (hn _ (by omega)), abd_same hg hr h2 (.inl rfl) (hn _ (by omega)), ?_, Nat.le_trans hsz hg.size⟩
  exact hk.trans (Keeps.grown hg) (fun i hi => by
    cases row with
    | none => simp at hi
    | some r =>
      simp only [Option.toList_some, List.mem_singleton] at hi
      subst hi
      rcases hr i rfl with ⟨h, _⟩ | ⟨h, _⟩
      · have := hnb i h; exact .inr (by omega)
      · exact .inr (by omega))

set_option maxRecDepth 100000 in
set_option maxHeartbeats 4000000 in
theorem bmay_in (n : Nat) (hn : 5 ≤ n) (x y : Int) (w : World) : CallsIn Fence.wide n Tryz.prog 45 #[.int .u64 x, .int .i64 y] w (MayPost w) := by
  have h11 : 1 ≤ n := by omega
  refine callsIn_of_wp_marks Tryz.func45 rfl trivial ?_ rfl
  simp only [Tryz.ntmps45, List.size_toArray, List.length_cons, List.length_nil, Nat.reduceAdd, Nat.reduceSub, Array.replicate_succ, Array.replicate_zero, List.push_toArray, List.append_toArray, List.nil_append, List.cons_append]
  gi_wp2
  obtain ⟨N, hN⟩ : ∃ N, N = w.heap.size := ⟨_, rfl⟩
  obtain ⟨W0, hW0⟩ : ∃ W0, W0 = ((w.alloc (.cells #[.int .i64 y] 3)).alloc (.cells #[.bool false] 4)) := ⟨_, rfl⟩
  have hs0 : W0.heap.size = N + 2 := by rw [hW0, hN]; simp
  have hk0 : Keeps [] w W0 := by rw [hW0]; exact (Keeps.alloc w _).trans (Keeps.alloc _ _) (by simp)
  have hb0 : Boxed W0 N 3 (.int .i64 y) := by rw [hW0, hN]; exact alloc_old alloc_new
  have hp0 : Boxed W0 (N + 1) 4 (.bool false) := by
    rw [hW0, hN]
    have := alloc_new (w := w.alloc (.cells #[.int .i64 y] 3)) (o := .cells #[.bool false] 4)
    rwa [World.size_alloc] at this
  rw [← hW0, ← hN]
  clear hW0
  refine ⟨trivial, (callsIn_wide.2 (all_any x W0)).mono ?_⟩
  rintro e W1 ⟨rfl, hW1⟩
  rw [hs0]
  have hk1 : Keeps [] W0 W1 := by rw [hW1]; exact Keeps.alloc W0 _
  have hs1 : W1.heap.size = N + 3 := by rw [hW1]; simp [hs0]
  have q1 : W1.cell? ⟨N + 2, 0, none⟩ = some (.int .u64 x) := by rw [hW1, ← hs0]; exact cell_of alloc_new rfl
  have hI : MayI w N y false none [] W1 := ⟨(hk1.block _ hb0.lt (by simp)).trans hb0, (hk1.block _ hp0.lt (by simp)).trans hp0, hk0.trans hk1 (by simp), by omega⟩
  have HN := Lib.hid hN
  have HI := Lib.hid (And.intro hI hs1)
  clear hW1 hk0 hb0 hp0 hk1 hs0 hN hI
  gi_wp2
  have hN := HN.out
  refine wpIn_range_n (α := Nat) rfl h11 (gf := 77) (lb := #[.pointer (some ⟨N + 2, 0, none⟩)]) rfl trivial (enters_of Tryz.func77 (by kernel_rfl) rfl)
    (all1_seq (n - 1) (by omega) (N + 2) x W1 q1)
    (fun x X Y Z h1 h2 => h2.trans h1)
    (fun x W l o o' hl ho hcells hwalk => World.putObj_heap_other (by omega))
    (fun _ => rfl)
    (MayI w N y false) (fun c nb pre W => c = .ret ∧ MayI w N y false nb pre W) (mayI_abd (by omega) (by omega)) (fun c nb s W W' row hnb h hg hr => ⟨h.1, mayI_abd (B := W1.heap.size) (by omega) (by omega) nb s W W' row hnb h.2 hg hr⟩)
    (fun nb hnb => HI.out.1)
    (fun nb pre j a' W => a' = { tmps := #[.int .u64 x, .int .i64 y, undef, .pointer (some ⟨N, 0, none⟩), .pointer (some ⟨N + 1, 0, none⟩), .int .i64 (j : Nat), .int .u64 x, .func (.func 77) #[] #[.pointer (some ⟨N + 2, 0, none⟩)], .int .i64 (j : Nat), undef, undef, undef], defers := [] } ∧ MayI w N y false nb pre W ∧ NbOk (W1.heap.size + 2) nb)
    ?ax ?assign ?body ?done ?stop
  case ax =>
    rintro nb pre x a' W l o o' ⟨h1, h2, h3⟩ hl ho hcells hwalk
    exact ⟨h1, (mayI_abd (B := W1.heap.size) (by omega) (by have := HI.out.2; omega)).putObj _ h3 h2 hl ho hcells hwalk, h3⟩
  case assign =>
    intro l nb pre j W K hnb hnl hi hpx hlen hK
    dsimp only
    have HI2 := Lib.hid hi
    clear hi hN
    gi_wp2
    exact hK _ _ (KeepsRec.refl _ _) rfl ⟨rfl, HI2.out, hnb⟩
  case body =>
    rintro l nb pre j a' W hnb hnl ⟨rfl, hi, _⟩ hlt2 hl
    obtain ⟨h1, h2, hk, hsz⟩ := hi
    have c1 := h1.cell
    have c2 := h2.cell
    have f2 := free_of (i := 0) h2
    have HX := Lib.hid (And.intro h1 (And.intro h2 (And.intro hk hsz))); clear h1 h2 hk hsz hN
    by_cases hyj : y ≤ (j : Int)
    · gi_wp2
      obtain ⟨h1, h2, hk, hsz⟩ := HX.out
      have hN := HN.out
      have hs1 := HI.out.2
      have hne : ∀ i, i ≠ N + 1 → (W.setCell ⟨N + 1, 0, none⟩ (.bool false)).heap[i]? = W.heap[i]? := fun i hi => set_other (Ne.symm hi)
      refine ⟨⟨by simp [World.setCell], fun k o hB hko hc hwk => ?_⟩, rfl, ?_⟩
      · have : k ≠ N + 1 := fun e => by rw [e, h2] at hko; cases hko; cases hc
        rw [hne k this]; exact hko
      · exact ⟨(hne N (by omega)).trans h1, by have := set_same (i := 0) (v := .bool false) h2; exact this, hk.trans (Keeps.setCell W (N + 1) 0 _) (fun i hi => .inr (by simp at hi; omega)), by simp [World.setCell]; omega⟩
    · gi_wp2
      exact ⟨KeepsRec.refl _ _, rfl, HX.out⟩
  case done =>
    rintro D nb ys W hD hys ⟨h1, h2, hk, hsz⟩ hK
    have c2 := h2.cell
    have f2 := free_of (i := 0) h2
    have HX := Lib.hid (And.intro h1 (And.intro h2 (And.intro hk (And.intro hsz (And.intro hK hD))))); clear h1 h2 hk hsz hN hK hD
    gi_wp2
    obtain ⟨h1, h2, hk, hsz, hK, hD⟩ := HX.out
    have hN := HN.out
    have hs1 := HI.out.2
    have hset := set_same (i := 0) (v := .bool true) h2
    have hcl : (W.setCell ⟨N + 1, 0, none⟩ (.bool true)).cell? ⟨N + 1, 0, none⟩ = some (.bool true) := cell_of hset rfl
    have hD5 : (W.setCell ⟨N + 1, 0, none⟩ (.bool true)).heap[D]? = some (.deferred (some [])) := (set_other (by omega)).trans hK
    have hDl := lt_of hK
    have k5 : Keeps [] w (W.setCell ⟨N + 1, 0, none⟩ (.bool true)) := hk.trans (Keeps.setCell W (N + 1) 0 _) (fun i hi => .inr (by simp at hi; omega))
    have hcl6 : ((W.setCell ⟨N + 1, 0, none⟩ (.bool true)).putObj D (.deferred none)).cell? ⟨N + 1, 0, none⟩ = some (.bool true) := by
      rw [World.cell?_of_block (World.putObj_heap_other (by show N + 1 ≠ D; omega))]; exact hcl
    have k6 : Keeps [] w ((W.setCell ⟨N + 1, 0, none⟩ (.bool true)).putObj D (.deferred none)) := k5.trans (Keeps.putObj _ _ _) (fun i hi => .inr (by simp at hi; omega))
    refine ⟨by simp, .inl ⟨_, _, rfl, run_takeDeferred hD5, ?_⟩⟩
    refine ⟨.bool true, ?_, true, rfl, k6⟩
    simp [results, Tryz.results45, go_sem, hcl6]
  case stop =>
    rintro D nb c pre W hD _ ⟨rfl, h1, h2, hk, hsz⟩ hK
    have hs1 := HI.out.2
    have c2 := h2.cell
    have hcl6 : (W.putObj D (.deferred none)).cell? ⟨N + 1, 0, none⟩ = some (.bool false) := by
      rw [World.cell?_of_block (World.putObj_heap_other (by show N + 1 ≠ D; omega))]; exact c2
    have k6 : Keeps [] w (W.putObj D (.deferred none)) := hk.trans (Keeps.putObj _ _ _) (fun i hi => .inr (by simp at hi; omega))
    have HX := Lib.hid (And.intro hK (And.intro hcl6 k6)); clear h1 h2 hk hsz hN c2 hK hcl6 k6
    gi_wp2
    obtain ⟨hK, hcl6, k6⟩ := HX.out
    refine ⟨by simp, .inl ⟨_, _, rfl, run_takeDeferred hK, ?_⟩⟩
    refine ⟨.bool false, ?_, false, rfl, k6⟩
    simp [results, Tryz.results45, go_sem, hcl6]

theorem bmay_any (x y : Int) (w : World) : Calls Tryz.prog 45 #[.int .u64 x, .int .i64 y] w (MayPost w) := (callsIn_wide (n := 5)).1 (bmay_in 5 (Nat.le_refl _) x y w)

set_option maxHeartbeats 1000000 in
/-- A word of an image. -/
theorem sword_any {w : World} {g n : Nat} {bs : List Int} (h : RowAt w 5 1 (.slice (some ⟨g, 0, none⟩) n n) n (bs.map (Value.int .u8))) (hb : ∀ b ∈ bs, Byte b) (p : Nat) (hp : p + 8 ≤ n) (hn : n ≤ 1100000) :
    Calls Tryz.prog 42 #[.slice (some ⟨g, 0, none⟩) n n, .int .u64 p] w fun e w' => ∃ x, e = .returned (.int .u64 x) ∧ U64 x ∧ w' = w := by
  have hl : bs.length = n := by have := h.1; simpa using this
  have HR := Lib.hid (And.intro h (And.intro hb hl)); clear h hb hl
  go_enter Tryz.func42, Tryz.ntmps42
  go_wp2_with fail
  go_loopw [4, 6] (fun s4 s6 wr => ∃ (k : Nat) (y : Int), k ≤ 8 ∧ s4 = .int .u64 y ∧ U64 y ∧ s6 = .int .u64 k ∧ wr = w) (fun _ s6 _ => 8 - (intOf s6).toNat)
  case atStart => exact ⟨0, 0, by omega, rfl, ⟨by omega, by omega⟩, rfl, rfl⟩
  case round =>
    obtain ⟨k, y, hk, rfl, hy, rfl, rfl⟩ := hrel
    by_cases hlt : k < 8
    · obtain ⟨hr, hby, hl⟩ := HR.out
      have hkI : (k : Int) < 8 := by omega
      obtain ⟨q, hq⟩ : ∃ q, q = p + k := ⟨_, rfl⟩
      obtain ⟨z, hz⟩ : ∃ z, bs[q]? = some z := ⟨_, List.getElem?_eq_getElem (by omega)⟩
      have hzb := hby z (List.mem_of_getElem? hz)
      have cz : wr.cell? ⟨g, q, none⟩ = some (.int .u8 z) := by
        have := hr.cell (j := q) (u := .int .u8 z) (by rw [List.getElem?_map, hz]; rfl)
        rw [Nat.zero_add] at this; exact this
      have e1 : IntKind.u64.wrap ((p : Int) + (k : Int)) = (q : Int) := by rw [IntWalk.u64_in _ (by omega)]; omega
      have e2 : (q : Int) < (n : Int) := by omega
      have e4 : IntKind.u64.wrap z = z := IntWalk.u64_in _ (by unfold Byte at hzb; omega)
      have e5 : IntKind.u64.wrap (8 * (k : Int)) = 8 * (k : Int) := IntWalk.u64_in _ (by omega)
      have e6 : IntKind.u64.wrap ((k : Int) + 1) = (k : Int) + 1 := IntWalk.u64_in _ (by omega)
      clear hr hby hl hz hzb hq
      go_wp2_with fail
      go_roundw
      case rel =>
        refine ⟨k + 1, _, by omega, rfl, ?_, by go_num, trivial⟩
        have h1 := bits_lo_u64 .or y (IntKind.u64.wrap (z * 2 ^ (8 * k)))
        have h2 := bits_hi_u64 .or y (IntKind.u64.wrap (z * 2 ^ (8 * k)))
        unfold U64
        omega
      case measure => simp [intOf]; omega
    · obtain rfl : k = 8 := by omega
      go_wp2_with fail
      go_ret
      exact ⟨y, rfl, hy, rfl⟩
end Go.Proofs.YtdbbbaallalhoaaGreat.bt
