/-
  PROVED HERE: the contract of script's Parse: the script of a text, or the number of the first bad line and its error. Conditions: short lines; a text that is not as long as the largest int; the library's tables lie (Env).
-/
import Derived.Test.YtnnahodajiolmaaGreatDoorScParP
import Derived.Sort.CutIn
namespace Go.Proofs.YtnnahodajiolmaaGreatDoor.sc
open Go Go.RowKit
set_option linter.unusedVariables false
attribute [local go_sem] Oper.semAt_some

def ParsePost (w : World) (t : Bs) (e : Ending) (w' : World) : Prop :=
  Below w.heap.size w w' ∧ ∃ v, ActsR w' v (parseP t).1.acts ∧ e = .returned (.tuple #[.agg (scC (parseP t).1 v), .int .i64 (parseP t).2.1, .int .i64 (parseP t).2.2])
theorem res_parse {X : World} {b b2 b3 : Nat} {s : Sc} {v : Value} {k e : Int} {tmps : Array Value} (hB : Blk X b 25 (scC s v)) (hK : Blk X b2 3 #[.int .i64 k]) (he : Blk X b3 26 #[.int .i64 e])
    (h2 : tmps[2]? = some (.pointer (some ⟨b, 0, none⟩))) (h3 : tmps[3]? = some (.pointer (some ⟨b2, 0, none⟩))) (h4 : tmps[4]? = some (.pointer (some ⟨b3, 0, none⟩))) :
    (results Tryz.f4 tmps).run Tryz.prog X = .ok (.tuple #[.agg (scC s v), .int .i64 k, .int .i64 e]) X := by
  have e0 : X.cell? ⟨b, 0, none⟩ = some (.int .i64 s.slabs) := hB.cell 0
  have e1 : X.cell? ⟨b, 1, none⟩ = some (.int .i64 s.clients) := hB.cell 1
  have e2 : X.cell? ⟨b, 2, none⟩ = some v := hB.cell 2
  have f0 : X.cell? ⟨b2, 0, none⟩ = some (.int .i64 k) := hK.cell 0
  have g0 : X.cell? ⟨b3, 0, none⟩ = some (.int .i64 e) := he.cell 0
  cases v <;> simp [results, Tryz.results4, go_sem, h2, h3, h4, e0, e1, e2, f0, g0, scC]

/-- Between two rounds: the script so far. -/
def ParI (w : World) (pre : List Bs) (W : World) : Prop :=
  ∃ s v a kl, foldP 0 (Sc.zero, Ac.zero) pre = .ok (s, a) ∧ PB w s v a kl pre.length W ∧ s.acts.length ≤ 100000 ∧ a.keep.length ≤ 1000000
/-- Behind a bad line: the results. -/
def ParX (w : World) (pre : List Bs) (W : World) : Prop :=
  ∃ (k : Nat) (e : Int), foldP 0 (Sc.zero, Ac.zero) pre = .error (k, e) ∧ Blk W w.heap.size 25 (scC Sc.zero (.slice none 0 0)) ∧ Blk W (w.heap.size + 1) 3 #[.int .i64 k] ∧ Blk W (w.heap.size + 2) 26 #[.int .i64 e] ∧ Below w.heap.size w W
theorem parI_abd (w : World) (pre : List Bs) : Abd 9 (w.heap.size + 6) (w.heap.size + 7) (ParI w pre) := by
  rintro W W' row ⟨s, v, a, kl, h1, h2, h3⟩ hg hr
  refine ⟨s, v, a, kl, h1, ?_, h3⟩
  by_cases hc : row = some (w.heap.size + 6)
  · subst hc
    rcases hr _ rfl with ⟨_, cs, hcs⟩ | ⟨hb, _⟩
    · obtain ⟨g1, g2, g3, g4, g5, g6, _, g8, g9, g10⟩ := h2.low hg (by omega) (by omega)
      exact ⟨g1 (by omega), g2 (by omega), g3 (by omega), g4 (by omega), g5 (by omega), g6 (by omega), ⟨cs, hcs⟩, g8, g9, g10, h2.kb⟩
    · omega
  · refine h2.turn hg fun r e => ?_
    rcases hr r e with ⟨rfl, _⟩ | ⟨hb, o, ho, hc2⟩
    · exact absurd e hc
    · refine ⟨hb, fun e2 => ?_, fun hn e2 => ?_, fun cs e2 => ?_⟩
      · obtain ⟨xs, hx, _⟩ := h2.ao
        rcases hx.2 with ⟨rfl, _⟩ | ⟨g, cap, cur, rfl, _, h4, _⟩
        · cases e2
        · injection e2 with e2
          subst e2
          rw [h4] at ho
          injection ho with ho
          rw [← ho] at hc2; cases hc2
      · obtain ⟨o2, ho2, hc3⟩ := kr_cells h2.kr hn e2
        rw [ho2] at ho; injection ho with ho
        rw [← ho, hc3] at hc2; cases hc2
      · rw [e2] at ho; injection ho with ho
        rw [← ho] at hc2; cases hc2
theorem parX_abd (w : World) (pre : List Bs) : Abd 9 (w.heap.size + 6) (w.heap.size + 7) (ParX w pre) := by
  rintro W W' row ⟨k, e, h1, h2, h3, h4, h5⟩ hg hr
  have ne : ∀ g, g < w.heap.size + 6 → some g ≠ row := fun g hg e => by
    rcases hr g e.symm with ⟨h, _⟩ | ⟨h, _⟩ <;> omega
  exact ⟨k, e, h1, h2.grown hg (ne _ (by omega)), h3.grown hg (ne _ (by omega)), h4.grown hg (ne _ (by omega)), h5.grown hg h5.size (fun g e => by rcases hr g e with ⟨h, _⟩ | ⟨h, _⟩ <;> omega)⟩

theorem par_start (w : World) (t : Bs) (W : World) (hW : W = (((((w.alloc (.cells #[.int .i64 0, .int .i64 0, .slice none 0 0] 25)).alloc (.cells #[.int .i64 0] 3)).alloc (.cells #[.int .i64 0] 26)).alloc (.cells #[.int .i64 0, .int .i64 0, .slice none 0 0] 25)).alloc (.cells zCs 40)).alloc (.cells #[.int .i64 0] 3)) :
    W.heap.size = w.heap.size + 6 ∧ PB w Sc.zero (.slice none 0 0) Ac.zero (.slice none 0 0) 0 (W.alloc (.cells #[.string (mk t)] 9)) := by
  obtain ⟨W1, h1⟩ : ∃ X, X = w.alloc (.cells #[.int .i64 0, .int .i64 0, .slice none 0 0] 25) := ⟨_, rfl⟩
  obtain ⟨W2, h2⟩ : ∃ X, X = W1.alloc (.cells #[.int .i64 0] 3) := ⟨_, rfl⟩
  obtain ⟨W3, h3⟩ : ∃ X, X = W2.alloc (.cells #[.int .i64 0] 26) := ⟨_, rfl⟩
  obtain ⟨W4, h4⟩ : ∃ X, X = W3.alloc (.cells #[.int .i64 0, .int .i64 0, .slice none 0 0] 25) := ⟨_, rfl⟩
  obtain ⟨W5, h5⟩ : ∃ X, X = W4.alloc (.cells zCs 40) := ⟨_, rfl⟩
  rw [← h1, ← h2, ← h3, ← h4, ← h5] at hW
  have s1 : W1.heap.size = w.heap.size + 1 := by rw [h1]; simp
  have s2 : W2.heap.size = w.heap.size + 2 := by rw [h2]; simp; omega
  have s3 : W3.heap.size = w.heap.size + 3 := by rw [h3]; simp; omega
  have s4 : W4.heap.size = w.heap.size + 4 := by rw [h4]; simp; omega
  have s5 : W5.heap.size = w.heap.size + 5 := by rw [h5]; simp; omega
  have s6 : W.heap.size = w.heap.size + 6 := by rw [hW]; simp; omega
  have b1 : Blk W1 w.heap.size 25 #[.int .i64 0, .int .i64 0, .slice none 0 0] := by rw [h1]; exact Blk.new _ _ _
  have b2 : Blk W2 (w.heap.size + 1) 3 #[.int .i64 0] := by rw [h2, ← s1]; exact Blk.new _ _ _
  have b3 : Blk W3 (w.heap.size + 2) 26 #[.int .i64 0] := by rw [h3, ← s2]; exact Blk.new _ _ _
  have b4 : Blk W4 (w.heap.size + 3) 25 #[.int .i64 0, .int .i64 0, .slice none 0 0] := by rw [h4, ← s3]; exact Blk.new _ _ _
  have b5 : Blk W5 (w.heap.size + 4) 40 zCs := by rw [h5, ← s4]; exact Blk.new _ _ _
  have b6 : Blk W (w.heap.size + 5) 3 #[.int .i64 0] := by rw [hW, ← s5]; exact Blk.new _ _ _
  have d : Below w.heap.size w W := by
    rw [hW, h5, h4, h3, h2, h1]
    exact ((((((Below.refl _ w).alloc (Nat.le_refl _) _).alloc (by simp) _).alloc (by simp; omega) _).alloc (by simp; omega) _).alloc (by simp; omega) _).alloc (by simp; omega) _
  have c2 : Blk W2 w.heap.size 25 #[.int .i64 0, .int .i64 0, .slice none 0 0] := by rw [h2]; exact b1.alloc _
  have c3 : Blk W3 w.heap.size 25 #[.int .i64 0, .int .i64 0, .slice none 0 0] ∧ Blk W3 (w.heap.size + 1) 3 #[.int .i64 0] := by rw [h3]; exact ⟨c2.alloc _, b2.alloc _⟩
  have c4 : Blk W4 w.heap.size 25 #[.int .i64 0, .int .i64 0, .slice none 0 0] ∧ Blk W4 (w.heap.size + 1) 3 #[.int .i64 0] ∧ Blk W4 (w.heap.size + 2) 26 #[.int .i64 0] := by rw [h4]; exact ⟨c3.1.alloc _, c3.2.alloc _, b3.alloc _⟩
  have c6 : Blk W w.heap.size 25 #[.int .i64 0, .int .i64 0, .slice none 0 0] ∧ Blk W (w.heap.size + 1) 3 #[.int .i64 0] ∧ Blk W (w.heap.size + 2) 26 #[.int .i64 0] ∧ Blk W (w.heap.size + 3) 25 #[.int .i64 0, .int .i64 0, .slice none 0 0] ∧ Blk W (w.heap.size + 4) 40 zCs := by
    rw [hW, h5]; exact ⟨(c4.1.alloc _).alloc _, (c4.2.1.alloc _).alloc _, (c4.2.2.alloc _).alloc _, (b4.alloc _).alloc _, by rw [← h5]; exact b5.alloc _⟩
  refine ⟨s6, c6.1.alloc _, c6.2.1.alloc _, c6.2.2.1.alloc _, c6.2.2.2.1.alloc _, c6.2.2.2.2.alloc _, b6.alloc _, ⟨_, by rw [← s6]; exact Blk.new _ _ _⟩, d.alloc d.size _, AO.nil _ _, RowR.nil _ _, fun h => absurd h (by decide)⟩

/-- The slots of the new act are cloned. -/
theorem par_slot {w W3 wr w8 w9 : World} {s : Sc} {v kl kv kv2 : Value} {a b : Ac} {k : Int} {bx B : Nat} {Zs : Nat} (hw9 : w9 = w8.setCell ⟨wr.heap.size, 9, none⟩ kv2) (h8 : PB w s v a kl k w8) (hr : PB w s v a kl k wr)
    (q8 : KQ w.heap.size (w.heap.size + 6) B W3 w8) (hvx : v.ownBlock ≠ some bx) (hbx : Blk w8 bx 40 (acC b kv)) (hlt : bx < wr.heap.size) (hg : Blk w8 wr.heap.size 40 (acC b kv)) (h7 : w.heap.size + 7 ≤ wr.heap.size)
    (ho : w8.ownsRow Zs 3 1 kv2 b.keep.length (b.keep.map (Value.int .i64))) (hz : Zs = wr.heap.size + 1) :
    PB w s v a kl k w9 ∧ KQ w.heap.size (w.heap.size + 6) B W3 w9 ∧ Blk w9 bx 40 (acC b kv) ∧ Blk w9 wr.heap.size 40 (acC b kv2) ∧ w9.ownsRow (w.heap.size + 7) 3 1 kv2 b.keep.length (b.keep.map (Value.int .i64)) ∧ v.ownBlock ≠ some bx := by
  have hgr : w8.grownBy w9 (some wr.heap.size) := by rw [hw9]; exact grown_set _ _ _
  refine ⟨h8.turn hgr fun r e => ?_, q8.trans (h8.kqHigh hgr h7 hg _), hbx.grown hgr (fun e => by injection e with e; omega), ?_, ?_, hvx⟩
  · injection e with e
    subst e
    refine ⟨h7, fun e2 => ?_, fun hn e2 => ?_, fun cs e2 => ?_⟩
    · obtain ⟨xs, hx, _⟩ := hr.ao
      have := (hx.lt _ e2).2; omega
    · obtain ⟨o, ho, _⟩ := kr_cells hr.kr hn e2
      have := (Array.getElem?_eq_some_iff.1 ho).1; omega
    · unfold Blk at hg
      rw [hg] at e2; injection e2 with e2; injection e2 with _ e2
      exact absurd e2 (by decide)
  · rw [hw9]; exact hg.set_ 9 kv2
  · have h1 := own_kept ho (w' := w9) (fun g cur hv hb hgg => by
      rw [hgr.block g (Array.getElem?_eq_some_iff.1 hgg).1 (fun e => by injection e with e; omega)]; exact hgg)
    refine ⟨h1.1, ?_⟩
    rcases h1.2 with h2 | ⟨g, cap, cur, h2, h3, h4⟩
    · exact .inl h2
    · exact .inr ⟨g, cap, cur, h2, by omega, h4⟩
theorem dec_true {en : Bool} {k : Nat} {q : Bool} {P : Prop} [Decidable P] (h : (!en || (decide (2 ≤ k) && (q && decide P))) = true) : en = false ∨ (2 ≤ k ∧ q = true ∧ P) := by
  cases en
  · exact .inl rfl
  · right; simpa using h
theorem dec_false {en : Bool} {k : Nat} {q : Bool} {P : Prop} [Decidable P] (h : (!en || (decide (2 ≤ k) && (q && decide P))) = false) : ¬ (en = false ∨ (2 ≤ k ∧ q = true ∧ P)) := by
  rintro (h1 | ⟨h1, h2, h3⟩)
  · rw [h1] at h; cases h
  · rw [decide_eq_true h1, h2, decide_eq_true h3] at h; simp at h

set_option maxHeartbeats 4000000 in
set_option maxRecDepth 100000 in
theorem parse_any {w : World} (t : Bs) (ht : t.length ≤ 1000000000000) (hl : ∀ x ∈ linesL t, x.length ≤ 900000) (E : Env w) : Calls Tryz.prog 4 #[.string (mk t)] w (ParsePost w t) := by
  obtain ⟨W, hW⟩ : ∃ W, W = (((((w.alloc (.cells #[.int .i64 0, .int .i64 0, .slice none 0 0] 25)).alloc (.cells #[.int .i64 0] 3)).alloc (.cells #[.int .i64 0] 26)).alloc (.cells #[.int .i64 0, .int .i64 0, .slice none 0 0] 25)).alloc (.cells zCs 40)).alloc (.cells #[.int .i64 0] 3) := ⟨_, rfl⟩
  have H0 := Lib.hid (par_start w t W hW)
  have HE := Lib.hid (And.intro ht (And.intro hl E))
  clear ht hl E
  refine (callsIn_wide (n := 5)).1 ?_
  refine callsIn_of_wp_marks Tryz.func4 rfl trivial ?_
  simp only [Tryz.ntmps4, List.size_toArray, List.length_cons, List.length_nil, Nat.reduceAdd, Nat.reduceSub, Array.replicate_succ, Array.replicate_zero, List.push_toArray, List.append_toArray, List.nil_append, List.cons_append]
  refine wpIn_wide.2 ?_
  go_upto_region 4 with fail
  rw [show w.heap.size + 1 + 1 + 1 + 1 + 1 = w.heap.size + 5 from rfl, show w.heap.size + 1 + 1 + 1 + 1 = w.heap.size + 4 from rfl, show w.heap.size + 1 + 1 + 1 = w.heap.size + 3 from rfl, show w.heap.size + 1 + 1 = w.heap.size + 2 from rfl]
  rw [← hW]
  clear hW
  go_wp2_with fail
  refine (strLines_any t).mono ?_; rintro e w12 ⟨rfl, hw12⟩
  have H12 := Lib.hid (show PB w Sc.zero (.slice none 0 0) Ac.zero (.slice none 0 0) 0 w12 ∧ Blk w12 (w.heap.size + 6) 9 #[.string (mk t)] ∧ w12.heap.size = w.heap.size + 7 from by
    rw [hw12]
    exact ⟨H0.out.2, by rw [← H0.out.1]; exact Blk.new _ _ _, by simp; exact H0.out.1⟩)
  rw [H0.out.1]
  clear hw12 H0
  go_wp2_with fail
  refine (wpIn_wide (n := 5)).1 ?_
  refine wpIn_range_c (F := Fence.wide) (n := 5) rfl (by omega) (gf := 17) (lb := #[.pointer (some ⟨w.heap.size + 6, 0, none⟩)]) rfl trivial (enters_of Tryz.func17 (by kernel_rfl) rfl)
    (T := 9) (cb := w.heap.size + 6) (by have := H12.out.2.2; omega)
    (linesFn_seq (w0 := w) (w := w12) t (w.heap.size + 6) 4 HE.out.1 H12.out.2.1 H12.out.1.be (by omega))
    (fun h k => KpR.trans h k) (fun W l o' hl => KpR.put (by have := H12.out.2.2; omega) (by have := H12.out.2.2; omega) o') (fun x => rfl)
    (fun pre => ParI w (pre.map Subtype.val)) (fun pre => ParX w (pre.map Subtype.val)) (fun pre => by rw [H12.out.2.2]; exact parI_abd w _) (fun pre => by rw [H12.out.2.2]; exact parX_abd w _) ⟨Sc.zero, _, Ac.zero, _, rfl, H12.out.1, by decide, by decide⟩
    (fun pre x a' W => ParI w (pre.map Subtype.val) W ∧ a' = { tmps := #[.string (mk t), undef, .pointer (some ⟨w.heap.size, 0, none⟩), .pointer (some ⟨w.heap.size + 1, 0, none⟩), .pointer (some ⟨w.heap.size + 2, 0, none⟩), .pointer (some ⟨w.heap.size + 3, 0, none⟩), .pointer (some ⟨w.heap.size + 4, 0, none⟩), .pointer (some ⟨w.heap.size + 5, 0, none⟩), .string (mk x.1), undef, undef, undef, undef, undef, undef, .string (mk t), .func (.func 17) #[] #[.pointer (some ⟨w.heap.size + 6, 0, none⟩)], .string (mk x.1), undef, undef, undef, undef, undef, undef, undef, undef, undef, undef, undef, undef, undef, undef, undef, undef, undef, undef, undef, undef, undef, undef, undef, undef, undef, undef, undef, undef, undef, undef, undef, undef, undef, undef, undef, undef, undef, undef, undef, undef, undef, undef, undef, undef, undef, undef, undef, undef, undef, undef, undef, undef, undef, undef, undef, undef, undef, undef, undef, undef, undef, undef, undef, undef, undef, undef, undef, undef, undef, undef, undef, undef, undef], defers := [] })
    (fun pre x a' => ?abd) ?assign ?body ?done ?stop
  case abd =>
    rintro W W' row ⟨h1, rfl⟩ hg hr
    exact ⟨parI_abd w _ W W' row h1 hg (by rw [H12.out.2.2] at hr; exact hr), rfl⟩
  case assign =>
    rintro l pre ⟨x, hx⟩ W3 K hI hlen hK
    gi_wp2
    exact hK _ _ (KeepsFrom.refl _ _) ⟨Below.refl _ _, rfl⟩ ⟨hI, rfl⟩
  case body =>
    rintro l pre x a' W3 ⟨⟨sc, v, a, kl, hfold, hPB, hacts, hkeep⟩, rfl⟩ hlen
    have HX := Lib.hid (And.intro (HE.out.2.1 x.1 x.2) (show pre.length < 1000000000000 by have := HE.out.1; omega))
    obtain ⟨x, hxm⟩ := x
    dsimp only at HX ⊢
    have HP := Lib.hid (And.intro hPB (And.intro hfold (And.intro hacts hkeep))); clear hfold hacts hkeep hlen
    obtain ⟨k, hk⟩ : ∃ k, k = (pre.map Subtype.val).length := ⟨_, rfl⟩
    rw [← hk] at hPB HP
    have hk2 : k < 1000000000000 := by rw [hk, List.length_map]; exact HX.out.2
    have HK := Lib.hid (And.intro hk hk2); clear hk
    have n0 : W3.cell? ⟨w.heap.size + 5, 0, none⟩ = some (.int .i64 k) := hPB.bn.cell 0
    have nz := hPB.bn.frozen 0
    have hw1 : IntKind.i64.wrap ((k : Int) + 1) = (k : Int) + 1 := IntWalk.i64_in _ (by omega)
    gi_upto_region 7 with fail
    obtain ⟨W4, hW4⟩ : ∃ W4, W4 = W3.setCell ⟨w.heap.size + 5, 0, none⟩ (.int .i64 ((k : Int) + 1)) := ⟨_, rfl⟩
    have P4 : PB w sc v a kl ((k : Int) + 1) W4 := by rw [hW4]; exact HP.out.1.setNo _
    have Q4 : KQ w.heap.size (w.heap.size + 6) w12.heap.size W3 W4 := by
      rw [hW4]
      obtain ⟨cs, hcs⟩ := HP.out.1.bc
      exact KQ.turn (grown_set W3 ⟨w.heap.size + 5, 0, none⟩ _) HP.out.1.be.size hcs.lt (fun r e => by
        cases e
        exact ⟨by simp only; omega, by simp only; omega, fun o ho => by have h := HP.out.1.bn; unfold Blk at h; rw [h] at ho; injection ho with ho; rw [← ho]; rfl⟩)
    rw [← hW4]
    clear hW4 n0 nz hw1 hPB
    gi_wp2
    refine ⟨trivial, (CallsIn.inRound l (callsIn_wide.2 (Tryz.strings_CutSuffix (mk x) ⟨#[10]⟩ W4 (by rw [mk_size]; have := HX.out.1; omega)))).mono ?_⟩; rintro e w5 ⟨rfl, hw5⟩
    rw [hw5]; clear hw5 w5
    obtain ⟨bd, hbd⟩ : ∃ bd, bd = Go.Lib.trimSuffix x [10] := ⟨_, rfl⟩
    obtain ⟨en, hen⟩ : ∃ en, en = Go.Lib.hasSuffix x [10] := ⟨_, rfl⟩
    rw [show (⟨(Go.Lib.trimSuffix (mk x).data.toList (⟨#[10]⟩ : ByteArray).data.toList).toArray⟩ : ByteArray) = mk bd by rw [hbd], show Go.Lib.hasSuffix (mk x).data.toList (⟨#[10]⟩ : ByteArray).data.toList = en by rw [hen]]
    have hbl : bd.length ≤ 900000 := by
      have := HX.out.1
      rw [hbd]; unfold Go.Lib.trimSuffix
      split
      · rw [List.length_take]; omega
      · exact this
    have HB := Lib.hid (And.intro hbd (And.intro hen hbl)); clear hbd hen hbl
    obtain ⟨W5, hW5⟩ : ∃ W5, W5 = W4.alloc (.cells zCs 40) := ⟨_, rfl⟩
    obtain ⟨cs4, hcs4⟩ := P4.bc
    have hB5 : Below W4.heap.size W4 W5 := by rw [hW5]; exact (Below.refl _ _).alloc (Nat.le_refl _) _
    have P5 : PB w sc v a kl ((k : Int) + 1) W5 := P4.next hB5
    have Q5 : KQ w.heap.size (w.heap.size + 6) w12.heap.size W3 W5 := Q4.trans (KQ.next P4.be.size hcs4.lt hB5)
    have A5 : Blk W5 W4.heap.size 40 zCs := by rw [hW5]; exact Blk.new _ _ _
    have hbx : w.heap.size + 7 ≤ W4.heap.size := by have := hcs4.lt; omega
    have hvx : v.ownBlock ≠ some W4.heap.size := fun e => by
      obtain ⟨xs, hx, _⟩ := P4.ao
      have := (hx.lt _ e).2; omega
    have HKX := Lib.hid (show 0 < a.keep.length → kl.ownBlock ≠ some W4.heap.size from fun hn e => by
      obtain ⟨o, ho, _⟩ := kr_cells P4.kr hn e
      have := (Array.getElem?_eq_some_iff.1 ho).1
      omega)
    have HW := Lib.hid (And.intro P5 (And.intro Q5 (And.intro A5 (And.intro hbx hvx))))
    have n0 : W5.cell? ⟨w.heap.size + 5, 0, none⟩ = some (.int .i64 ((k : Int) + 1)) := P5.bn.cell 0
    clear P4 Q4 hcs4 hB5 P5 Q5 A5 hvx
    gi_upto_region 11 with fail
    rw [← hW5]
    clear hW5
    obtain ⟨bx, hbx2⟩ : ∃ bx, bx = W4.heap.size := ⟨_, rfl⟩
    rw [← hbx2] at HW HKX ⊢
    clear hbx2 hbx
    by_cases hk0 : k = 0
    · subst hk0
      have e1 : ((((0 : Nat) : Int) + 1) == 1) = true := by decide
      have hz : pre.map Subtype.val = [] := List.eq_nil_of_length_eq_zero HK.out.1.symm
      have hz2 := HP.out.2.1
      rw [hz, foldP] at hz2
      injection hz2 with hz2
      injection hz2 with hsc ha
      subst hsc; subst ha
      have HZ := Lib.hid hz; clear hz
      gi_upto_region 12 with fail
      gi_wp2
      refine ⟨trivial, (CallsIn.inRound l (callsIn_wide.2 (first_any bd HB.out.2.2 (HE.out.2.2.next HW.out.1.be)))).mono ?_⟩; rintro e w6 ⟨hb6, he⟩
      have P6 := HW.out.1.next hb6
      obtain ⟨cs5, hcs5⟩ := HW.out.1.bc
      have H6 := Lib.hid (And.intro P6 (HW.out.2.1.trans (KQ.next HW.out.1.be.size hcs5.lt hb6)))
      have HW6 := Lib.hid (HW.out.2.2.1.below hb6 HW.out.2.2.1.lt); clear hb6 hcs5
      have d0 : w6.cell? ⟨w.heap.size + 3, 0, none⟩ = some (.int .i64 0) := P6.bs.cell 0
      have d1 : w6.cell? ⟨w.heap.size + 3, 1, none⟩ = some (.int .i64 0) := P6.bs.cell 1
      have d2 : w6.cell? ⟨w.heap.size + 3, 2, none⟩ = some v := P6.bs.cell 2
      have z0 := P6.bs.frozen 0
      have z1 := P6.bs.frozen 1
      have z2 := P6.bs.frozen 2
      clear P6 n0
      cases hf : firstP bd with
      | none =>
        rw [hf] at he
        obtain rfl := he
        have HF := Lib.hid hf; clear hf
        gi_upto_region 15 with fail
        obtain ⟨X, hX⟩ : ∃ X, X = ((w6.setCell ⟨w.heap.size + 3, 0, none⟩ (.int .i64 0)).setCell ⟨w.heap.size + 3, 1, none⟩ (.int .i64 0)).setCell ⟨w.heap.size + 3, 2, none⟩ (.slice none 0 0) := ⟨_, rfl⟩
        have PX : PB w ⟨0, 0, []⟩ (.slice none 0 0) Ac.zero kl 1 X := by rw [hX]; exact H6.out.1.setFirst 0 0
        have QX : KQ w.heap.size (w.heap.size + 6) w12.heap.size W3 X := by rw [hX]; exact H6.out.2.trans (H6.out.1.kq (grown_first _ _ _ _ _) (by omega) (by omega) _)
        rw [← hX]
        clear hX d0 d1 d2 z0 z1 z2
        have n0 : X.cell? ⟨w.heap.size + 5, 0, none⟩ = some (.int .i64 _) := PX.bn.cell 0
        have r0 : X.cell? ⟨w.heap.size, 0, none⟩ = some (.int .i64 0) := PX.r2.cell 0
        have r1 : X.cell? ⟨w.heap.size, 1, none⟩ = some (.int .i64 0) := PX.r2.cell 1
        have r2 : X.cell? ⟨w.heap.size, 2, none⟩ = some (.slice none 0 0) := PX.r2.cell 2
        have r3 : X.cell? ⟨w.heap.size + 1, 0, none⟩ = some (.int .i64 0) := PX.r3.cell 0
        have r4 : X.cell? ⟨w.heap.size + 2, 0, none⟩ = some (.int .i64 0) := PX.r4.cell 0
        have f0 := PX.r2.frozen 0
        have f1 := PX.r2.frozen 1
        have f2 := PX.r2.frozen 2
        have f3 := PX.r3.frozen 0
        have f4 := PX.r4.frozen 0
        have HPX := Lib.hid (And.intro PX QX); clear PX QX
        gi_region
        all_goals gi_wp2
        all_goals obtain ⟨hY1, hY2, hY3, hY4, hY5⟩ := HPX.out.1.bad 11 rfl
        all_goals refine ⟨HPX.out.2.1.trans (hY5 _ (by have := H12.out.2.2; omega)), ?_⟩
        all_goals show ParX w ((pre ++ [(⟨x, hxm⟩ : LineX t)]).map Subtype.val) _
        all_goals rw [List.map_append, List.map_cons, List.map_nil]
        all_goals exact ⟨_, _, by rw [HZ.out]; show foldP 0 _ [x] = _; rw [foldP_one, stepP, if_pos rfl, ← HB.out.1, HF.out], hY1, hY2, hY3, hY4⟩
      | some p =>
        obtain ⟨fx, fy⟩ := p
        rw [hf] at he
        obtain rfl := he
        have HF := Lib.hid hf; clear hf
        gi_upto_region 16 with fail
        obtain ⟨X, hX⟩ : ∃ X, X = ((w6.setCell ⟨w.heap.size + 3, 0, none⟩ (.int .i64 fx)).setCell ⟨w.heap.size + 3, 1, none⟩ (.int .i64 fy)).setCell ⟨w.heap.size + 3, 2, none⟩ (.slice none 0 0) := ⟨_, rfl⟩
        have PX : PB w ⟨fx, fy, []⟩ (.slice none 0 0) Ac.zero kl 1 X := by rw [hX]; exact H6.out.1.setFirst fx fy
        have QX : KQ w.heap.size (w.heap.size + 6) w12.heap.size W3 X := by rw [hX]; exact H6.out.2.trans (H6.out.1.kq (grown_first _ _ _ _ _) (by omega) (by omega) _)
        have AX : Blk X bx 40 zCs := by
          rw [hX]
          exact ((HW6.out.far (p := ⟨w.heap.size + 3, 0, none⟩) (show bx ≠ w.heap.size + 3 by have := HW.out.2.2.2.1; omega) _).far (p := ⟨w.heap.size + 3, 1, none⟩) (show bx ≠ w.heap.size + 3 by have := HW.out.2.2.2.1; omega) _).far (p := ⟨w.heap.size + 3, 2, none⟩) (show bx ≠ w.heap.size + 3 by have := HW.out.2.2.2.1; omega) _
        rw [← hX]
        clear hX d0 d1 d2 z0 z1 z2
        cases en with
        | false =>
          gi_upto_region 17 with (refine ⟨trivial, ?_⟩)
          have n0 : X.cell? ⟨w.heap.size + 5, 0, none⟩ = some (.int .i64 _) := PX.bn.cell 0
          have r0 : X.cell? ⟨w.heap.size, 0, none⟩ = some (.int .i64 0) := PX.r2.cell 0
          have r1 : X.cell? ⟨w.heap.size, 1, none⟩ = some (.int .i64 0) := PX.r2.cell 1
          have r2 : X.cell? ⟨w.heap.size, 2, none⟩ = some (.slice none 0 0) := PX.r2.cell 2
          have r3 : X.cell? ⟨w.heap.size + 1, 0, none⟩ = some (.int .i64 0) := PX.r3.cell 0
          have r4 : X.cell? ⟨w.heap.size + 2, 0, none⟩ = some (.int .i64 0) := PX.r4.cell 0
          have f0 := PX.r2.frozen 0
          have f1 := PX.r2.frozen 1
          have f2 := PX.r2.frozen 2
          have f3 := PX.r3.frozen 0
          have f4 := PX.r4.frozen 0
          have HPX := Lib.hid (And.intro PX QX); clear PX QX
          gi_region
          all_goals gi_wp2
          all_goals obtain ⟨hY1, hY2, hY3, hY4, hY5⟩ := HPX.out.1.bad 11 rfl
          all_goals refine ⟨HPX.out.2.1.trans (hY5 _ (by have := H12.out.2.2; omega)), ?_⟩
          all_goals show ParX w ((pre ++ [(⟨x, hxm⟩ : LineX t)]).map Subtype.val) _
          all_goals rw [List.map_append, List.map_cons, List.map_nil]
          all_goals exact ⟨_, _, by rw [HZ.out]; show foldP 0 _ [x] = _; rw [foldP_one, stepP, if_pos rfl, ← HB.out.1, HF.out, ← HB.out.2.1]; rfl, hY1, hY2, hY3, hY4⟩
        | true =>
          have n0 : X.cell? ⟨w.heap.size + 5, 0, none⟩ = some (.int .i64 1) := PX.bn.cell 0
          have d2 : X.cell? ⟨w.heap.size + 3, 2, none⟩ = some (.slice none 0 0) := PX.bs.cell 2
          obtain ⟨x0, x1, x2, x3, x4, x5, x6, x7, x8, x9⟩ := acCells (a := Ac.zero) (kv := .slice none 0 0) AX
          obtain ⟨y0, y1, y2, y3, y4, y5, y6, y7, y8, y9⟩ := acCells PX.bl
          have zz0 := PX.bl.frozen 0
          have zz1 := PX.bl.frozen 1
          have zz2 := PX.bl.frozen 2
          have zz3 := PX.bl.frozen 3
          have zz4 := PX.bl.frozen 4
          have zz5 := PX.bl.frozen 5
          have zz6 := PX.bl.frozen 6
          have zz7 := PX.bl.frozen 7
          have zz8 := PX.bl.frozen 8
          have zz9 := PX.bl.frozen 9
          have HPX := Lib.hid (And.intro PX QX); clear PX QX AX
          gi_upto_region 20 with (refine ⟨trivial, ?_⟩)
          gi_upto_region 21 with fail
          obtain ⟨Y, hY⟩ : ∃ Y, Y = put10 X (w.heap.size + 4) Ac.zero (.slice none 0 0) := ⟨_, rfl⟩
          have PY : PB w ⟨fx, fy, []⟩ (.slice none 0 0) Ac.zero (.slice none 0 0) 1 Y := by rw [hY]; exact HPX.out.1.setLast Ac.zero (.slice none 0 0) (RowR.nil _ _) (fun h => absurd h (by decide))
          have QY : KQ w.heap.size (w.heap.size + 6) w12.heap.size W3 Y := by rw [hY]; exact HPX.out.2.trans (HPX.out.1.kq (grown_put10 X (w.heap.size + 4) Ac.zero (.slice none 0 0)) (by omega) (by omega) _)
          have HY := Lib.hid (And.intro PY QY)
          unfold put10 at hY
          rw [← hY]
          clear hY PY QY x0 x1 x2 x3 x4 x5 x6 x7 x8 x9 y0 y1 y2 y3 y4 y5 y6 y7 y8 y9 zz0 zz1 zz2 zz3 zz4 zz5 zz6 zz7 zz8 zz9 n0 d2
          gi_wp2
          gi_loopw [73] (fun s73 wr => s73 = .int .i64 0 ∧ wr = Y) (fun _ _ => 0)
          case atStart => exact ⟨rfl, rfl⟩
          case round =>
            obtain ⟨rfl, hwr⟩ := hrel
            gi_wp2
            refine ⟨HY.out.2.1, HY.out.2.2, ?_⟩
            show ParI w ((pre ++ [(⟨x, hxm⟩ : LineX t)]).map Subtype.val) _
            rw [List.map_append, List.map_cons, List.map_nil, HZ.out]
            refine ⟨_, _, _, _, ?_, HY.out.1, Nat.zero_le _, Nat.zero_le _⟩
            show foldP 0 _ [x] = _
            rw [foldP_one, stepP, if_pos rfl, ← HB.out.1, HF.out, ← HB.out.2.1]; rfl
    · have e1 : ((k : Int) + 1 == 1) = false := by simpa using (show ¬ ((k : Int) + 1 = 1) by omega)
      gi_upto_region 13 with fail
      have hkx : 0 < a.keep.length → kl.ownBlock ≠ some bx := HKX.out
      gi_wp2
      refine ⟨trivial, (CallsIn.inRound l (callsIn_wide.2 (ofLine_any bd HB.out.2.2 (HE.out.2.2.next HW.out.1.be)))).mono ?_⟩; rintro e w6 ⟨hb6, he⟩
      have P6 := HW.out.1.next hb6
      have A6 := HW.out.2.2.1.below hb6 HW.out.2.2.1.lt
      have H6 := Lib.hid (And.intro P6 (HW.out.2.1.trans (HW.out.1.kqNext hb6 _)))
      have HA6 := Lib.hid A6
      obtain ⟨x0, x1, x2, x3, x4, x5, x6, x7, x8, x9⟩ := acCells (a := Ac.zero) (kv := .slice none 0 0) A6
      have zz0 := A6.frozen 0
      have zz1 := A6.frozen 1
      have zz2 := A6.frozen 2
      have zz3 := A6.frozen 3
      have zz4 := A6.frozen 4
      have zz5 := A6.frozen 5
      have zz6 := A6.frozen 6
      have zz7 := A6.frozen 7
      have zz8 := A6.frozen 8
      have zz9 := A6.frozen 9
      have HS6 := Lib.hid hb6.size
      have hit : ∀ cs, w6.heap[bx]? ≠ some (.cells cs 3 (0, 0)) := fun cs e => by
        have h := A6
        unfold Blk at h
        rw [h] at e; injection e with e; injection e with _ e
        exact absurd e (by decide)
      have HT := Lib.hid hit; clear hit
      clear P6 n0 A6 hb6
      cases hf : lineOf bd with
      | none =>
        rw [hf] at he
        obtain rfl := he
        have HF := Lib.hid hf; clear hf
        unfold acC
        gi_upto_region 15 with fail
        obtain ⟨X, hX⟩ : ∃ X, X = put10 w6 bx Ac.zero (.slice none 0 0) := ⟨_, rfl⟩
        have gX : w6.grownBy X (some bx) := by rw [hX]; exact grown_put10 _ _ _ _
        have PX : PB w sc v a kl ((k : Int) + 1) X := H6.out.1.turn gX (fun r e => by injection e with e; subst e; exact ⟨HW.out.2.2.2.1, HW.out.2.2.2.2, HKX.out, HT.out⟩)
        have QX : KQ w.heap.size (w.heap.size + 6) w12.heap.size W3 X := H6.out.2.trans (H6.out.1.kqHigh gX HW.out.2.2.2.1 HA6.out _)
        unfold put10 at hX
        rw [← hX]
        clear hX gX x0 x1 x2 x3 x4 x5 x6 x7 x8 x9 zz0 zz1 zz2 zz3 zz4 zz5 zz6 zz7 zz8 zz9
        have n0 : X.cell? ⟨w.heap.size + 5, 0, none⟩ = some (.int .i64 _) := PX.bn.cell 0
        have r0 : X.cell? ⟨w.heap.size, 0, none⟩ = some (.int .i64 0) := PX.r2.cell 0
        have r1 : X.cell? ⟨w.heap.size, 1, none⟩ = some (.int .i64 0) := PX.r2.cell 1
        have r2 : X.cell? ⟨w.heap.size, 2, none⟩ = some (.slice none 0 0) := PX.r2.cell 2
        have r3 : X.cell? ⟨w.heap.size + 1, 0, none⟩ = some (.int .i64 0) := PX.r3.cell 0
        have r4 : X.cell? ⟨w.heap.size + 2, 0, none⟩ = some (.int .i64 0) := PX.r4.cell 0
        have f0 := PX.r2.frozen 0
        have f1 := PX.r2.frozen 1
        have f2 := PX.r2.frozen 2
        have f3 := PX.r3.frozen 0
        have f4 := PX.r4.frozen 0
        have HPX := Lib.hid (And.intro PX QX); clear PX QX
        gi_region
        all_goals gi_wp2
        all_goals obtain ⟨hY1, hY2, hY3, hY4, hY5⟩ := HPX.out.1.bad 11 rfl
        all_goals refine ⟨HPX.out.2.1.trans (hY5 _ (by have := H12.out.2.2; omega)), ?_⟩
        all_goals show ParX w ((pre ++ [(⟨x, hxm⟩ : LineX t)]).map Subtype.val) _
        all_goals rw [List.map_append, List.map_cons, List.map_nil]
        all_goals exact ⟨k + 1, 11, by rw [foldP_ok _ _ _ _ _ HP.out.2.1, foldP_one, Nat.zero_add, ← HK.out.1, stepP_none hk0 HB.out.1 HF.out], hY1, by push_cast; exact hY2, hY3, hY4⟩
      | some p =>
        obtain ⟨b, n⟩ := p
        rw [hf] at he
        obtain ⟨kv, rfl, hrow, hfr⟩ := he
        have HF := Lib.hid hf; clear hf
        obtain ⟨kA, kc, rfl⟩ := hrow.len
        unfold acC
        gi_upto_region 16 with fail
        obtain ⟨X, hX⟩ : ∃ X, X = put10 w6 bx b (.slice kA b.keep.length kc) := ⟨_, rfl⟩
        have gX : w6.grownBy X (some bx) := by rw [hX]; exact grown_put10 _ _ _ _
        have PX : PB w sc v a kl ((k : Int) + 1) X := H6.out.1.turn gX (fun r e => by injection e with e; subst e; exact ⟨HW.out.2.2.2.1, HW.out.2.2.2.2, HKX.out, HT.out⟩)
        have QX : KQ w.heap.size (w.heap.size + 6) w12.heap.size W3 X := H6.out.2.trans (H6.out.1.kqHigh gX HW.out.2.2.2.1 HA6.out _)
        have AX : Blk X bx 40 (acC b (.slice kA b.keep.length kc)) := by rw [hX]; exact put10_blk HA6.out rfl b _
        have hkv : ∀ r, (Value.slice kA b.keep.length kc).ownBlock = some r → W5.heap.size ≤ r := fun r e => by
          cases kA with
          | none => cases e
          | some ad => injection e with e; subst e; exact hfr _ _ _ rfl ad rfl
        have hbW : bx < W5.heap.size := HW.out.2.2.1.lt
        have RX : RowR X (.slice kA b.keep.length kc) b.keep.length 1 (b.keep.map (Value.int .i64)) := rowR_kept hrow gX.size fun hn r e => by
          obtain ⟨o, ho, _⟩ := kr_cells hrow hn e
          exact gX.block r (Array.getElem?_eq_some_iff.1 ho).1 (fun e2 => by injection e2 with e2; have := hkv r e; omega)
        have hkb : 0 < b.keep.length → ∀ r, (Value.slice kA b.keep.length kc).ownBlock = some r → w.heap.size + 7 ≤ r ∧ v.ownBlock ≠ some r ∧ r ≠ bx := fun _ r e => by
          have h1 := hkv r e
          refine ⟨by have := HW.out.2.2.2.1; omega, fun e2 => ?_, by omega⟩
          obtain ⟨xs, hx, _⟩ := HW.out.1.ao
          have := (hx.lt _ e2).2; omega
        have HKB := Lib.hid hkb
        have HX2 := Lib.hid (And.intro PX (And.intro QX (And.intro AX RX)))
        unfold put10 at hX
        rw [← hX]
        clear hX gX PX QX AX hkv hbW RX hkb hrow hfr x0 x1 x2 x3 x4 x5 x6 x7 x8 x9 zz0 zz1 zz2 zz3 zz4 zz5 zz6 zz7 zz8 zz9
        obtain ⟨dc, hdc⟩ : ∃ dc, dc = (!en || (decide (2 ≤ k) && (again b && decide (b = a)))) := ⟨_, rfl⟩
        have HDC := Lib.hid hdc; clear hdc
        have HL := Lib.hid (lineOf_keep HF.out)
        gi_cut [44] from 91 (fun s44 wx => s44 = .bool dc ∧ PB w sc v a kl ((k : Int) + 1) wx ∧ KQ w.heap.size (w.heap.size + 6) w12.heap.size W3 wx ∧ Blk wx bx 40 (acC b (.slice kA b.keep.length kc)) ∧ RowR wx (.slice kA b.keep.length kc) b.keep.length 1 (b.keep.map (Value.int .i64)))
        case first =>
          have n0 : X.cell? ⟨w.heap.size + 5, 0, none⟩ = some (.int .i64 ((k : Int) + 1)) := HX2.out.1.bn.cell 0
          cases en with
          | false =>
            gi_wp2_with (refine ⟨trivial, ?_⟩)
            gi_meet
            exact ⟨by rw [HDC.out]; rfl, HX2.out⟩
          | true =>
            by_cases hk2 : 2 ≤ k
            · have e2 : decide ((2 : Int) < (k : Int) + 1) = true := by simp; omega
              obtain ⟨x0, x1, x2, x3, x4, x5, x6, x7, x8, x9⟩ := acCells HX2.out.2.2.1
              have HK2 := Lib.hid hk2; clear hk2
              obtain ⟨q, hq⟩ : ∃ q, q = again b := ⟨_, rfl⟩
              have HQ := Lib.hid hq; clear hq
              gi_wp2
              refine ⟨trivial, (CallsIn.inRound l (callsIn_wide.2 (again_any b kA b.keep.length kc))).mono ?_⟩; rintro e w7 ⟨he, hb7⟩
              rw [← HQ.out] at he
              obtain rfl := he
              have A7 := HX2.out.2.2.1.below hb7 HX2.out.2.2.1.lt
              have P7 := HX2.out.1.next hb7
              have H7 := Lib.hid (And.intro P7 (And.intro (HX2.out.2.1.trans (HX2.out.1.kqNext hb7 _)) (And.intro A7 (HX2.out.2.2.2.next hb7))))
              clear hb7 x0 x1 x2 x3 x4 x5 x6 x7 x8 x9
              cases q with
              | false =>
                clear A7 P7
                gi_wp2_with (refine ⟨trivial, ?_⟩)
                gi_meet
                exact ⟨by rw [HDC.out, ← HQ.out]; simp, H7.out⟩
              | true =>
                obtain ⟨x0, x1, x2, x3, x4, x5, x6, x7, x8, x9⟩ := acCells A7
                obtain ⟨y0, y1, y2, y3, y4, y5, y6, y7, y8, y9⟩ := acCells P7.bl
                obtain ⟨lA, lc, hkl⟩ := P7.kr.len
                subst hkl
                clear A7 P7
                gi_wp2
                refine ⟨trivial, (CallsIn.inRound l (callsIn_wide.2 (same_any b a _ _ H7.out.2.2.2 H7.out.1.kr (by have := HL.out; have := HB.out.2.2; omega) (by have := HP.out.2.2.2; omega)))).mono ?_⟩; rintro e w8 ⟨rfl, hb8⟩
                clear x0 x1 x2 x3 x4 x5 x6 x7 x8 x9 y0 y1 y2 y3 y4 y5 y6 y7 y8 y9
                have H8 := Lib.hid (And.intro (H7.out.1.next hb8) (And.intro (H7.out.2.1.trans (H7.out.1.kqNext hb8 _)) (And.intro (H7.out.2.2.1.below hb8 H7.out.2.2.1.lt) (H7.out.2.2.2.next hb8))))
                clear hb8
                gi_wp2
                gi_meet
                exact ⟨by rw [HDC.out, ← HQ.out, decide_eq_true HK2.out]; simp, H8.out⟩
            · have e2 : decide ((2 : Int) < (k : Int) + 1) = false := by simp; omega
              gi_wp2_with (refine ⟨trivial, ?_⟩)
              gi_meet
              exact ⟨by rw [HDC.out, decide_eq_false hk2]; rfl, HX2.out⟩
        case rest =>
          obtain ⟨rfl, PX, QX, AX, RX⟩ := hcut
          clear HX2
          cases dc with
          | true =>
            have HD := Lib.hid (dec_true HDC.out.symm)
            gi_upto_region 17 with fail
            have n0 : wc.cell? ⟨w.heap.size + 5, 0, none⟩ = some (.int .i64 _) := PX.bn.cell 0
            have r0 : wc.cell? ⟨w.heap.size, 0, none⟩ = some (.int .i64 0) := PX.r2.cell 0
            have r1 : wc.cell? ⟨w.heap.size, 1, none⟩ = some (.int .i64 0) := PX.r2.cell 1
            have r2 : wc.cell? ⟨w.heap.size, 2, none⟩ = some (.slice none 0 0) := PX.r2.cell 2
            have r3 : wc.cell? ⟨w.heap.size + 1, 0, none⟩ = some (.int .i64 0) := PX.r3.cell 0
            have r4 : wc.cell? ⟨w.heap.size + 2, 0, none⟩ = some (.int .i64 0) := PX.r4.cell 0
            have f0 := PX.r2.frozen 0
            have f1 := PX.r2.frozen 1
            have f2 := PX.r2.frozen 2
            have f3 := PX.r3.frozen 0
            have f4 := PX.r4.frozen 0
            have HPX := Lib.hid (And.intro PX QX); clear PX QX
            gi_region
            all_goals gi_wp2
            all_goals obtain ⟨hY1, hY2, hY3, hY4, hY5⟩ := HPX.out.1.bad 11 rfl
            all_goals refine ⟨HPX.out.2.1.trans (hY5 _ (by have := H12.out.2.2; omega)), ?_⟩
            all_goals show ParX w ((pre ++ [(⟨x, hxm⟩ : LineX t)]).map Subtype.val) _
            all_goals rw [List.map_append, List.map_cons, List.map_nil]
            all_goals exact ⟨k + 1, 11, by rw [foldP_ok _ _ _ _ _ HP.out.2.1, foldP_one, Nat.zero_add, ← HK.out.1, stepP_same hk0 HB.out.1 HF.out (by rw [← HB.out.2.1]; exact HD.out)], hY1, by push_cast; exact hY2, hY3, hY4⟩
          | false =>
            have HD := Lib.hid (dec_false HDC.out.symm)
            obtain ⟨vA, vc, hv⟩ := PX.ao.acts.len
            subst hv
            have d2 : wc.cell? ⟨w.heap.size + 3, 2, none⟩ = some (.slice vA sc.acts.length vc) := PX.bs.cell 2
            have hm100 : sc.acts.length ≤ 100000 := HP.out.2.2.1
            have hs1 : IntKind.i64.wrap ((100000 : Int) - (sc.acts.length : Int)) = (100000 : Int) - (sc.acts.length : Int) := IntWalk.i64_in _ (by omega)
            by_cases hn : (100000 : Int) - (sc.acts.length : Int) < n
            · have e3 : decide ((100000 : Int) - (sc.acts.length : Int) < n) = true := decide_eq_true hn
              have HN := Lib.hid hn; clear hn hm100
              gi_upto_region 19 with fail
              clear hs1 e3 d2
              have n0 : wc.cell? ⟨w.heap.size + 5, 0, none⟩ = some (.int .i64 _) := PX.bn.cell 0
              have r0 : wc.cell? ⟨w.heap.size, 0, none⟩ = some (.int .i64 0) := PX.r2.cell 0
              have r1 : wc.cell? ⟨w.heap.size, 1, none⟩ = some (.int .i64 0) := PX.r2.cell 1
              have r2 : wc.cell? ⟨w.heap.size, 2, none⟩ = some (.slice none 0 0) := PX.r2.cell 2
              have r3 : wc.cell? ⟨w.heap.size + 1, 0, none⟩ = some (.int .i64 0) := PX.r3.cell 0
              have r4 : wc.cell? ⟨w.heap.size + 2, 0, none⟩ = some (.int .i64 0) := PX.r4.cell 0
              have f0 := PX.r2.frozen 0
              have f1 := PX.r2.frozen 1
              have f2 := PX.r2.frozen 2
              have f3 := PX.r3.frozen 0
              have f4 := PX.r4.frozen 0
              have HPX := Lib.hid (And.intro PX QX); clear PX QX
              gi_region
              all_goals gi_wp2
              all_goals obtain ⟨hY1, hY2, hY3, hY4, hY5⟩ := HPX.out.1.bad 10 rfl
              all_goals refine ⟨HPX.out.2.1.trans (hY5 _ (by have := H12.out.2.2; omega)), ?_⟩
              all_goals show ParX w ((pre ++ [(⟨x, hxm⟩ : LineX t)]).map Subtype.val) _
              all_goals rw [List.map_append, List.map_cons, List.map_nil]
              all_goals exact ⟨k + 1, 10, by rw [foldP_ok _ _ _ _ _ HP.out.2.1, foldP_one, Nat.zero_add, ← HK.out.1, stepP_many hk0 HB.out.1 HF.out (by rw [← HB.out.2.1]; exact HD.out) HN.out], hY1, by push_cast; exact hY2, hY3, hY4⟩
            · have e3 : decide ((100000 : Int) - (sc.acts.length : Int) < n) = false := decide_eq_false hn
              have HN := Lib.hid (And.intro hn hm100); clear hn hm100
              obtain ⟨x0, x1, x2, x3, x4, x5, x6, x7, x8, x9⟩ := acCells AX
              obtain ⟨y0, y1, y2, y3, y4, y5, y6, y7, y8, y9⟩ := acCells PX.bl
              have zz0 := PX.bl.frozen 0
              have zz1 := PX.bl.frozen 1
              have zz2 := PX.bl.frozen 2
              have zz3 := PX.bl.frozen 3
              have zz4 := PX.bl.frozen 4
              have zz5 := PX.bl.frozen 5
              have zz6 := PX.bl.frozen 6
              have zz7 := PX.bl.frozen 7
              have zz8 := PX.bl.frozen 8
              have zz9 := PX.bl.frozen 9
              have HPX := Lib.hid (And.intro PX (And.intro QX (And.intro AX RX))); clear PX QX AX RX
              gi_upto_region 20 with fail
              clear hs1 e3 d2
              gi_upto_region 21 with fail
              obtain ⟨Y, hY⟩ : ∃ Y, Y = put10 wc (w.heap.size + 4) b (.slice kA b.keep.length kc) := ⟨_, rfl⟩
              have gY : wc.grownBy Y (some (w.heap.size + 4)) := by rw [hY]; exact grown_put10 _ _ _ _
              have hP4 : PB w sc (.slice vA sc.acts.length vc) b (.slice kA b.keep.length kc) ((k : Int) + 1) Y := by rw [hY]; exact HPX.out.1.setLast b (.slice kA b.keep.length kc) HPX.out.2.2.2 (fun hn r e => ⟨(HKB.out hn r e).1, (HKB.out hn r e).2.1⟩)
              have QY := HPX.out.2.1.trans (HPX.out.1.kq gY (by omega) (by omega) _)
              have AY : Blk Y bx 40 (acC b (.slice kA b.keep.length kc)) := HPX.out.2.2.1.grown gY (fun e => by injection e with e; have := HW.out.2.2.2.1; omega)
              have HY := Lib.hid (And.intro hP4 (And.intro QY (And.intro AY HW.out.2.2.2.2)))
              have HNN := Lib.hid (lineOf_some HF.out).2.2.1
              unfold put10 at hY
              rw [← hY]
              clear hY gY hP4 QY AY x0 x1 x2 x3 x4 x5 x6 x7 x8 x9 y0 y1 y2 y3 y4 y5 y6 y7 y8 y9 zz0 zz1 zz2 zz3 zz4 zz5 zz6 zz7 zz8 zz9
              gi_wp2
              gi_loopw [73] (fun s73 wr => ∃ (j : Nat) (v' : Value), s73 = .int .i64 j ∧ (j : Int) ≤ n ∧ PB w ⟨sc.slabs, sc.clients, sc.acts ++ List.replicate j b⟩ v' b (.slice kA b.keep.length kc) ((k : Int) + 1) wr ∧ KQ w.heap.size (w.heap.size + 6) w12.heap.size W3 wr ∧ Blk wr bx 40 (acC b (.slice kA b.keep.length kc)) ∧ v'.ownBlock ≠ some bx) (fun s73 _ => n.toNat - (RowKit.intOf s73).toNat)
              case atStart => exact ⟨0, _, rfl, by have := HNN.out.1; omega, by rw [List.replicate_zero, List.append_nil]; exact HY.out.1, HY.out.2⟩
              case round =>
                obtain ⟨j, v', rfl, hjn, PR, QR, AR, VR⟩ := hrel
                have HR := Lib.hid (And.intro PR (And.intro QR (And.intro AR (And.intro VR hjn)))); clear PR QR VR hjn
                by_cases hj : (j : Int) < n
                · have e4 : decide ((j : Int) < n) = true := decide_eq_true hj
                  have hw5 : IntKind.i64.wrap ((j : Int) + 1) = (j : Int) + 1 := IntWalk.i64_in _ (by have := HNN.out.2.1; omega)
                  have HJ := Lib.hid hj; clear hj
                  obtain ⟨x0, x1, x2, x3, x4, x5, x6, x7, x8, x9⟩ := acCells AR
                  gi_upto_region 24 with fail
                  obtain ⟨Z, hZ⟩ : ∃ Z, Z = wr.alloc (.cells (acC b (.slice kA b.keep.length kc)) 40) := ⟨_, rfl⟩
                  have hBZ : Below wr.heap.size wr Z := by rw [hZ]; exact (Below.refl _ _).alloc (Nat.le_refl _) _
                  have hZs : Z.heap.size = wr.heap.size + 1 := by rw [hZ]; simp
                  have GZ : Blk Z wr.heap.size 40 (acC b (.slice kA b.keep.length kc)) := by rw [hZ]; exact Blk.new _ _ _
                  have PZ := HR.out.1.next hBZ
                  have AZ := AR.below hBZ AR.lt
                  have HZ := Lib.hid (And.intro PZ (And.intro (HR.out.2.1.trans (HR.out.1.kqNext hBZ _)) (And.intro AZ (And.intro GZ hZs))))
                  have c9 : Z.cell? ⟨bx, 9, none⟩ = some (.slice kA b.keep.length kc) := AZ.cell 9
                  unfold acC at hZ
                  rw [← hZ]
                  clear hZ hBZ GZ PZ AZ hZs AR x0 x1 x2 x3 x4 x5 x6 x7 x8 x9
                  gi_wp2
                  refine ⟨trivial, (CallsIn.inRound l (callsIn_wide.2 (clone_any b.keep (.slice kA b.keep.length kc) HZ.out.1.kr (by have := HL.out; have := HB.out.2.2; omega)))).mono ?_⟩; rintro e w8 ⟨kv2, rfl, hown8, hb8⟩
                  have G8 := HZ.out.2.2.2.1.below hb8 HZ.out.2.2.2.1.lt
                  have hg8 : wr.heap.size < w8.heap.size := G8.lt
                  have hg7 : w.heap.size + 7 ≤ wr.heap.size := by
                    obtain ⟨cs, hcs⟩ := HR.out.1.bc
                    have := hcs.lt; omega
                  obtain ⟨mA, mc, hk2⟩ := (RowR.of_own hown8).len
                  subst hk2
                  have H8 := Lib.hid (And.intro (HZ.out.1.next hb8) (And.intro (HZ.out.2.1.trans (HZ.out.1.kqNext hb8 _)) (And.intro (HZ.out.2.2.1.below hb8 HZ.out.2.2.1.lt) (And.intro G8 (And.intro hown8 hg7)))))
                  have c9' : w8.cell? ⟨wr.heap.size, 9, none⟩ = some (.slice kA b.keep.length kc) := G8.cell 9
                  have f9 := G8.frozen 9
                  clear c9 hown8 hb8 G8 hg7 hg8
                  gi_upto_region 25 with fail
                  obtain ⟨w9, hw9⟩ : ∃ w9, w9 = w8.setCell ⟨wr.heap.size, 9, none⟩ (.slice mA b.keep.length mc) := ⟨_, rfl⟩
                  have H9 := Lib.hid (par_slot hw9 H8.out.1 HR.out.1 H8.out.2.1 HR.out.2.2.2.1 H8.out.2.2.1 (show bx < wr.heap.size from HR.out.2.2.1.lt) H8.out.2.2.2.1 H8.out.2.2.2.2.2 H8.out.2.2.2.2.1 HZ.out.2.2.2.2)
                  rw [← hw9]
                  clear hw9 c9' f9
                  obtain ⟨vB, vd, hv2⟩ := H9.out.1.ao.acts.len
                  subst hv2
                  have d3 : w9.cell? ⟨w.heap.size + 3, 2, none⟩ = some (.slice vB (sc.acts ++ List.replicate j b).length vd) := H9.out.1.bs.cell 2
                  have z3 := H9.out.1.bs.frozen 2
                  obtain ⟨x0, x1, x2, x3, x4, x5, x6, x7, x8, x9⟩ := acCells H9.out.2.2.2.1
                  have PA := H9.out.1.next (W' := w9.alloc (.cells (acC b (.slice mA b.keep.length mc)) 40)) ((Below.refl _ _).alloc (Nat.le_refl _) _)
                  have GA : Blk (w9.alloc (.cells (acC b (.slice mA b.keep.length mc)) 40)) w9.heap.size 40 (acC b (.slice mA b.keep.length mc)) := Blk.new _ _ _
                  have KA : (w9.alloc (.cells (acC b (.slice mA b.keep.length mc)) 40)).ownsRow (w.heap.size + 7) 3 1 (.slice mA b.keep.length mc) b.keep.length (b.keep.map (Value.int .i64)) := own_next H9.out.2.2.2.2.1 ((Below.refl _ _).alloc (Nat.le_refl _) _)
                  obtain ⟨xs, hx1, hx2⟩ := PA.ao
                  obtain ⟨m, hm⟩ : ∃ m, m = (⟨sc.slabs, sc.clients, sc.acts ++ List.replicate j b⟩ : Sc).acts.length := ⟨_, rfl⟩
                  have hx1' := hx1
                  rw [← hm] at hx1'
                  rw [show (sc.acts ++ List.replicate j b).length = m from hm.symm] at d3
                  have HA := Lib.hid (And.intro PA (And.intro KA (And.intro hx1 (And.intro hx2 hm))))
                  have hlen : m ≤ 100000 := by
                    rw [hm]
                    show (sc.acts ++ List.replicate j b).length ≤ 100000
                    rw [List.length_append, List.length_replicate]
                    have h1 := HN.out.1
                    have h2 := HJ.out
                    omega
                  have HX1 := Lib.hid hx1'
                  clear PA KA hx1 hx2 hx1' hm
                  unfold acC at GA
                  gi_wp2_with (gi_at_builtin; go_loud (refine wpListIn_app_act _ rfl _ _ rfl (w.heap.size + 7) (.slice vB m vd) m xs rfl HX1.out w9.heap.size b (.slice mA b.keep.length mc) rfl rfl GA hlen (by have := H9.out.1.bc; obtain ⟨cs, hcs⟩ := this; have := hcs.lt; simp; omega) ?_))
                  intro v5 w10 o5 g5 e5
                  obtain ⟨A5, c5, hv5⟩ := (RowR.of_own o5).len
                  subst hv5
                  have hb10 : Blk w10 (w.heap.size + 3) 25 (scC ⟨sc.slabs, sc.clients, sc.acts ++ List.replicate j b⟩ (.slice vB m vd)) := by
                    have h := HA.out.1.bs
                    rw [← HA.out.2.2.2.2] at h
                    refine h.grown g5 (fun e => ?_)
                    have := (HX1.out.lt _ e.symm).1; omega
                  have d4 : w10.cell? ⟨w.heap.size + 3, 2, none⟩ = some (.slice vB m vd) := hb10.cell 2
                  have z4 := hb10.frozen 2
                  have H10 := Lib.hid (And.intro o5 (And.intro g5 (And.intro e5 hb10))); clear o5 g5 e5 hb10
                  clear d3 z3 x0 x1 x2 x3 x4 x5 x6 x7 x8 x9
                  gi_wp2
                  go_roundw
                  case rel =>
                    have hm := HA.out.2.2.2.2
                    have hbw : bx < w9.heap.size := H9.out.2.2.1.lt
                    have q1 := H9.out.2.1.trans (H9.out.1.kqNext (W' := w9.alloc (.cells (acC b (.slice mA b.keep.length mc)) 40)) ((Below.refl _ _).alloc (Nat.le_refl _) _) w12.heap.size)
                    have q2 := q1.trans (HA.out.1.kqOwn HX1.out H10.out.2.1 w12.heap.size)
                    obtain ⟨cs, hcs⟩ := HA.out.1.bc
                    have hsz : w.heap.size + 6 < w10.heap.size := Nat.lt_of_lt_of_le hcs.lt H10.out.2.1.size
                    have q3 := q2.trans (KQ.turn (n := w.heap.size) (cb := w.heap.size + 6) (B := w12.heap.size) (grown_set w10 ⟨w.heap.size + 3, 2, none⟩ (.slice A5 (m + 1) c5)) (by omega) hsz (fun r e => by
                      injection e with e
                      subst e
                      exact ⟨by simp only; omega, by simp only; omega, fun o ho => by have h := H10.out.2.2.2; unfold Blk at h; rw [h] at ho; injection ho with ho; rw [← ho]; rfl⟩))
                    have a2 : Blk w10 bx 40 (acC b (.slice kA b.keep.length kc)) := (H9.out.2.2.1.alloc _).grown H10.out.2.1 (fun e => by
                      have h := H9.out.2.2.2.2.2
                      rw [show (Value.slice vB (sc.acts ++ List.replicate j b).length vd) = Value.slice vB m vd by rw [hm]] at h
                      exact h e.symm)
                    refine ⟨j + 1, .slice A5 (m + 1) c5, by first | rfl | go_num, by have := HJ.out; push_cast; omega, ?_, q3, a2.far (p := ⟨w.heap.size + 3, 2, none⟩) (show bx ≠ w.heap.size + 3 by have := HW.out.2.2.2.1; omega) _, ?_⟩
                    · have hp := PB.push HA.out.1 HA.out.2.2.1 HA.out.2.2.2.1 HA.out.2.1 (b := b) (v' := .slice A5 (m + 1) c5) (W' := w10) (by have h := H10.out.1; rw [← hm]; exact h) (by rw [← hm]; exact H10.out.2.1) (by rw [← hm, World.size_alloc]; exact H10.out.2.2.1)
                      rw [show sc.acts ++ List.replicate (j + 1) b = (sc.acts ++ List.replicate j b) ++ [b] by rw [List.replicate_succ', List.append_assoc]]
                      exact hp
                    · rcases H10.out.2.2.1 with e | e
                      · rw [e]
                        have h := H9.out.2.2.2.2.2
                        rw [show (Value.slice vB (sc.acts ++ List.replicate j b).length vd) = Value.slice vB m vd by rw [hm]] at h
                        exact h
                      · rw [e]; intro e2; injection e2 with e2
                        omega
                  case measure =>
                    have := HJ.out
                    simp [RowKit.intOf]; omega
                · have e4 : decide ((j : Int) < n) = false := decide_eq_false hj
                  have hjj : j = n.toNat := by have := HR.out.2.2.2.2; omega
                  have HJ := Lib.hid hjj; clear hjj
                  clear AR
                  gi_wp2
                  refine ⟨HR.out.2.1.1, HR.out.2.1.2, ?_⟩
                  show ParI w (pre.map Subtype.val ++ [x]) _
                  have hlen : (⟨sc.slabs, sc.clients, sc.acts ++ List.replicate j b⟩ : Sc).acts.length ≤ 100000 := by
                    show (sc.acts ++ List.replicate j b).length ≤ 100000
                    rw [List.length_append, List.length_replicate]
                    have h1 := HN.out.1
                    have h2 := HR.out.2.2.2.2
                    omega
                  refine ⟨_, v', b, .slice kA b.keep.length kc, ?_, ?_, hlen, by have := HL.out; have := HB.out.2.2; omega⟩
                  · rw [foldP_ok _ _ _ _ _ HP.out.2.1, foldP_one, Nat.zero_add, ← HK.out.1, stepP_go (st := (sc, a)) hk0 HB.out.1 HF.out (by rw [← HB.out.2.1]; exact HD.out) (by have := HN.out.1; show ¬ (100000 : Int) - (sc.acts.length : Int) < n; omega), ← HJ.out]
                  · have hl2 : ((pre.map Subtype.val ++ [x]).length : Int) = (k : Int) + 1 := by rw [List.length_append, ← HK.out.1]; simp
                    rw [hl2]; exact HR.out.1
  case done =>
    rintro D xs W3 hD hxs ⟨s, v, a, kl, hfold, hP, hacts, hkeep⟩ hK
    rw [hxs] at hfold hP
    have hD2 : W3.heap[D]? = some (.deferred (some [])) := hK
    have HP := Lib.hid (And.intro hP (And.intro hfold (And.intro hD2 (show w.heap.size + 7 ≤ D by have := H12.out.2.2; omega)))); clear hfold hD2 hK hD hacts hkeep
    have r0 : W3.cell? ⟨w.heap.size, 0, none⟩ = some (.int .i64 0) := hP.r2.cell 0
    have r1 : W3.cell? ⟨w.heap.size, 1, none⟩ = some (.int .i64 0) := hP.r2.cell 1
    have r2 : W3.cell? ⟨w.heap.size, 2, none⟩ = some (.slice none 0 0) := hP.r2.cell 2
    have r3 : W3.cell? ⟨w.heap.size + 1, 0, none⟩ = some (.int .i64 0) := hP.r3.cell 0
    have r4 : W3.cell? ⟨w.heap.size + 2, 0, none⟩ = some (.int .i64 0) := hP.r4.cell 0
    have f0 := hP.r2.frozen 0
    have f1 := hP.r2.frozen 1
    have f2 := hP.r2.frozen 2
    have f3 := hP.r3.frozen 0
    have f4 := hP.r4.frozen 0
    by_cases ht : t = []
    · subst ht
      have n0 : W3.cell? ⟨w.heap.size + 5, 0, none⟩ = some (.int .i64 0) := hP.bn.cell 0
      clear hP
      go_wp2_with fail
      obtain ⟨h1, h2, h3, h4, h5, h6⟩ := HP.out.1.fin rfl HP.out.2.2.2 HP.out.2.2.1 rfl (.deferred none) (x := .int .i64 0) (y := .int .i64 0) (z := .slice none 0 0) (k2 := 1) (e := 11)
      refine ⟨by simp, .inl ⟨_, _, rfl, run_takeDeferred h1, ?_⟩⟩
      exact ⟨_, res_parse (s := Sc.zero) h2 h3 h4 rfl rfl rfl, h5, .slice none 0 0, ActsR.nil _, rfl⟩
    · have hlp : 0 < (linesL t).length := List.length_pos_iff.2 (linesL_ne ht)
      have e1 : (((linesL t).length : Int) == 0) = false := by simpa using (show ¬ (((linesL t).length : Int) = 0) by omega)
      have n0 : W3.cell? ⟨w.heap.size + 5, 0, none⟩ = some (.int .i64 (linesL t).length) := hP.bn.cell 0
      obtain ⟨vA, vc, hv⟩ := hP.ao.acts.len
      subst hv
      have d0 : W3.cell? ⟨w.heap.size + 3, 0, none⟩ = some (.int .i64 s.slabs) := hP.bs.cell 0
      have d1 : W3.cell? ⟨w.heap.size + 3, 1, none⟩ = some (.int .i64 s.clients) := hP.bs.cell 1
      have d2 : W3.cell? ⟨w.heap.size + 3, 2, none⟩ = some (.slice vA s.acts.length vc) := hP.bs.cell 2
      clear hP
      go_wp2_with fail
      obtain ⟨h1, h2, h3, h4, h5, h6⟩ := HP.out.1.fin rfl HP.out.2.2.2 HP.out.2.2.1 rfl (.deferred none) (x := .int .i64 s.slabs) (y := .int .i64 s.clients) (z := .slice vA s.acts.length vc) (k2 := 0) (e := 0)
      refine ⟨by simp, .inl ⟨_, _, rfl, run_takeDeferred h1, ?_⟩⟩
      refine ⟨_, res_parse (s := s) h2 h3 h4 rfl rfl rfl, h5, .slice vA s.acts.length vc, ?_⟩
      have hp : parseP t = (s, 0, 0) := by unfold parseP; rw [if_neg ht, HP.out.2.1]
      rw [hp]
      exact ⟨h6, rfl⟩
  case stop =>
    rintro D pre W3 hD ⟨t2, ht2⟩ ⟨k, e, hfold, h1, h2, h3, h4⟩ hK
    have hd := foldP_bad _ t2 _ _ _ hfold
    rw [ht2] at hd
    have hp : parseP t = (Sc.zero, (k : Int), e) := by
      unfold parseP
      rw [if_neg ?_, hd]
      rintro rfl
      rw [linesL, foldP] at hd; cases hd
    have hDl : w.heap.size + 7 ≤ D := by have := H12.out.2.2; omega
    refine wpIn_ret ?_
    refine ⟨by simp, .inl ⟨_, _, rfl, run_takeDeferred hK, ?_⟩⟩
    have gp := grownBy_putObj' W3 D (.deferred none)
    have ne : ∀ {g r : Nat}, g ≠ r → some g ≠ some r := fun h e => h (by injection e)
    refine ⟨_, res_parse (s := Sc.zero) (h1.grown gp (ne (by omega))) (h2.grown gp (ne (by omega))) (h3.grown gp (ne (by omega))) rfl rfl rfl, h4.grown gp h4.size (fun g e => by injection e with e; omega), .slice none 0 0, ?_⟩
    rw [hp]
    exact ⟨ActsR.nil _, rfl⟩
end Go.Proofs.YtnnahodajiolmaaGreatDoor.sc
