/-
  PROVED HERE: the contracts of script's rows and Text: the text of a script that may be, or ErrArg. Conditions: numbers of their kinds; short lines; the library's tables lie (Env).
-/
import Derived.Test.YtbpbkmhipbchbaaGreatDoorScRows
import Derived.Test.YtbpbkmhipbchbaaGreatDoorShelf
namespace Go.Proofs.YtbpbkmhipbchbaaGreatDoor.sc
open Go.RowKit
set_option linter.unusedVariables false
attribute [local go_sem] Oper.semAt_some

theorem bWrite_any (B b : Nat) (bs : List Value) (s : ByteArray) (w : World) (h : Lib.IsBuilderF 94 5 B b bs w) (hlen : bs.length + s.size ≤ 140737488355328) (hBw : B ≤ w.heap.size) :
    Calls Tryz.prog 53 #[.pointer (some ⟨b, 0, none⟩), .string s] w fun e w' => e = .returned (.tuple #[.int .i64 s.size, .nilIface]) ∧ (Lib.BuilderAtF 94 5 B b (.pointer (some ⟨b, 0, none⟩)) (bs ++ Lib.strCells s) w' ∧ Below B w w' ∧ Lib.OthersKept 5 (some b) w w') :=
  Any.Builder_WriteString_k (ρ := Tryz.lays156_ren) { Tryz.lays156 with } Tryz.Builder_Extra_156 B b bs s w h hlen hBw

set_option maxRecDepth 100000 in
theorem rows_any {w : World} (l : List Ac) (v : Value) (h : ActsR w v l) :
    Calls Tryz.prog 54 #[v] w fun e w' => e = .returned (.func (.func 76) #[] #[.pointer (some ⟨w.heap.size, 0, none⟩)]) ∧ w' = w.alloc (.cells #[v] 56) := by
  have hmf : ∀ (fn : Fn) (first cap : Array Value) (w : World), (Instr.makeFunc fn first cap).run Tryz.prog w = .ok (.func fn first cap) w := fun _ _ _ _ => rfl
  obtain ⟨A, c, rfl⟩ := h.len
  clear h
  go_enter Tryz.func54, Tryz.ntmps54
  go_wp2_with fail
  go_ret
  exact ⟨rfl, rfl⟩

/-! ### The text, in plain words -/
def headL (s : Sc) : Bs := joinB [sLevee, num s.slabs, num s.clients] ++ [10]
def bodyL (l : List (Ac × Int)) : Bs := l.flatMap fun p => lineL p.1 p.2 ++ [10]
def textL (s : Sc) : Bs := headL s ++ bodyL (rowsL s.acts)

theorem headJ_len (a b : Int) (ha : I64 a) (hb : I64 b) : (joinB [sLevee, num a, num b]).length ≤ 66 := by
  have h1 := num_le a ha.1 (by have := ha.2; omega)
  have h2 := num_le b hb.1 (by have := hb.2; omega)
  exact Nat.le_trans (joinB_le _ 21 (by
    intro x hx
    simp only [List.mem_cons, List.not_mem_nil, or_false] at hx
    rcases hx with rfl | rfl | rfl
    · decide
    · exact h1
    · exact h2)) (by simp)
theorem KpR.trans {n0 cb : Nat} {A B C : World} (h : KpR n0 cb A B) (k : KpR n0 cb B C) : KpR n0 cb A C := ⟨h.1.trans k.1, k.2.trans h.2⟩
theorem KpR.put {n0 cb l : Nat} {W : World} (h1 : n0 ≤ l) (h2 : cb ≠ l) (o : Obj) : KpR n0 cb W (W.putObj l o) :=
  ⟨⟨rfl, rfl, rfl, by simp, fun k hk => World.putObj_heap_other (by omega)⟩, World.putObj_heap_other h2⟩
theorem headL_ne (s : Sc) (l : Bs) : headL s ++ l ≠ [] := by simp [headL]
theorem mayS_acts {s : Sc} (h : mayS s = true) : ∀ a ∈ s.acts, may a = true := by
  unfold mayS at h
  simp only [Bool.and_eq_true, Bool.not_eq_true', List.any_eq_false] at h
  intro a ha
  have := h.2 a ha
  simpa using this
theorem may_kinds {a : Ac} (h : may a = true) : 1 ≤ a.kind ∧ a.kind ≤ 7 ∧ (a.kind = 1 → 1 ≤ a.call.op ∧ a.call.op ≤ 4) := by
  unfold may at h
  split at h
  · cases h
  · rename_i h'; omega
def TextPost (w : World) (s : Sc) (e : Ending) (w' : World) : Prop :=
  Below w.heap.size w w' ∧ e = .returned (if mayS s then .tuple #[.string (mk (textL s)), .int .i64 0] else .tuple #[.string ⟨#[]⟩, .int .i64 2])
theorem res_text {X : World} {tmps : Array Value} {a b : Value} (h2 : tmps[2]? = some a) (h3 : tmps[3]? = some b) : (results Tryz.f20 tmps).run Tryz.prog X = .ok (.tuple #[a, b]) X := by
  simp [results, Tryz.results20, go_sem, h2, h3]
theorem strCells_mk (l : Bs) : Lib.strCells (mk l) = Lib.byteCells l := by simp [Lib.strCells, Lib.byteCells]
theorem byteCells_append (a b : Bs) : Lib.byteCells (a ++ b) = Lib.byteCells a ++ Lib.byteCells b := by simp [Lib.byteCells]

/-- Between two rounds: what is written, and all below as it was. -/
def TextI (w : World) (gb cb : Nat) (l : Bs) (W : World) : Prop :=
  Lib.IsBuilderF 94 5 gb gb (Lib.byteCells l) W ∧ Below w.heap.size w W ∧ ∃ cs, Blk W cb 56 cs
theorem builder_kept {W W' : World} {gb : Nat} {bs : List Value} (h : Lib.IsBuilderF 94 5 gb gb bs W) (hg : ∀ k o, W.heap[k]? = some o → (k = gb ∨ ∃ c fz, o = .cells c 5 fz) → W'.heap[k]? = some o) : Lib.IsBuilderF 94 5 gb gb bs W' := by
  have one : ∀ p, Lib.BuilderAtF 94 5 gb gb p bs W → Lib.BuilderAtF 94 5 gb gb p bs W' := by
    rintro p ⟨h1, v, h2, h3, h4⟩
    refine ⟨h1, v, hg _ _ h2 (.inl rfl), ⟨h3.1, ?_⟩, h4⟩
    rcases h3.2 with h5 | ⟨g, cap, cur, fz, e1, e2, e3, e4⟩
    · exact .inl h5
    · exact .inr ⟨g, cap, cur, fz, e1, e2, hg _ _ e3 (.inr ⟨cur, fz, rfl⟩), e4⟩
  rcases h with h | h
  · exact .inl (one _ h)
  · exact .inr (one _ h)
theorem textI_abd {w : World} {gb cb B : Nat} (hgb : w.heap.size ≤ gb) (hcb : gb < cb) (hB : cb < B) (l : Bs) : Abd 56 cb B (TextI w gb cb l) := by
  rintro W W' row ⟨h1, h2, cs, h3⟩ hg hr
  have keepc : ∀ k o, W.heap[k]? = some o → k ≠ cb → o.isCells = true → W'.heap[k]? = some o := by
    intro k o hk hne ho
    rw [hg.block k (Array.getElem?_eq_some_iff.1 hk).1 ?_]; exact hk
    intro e
    rcases hr k e.symm with ⟨rfl, _⟩ | ⟨_, o', ho', hc⟩
    · exact hne rfl
    · rw [hk] at ho'; cases ho'; rw [ho] at hc; cases hc
  refine ⟨builder_kept h1 fun k o hk ho => keepc k o hk ?_ ?_, ?_, ?_⟩
  · rintro rfl
    rcases ho with rfl | ⟨c, fz, rfl⟩
    · omega
    · have : W.heap[k]? = some (.cells cs 56 (0, 0)) := h3
      rw [this] at hk; cases hk
  · rcases ho with rfl | ⟨c, fz, rfl⟩
    · rcases h1 with ⟨_, v, hv, _⟩ | ⟨_, v, hv, _⟩ <;> (rw [hv] at hk; cases hk; rfl)
    · rfl
  · exact h2.grown hg h2.size fun k e => by
      rcases hr k e with ⟨rfl, _⟩ | ⟨hb, _⟩ <;> omega
  · by_cases hc : row = some cb
    · rcases hr cb hc with ⟨_, h⟩ | ⟨hb, _⟩
      · exact h
      · omega
    · exact ⟨cs, (hg.block cb h3.lt (fun e => hc e.symm)).trans h3⟩

theorem body_len {w0 : World} {acts : List Ac} (hLn : ∀ a ∈ acts, ∀ n : Int, 1 ≤ n → n ≤ 1000000 → (lineL a n).length ≤ 10000000) (hN : acts.length ≤ 1000000) : ∀ pre : List (RowX w0 acts), (bodyL (pre.map rowE)).length ≤ pre.length * 10000001
  | [] => by simp [bodyL]
  | x :: r => by
    have h1 := body_len hLn hN r
    have h2 := hLn x.1.1 x.2.2.1 x.1.2.2 x.2.2.2.1 (by have := x.2.2.2.2; omega)
    simp only [List.map_cons, bodyL, List.flatMap_cons, List.length_append, List.length_cons, List.length_nil, rowE] at h1 ⊢
    rw [Nat.add_mul]; omega
theorem W3size {w W : World} {gb cb : Nat} {l : Bs} (h : TextI w gb cb l W) : cb < W.heap.size := by
  obtain ⟨cs, hcs⟩ := h.2.2
  exact hcs.lt

set_option maxHeartbeats 4000000 in
set_option maxRecDepth 100000 in
theorem text_any {w : World} (s : Sc) (v : Value) (h : ActsR w v s.acts) (O : AcsOk s.acts) (hN : s.acts.length ≤ 1000000) (hLn : ∀ a ∈ s.acts, ∀ n : Int, 1 ≤ n → n ≤ 1000000 → (lineL a n).length ≤ 10000000) (hs : I64 s.slabs ∧ I64 s.clients) (E : Env w) :
    Calls Tryz.prog 20 #[.agg (scC s v)] w (TextPost w s) := by
  have HO := Lib.hid (And.intro h (And.intro O (And.intro hN (And.intro hLn (And.intro hs E)))))
  obtain ⟨A, c, rfl⟩ := h.len
  clear h O hN hLn hs E
  obtain ⟨slabs, clients, acts⟩ := s
  dsimp only at HO
  obtain ⟨q, hq⟩ : ∃ q, q = mayS ⟨slabs, clients, acts⟩ := ⟨_, rfl⟩
  have HQ := Lib.hid hq; clear hq
  obtain ⟨m, hm⟩ : ∃ m, m = acts.length := ⟨_, rfl⟩
  have HM := Lib.hid hm
  obtain ⟨W, hW⟩ : ∃ W, W = w.alloc (.cells #[.int .i64 slabs, .int .i64 clients, .slice A m c] 58) := ⟨_, rfl⟩
  have HB := Lib.hid (And.intro (show Blk W w.heap.size 58 #[.int .i64 slabs, .int .i64 clients, .slice A m c] by rw [hW]; exact Blk.new _ _ _) (show Below w.heap.size w W by rw [hW]; exact (Below.refl _ _).alloc (Nat.le_refl _) _))
  have d0 : W.cell? ⟨w.heap.size, 0, none⟩ = some (.int .i64 slabs) := HB.out.1.cell 0
  have d1 : W.cell? ⟨w.heap.size, 1, none⟩ = some (.int .i64 clients) := HB.out.1.cell 1
  have d2 : W.cell? ⟨w.heap.size, 2, none⟩ = some (.slice A m c) := HB.out.1.cell 2
  unfold scC
  dsimp only
  rw [← hm]
  clear hm
  refine (callsIn_wide (n := 5)).1 ?_
  refine callsIn_of_wp_marks Tryz.func20 rfl trivial ?_
  simp only [Tryz.ntmps20, List.size_toArray, List.length_cons, List.length_nil, Nat.reduceAdd, Nat.reduceSub, Array.replicate_succ, Array.replicate_zero, List.push_toArray, List.append_toArray, List.nil_append, List.cons_append]
  refine wpIn_wide.2 ?_
  go_upto_region 1 with fail
  rw [← hW]
  clear hW
  go_wp2_with fail
  refine (mayS_any ⟨slabs, clients, acts⟩ (.slice A m c) (by rw [HM.out]; exact HO.out.1.next HB.out.2) HO.out.2.1 HO.out.2.2.1 (HO.out.2.2.2.2.2.next HB.out.2)).mono ?_; rintro e w1 ⟨he, hb1⟩
  rw [← HQ.out] at he
  obtain rfl := he
  have HB1 := Lib.hid (And.intro (HB.out.1.below hb1 HB.out.1.lt) (HB.out.2.trans (hb1.mono HB.out.2.size)))
  clear hb1 d0 d1 d2
  cases q with
  | false =>
    go_wp2_with fail
    refine ⟨_, res_text rfl rfl, HB1.out.2, ?_⟩
    rw [← HQ.out]; rfl
  | true =>
    go_upto_region 4 with fail
    obtain ⟨X, hX⟩ : ∃ X, X = w1.alloc (.cells #[.pointer none, .slice none 0 0] 94) := ⟨_, rfl⟩
    have HX := Lib.hid (And.intro (show Blk X w1.heap.size 94 #[.pointer none, .slice none 0 0] by rw [hX]; exact Blk.new _ _ _) (And.intro (show Blk X w.heap.size 58 #[.int .i64 slabs, .int .i64 clients, .slice A m c] by rw [hX]; exact HB1.out.1.alloc _) (And.intro (show Below w.heap.size w X by rw [hX]; exact HB1.out.2.alloc HB1.out.2.size _) (show w.heap.size < w1.heap.size from HB1.out.1.lt))))
    rw [← hX]
    clear hX
    have hS : ∀ wx, Below w1.heap.size X wx → (wx.cell? ⟨w.heap.size, 0, none⟩ = some (.int .i64 slabs) ∧ wx.cell? ⟨w.heap.size, 1, none⟩ = some (.int .i64 clients) ∧ Below w1.heap.size X wx) := fun wx hk =>
      ⟨(HX.out.2.1.below hk HX.out.2.2.2).cell 0, (HX.out.2.1.below hk HX.out.2.2.2).cell 1, hk⟩
    have HS := Lib.hid hS; clear hS
    have EX := Lib.hid (HO.out.2.2.2.2.2.next HX.out.2.2.1)
    have hx0 : Below X.heap.size X X.drew := (Below.refl _ _).drew
    have hk0 : Below w1.heap.size X X.drew := (Below.refl _ _).drew
    have hbx := HX.out.1.drew
    have hgx : w1.heap.size ≤ X.heap.size := Nat.le_of_lt HX.out.1.lt
    have HGX := Lib.hid hgx; clear hgx
    have HSC := Lib.hid (show (-9223372036854775808 ≤ slabs ∧ slabs ≤ 9223372036854775807) ∧ -9223372036854775808 ≤ clients ∧ clients ≤ 9223372036854775807 from HO.out.2.2.2.2.1)
    have hj := headJ_len slabs clients HO.out.2.2.2.2.1.1 HO.out.2.2.2.2.1.2
    have HJ := Lib.hid hj; clear hj
    have hcat : ¬ 9223372036854775807 < (joinB [sLevee, num slabs, num clients]).length + 1 := by have := HJ.out; omega
    go_region_held3 (fun wx => wx.cell? ⟨w.heap.size, 0, none⟩ = some (.int .i64 slabs) ∧ wx.cell? ⟨w.heap.size, 1, none⟩ = some (.int .i64 clients) ∧ Below w1.heap.size X wx)
      (first | exact HS.out _ (by assumption) | exact HS.out _ (Below.alloc (by assumption) (Below.size (by assumption)) _) | exact HS.out _ (K9.alloc (Nat.le_trans HGX.out X9.size) _))
      (first
        | (go_at_call 37; with_reducible refine (numInt_any slabs HSC.out.1.1 HSC.out.1.2 (EX.out.next hx0)).mono ?_; rintro e w8 ⟨rfl, hb8⟩
           have X8 : Below X.heap.size X w8 := hx0.trans hb8
           have K8 : Below w1.heap.size X w8 := X8.mono HGX.out
           have B8 := hbx.below hb8 hbx.lt)
        | (go_at_call 37; with_reducible refine (numInt_any clients HSC.out.2.1 HSC.out.2.2 (EX.out.next X8)).mono ?_; rintro e w9 ⟨rfl, hb9⟩
           have X9 : Below X.heap.size X w9 := X8.trans (hb9.mono X8.size)
           have K9 : Below w1.heap.size X w9 := X9.mono HGX.out
           have B9 := B8.below hb9 B8.lt)
        | (go_at_call 43; refine (join_any (l := [sLevee, num slabs, num clients]) (lit_strs w9 [sLevee, num slabs, num clients] (by simp)) (by simp) (by have := HJ.out; omega)).mono ?_; rintro e w10 ⟨rfl, hb10⟩
           have X10 : Below X.heap.size X w10 := (X9.alloc X9.size _).trans (hb10.mono (Nat.le_trans X9.size (by simp)))
           have K10 : Below w1.heap.size X w10 := X10.mono HGX.out
           have B10 := (B9.alloc _).below hb10 (B9.alloc _).lt)
        | (go_at_call 53; refine (bWrite_any w1.heap.size w1.heap.size [] (mk (joinB [sLevee, num slabs, num clients]) ++ mk [10]) w10 (.inl ⟨Nat.le_refl _, _, B10, World.ownsRowF_nil _ _ _ _, by simp [Value.ownBlock]⟩) (by rw [mk_append, mk_size]; have := HJ.out; simp; omega) (Nat.le_trans HGX.out X10.size)).mono ?_; rintro e w11 ⟨rfl, hB11, hb11, ho11⟩
           have K11 : Below w1.heap.size X w11 := K10.trans hb11))
    have hI11 : Lib.IsBuilderF 94 5 w1.heap.size w1.heap.size (Lib.byteCells (headL ⟨slabs, clients, acts⟩)) w11 := by
      have e : ([] ++ Lib.strCells (mk (joinB [sLevee, num slabs, num clients]) ++ mk [10])) = Lib.byteCells (headL ⟨slabs, clients, acts⟩) := by rw [mk_append, strCells_mk, List.nil_append]; rfl
      rw [e] at hB11; exact .inr hB11
    have H11 := Lib.hid (And.intro hI11 (And.intro (HX.out.2.1.below K11 HX.out.2.2.2) (HX.out.2.2.1.trans (K11.mono (Nat.le_of_lt HX.out.2.2.2)))))
    clear hI11 hB11 hb11 ho11 K11 K10 B10 X10 hb10 B9 K9 X9 hb9 B8 K8 X8 hb8 hcat hbx hk0 hx0
    have d2 : w11.cell? ⟨w.heap.size, 2, none⟩ = some (.slice A m c) := H11.out.2.1.cell 2
    go_wp2_with fail
    refine (rows_any acts (.slice A m c) (by rw [HM.out]; exact HO.out.1.next H11.out.2.2)).mono ?_; rintro e w12 ⟨rfl, hw12⟩
    have H12 := Lib.hid (show TextI w w1.heap.size w11.heap.size (headL ⟨slabs, clients, acts⟩ ++ bodyL []) w12 ∧ Blk w12 w11.heap.size 56 #[.slice A m c] ∧ w1.heap.size < w11.heap.size ∧ w12.heap.size = w11.heap.size + 1 from by
      have hb : Blk w12 w11.heap.size 56 #[.slice A m c] := by rw [hw12]; exact Blk.new _ _ _
      refine ⟨⟨?_, by rw [hw12]; exact H11.out.2.2.alloc H11.out.2.2.size _, _, hb⟩, hb, ?_, by rw [hw12]; simp⟩
      · rw [hw12, show headL ⟨slabs, clients, acts⟩ ++ bodyL [] = headL ⟨slabs, clients, acts⟩ by simp [bodyL]]; exact H11.out.1.alloc _
      · rcases H11.out.1 with h | h <;> exact h.lt)
    clear hw12 d2
    go_wp2_with fail
    refine (wpIn_wide (n := 5)).1 ?_
    refine wpIn_range_c (F := Fence.wide) (n := 5) rfl (by omega) (gf := 76) (lb := #[.pointer (some ⟨w11.heap.size, 0, none⟩)]) rfl trivial (enters_of Tryz.func76 (by kernel_rfl) rfl)
      (T := 56) (cb := w11.heap.size) (by have := H12.out.2.2.2; omega)
      (rowsFn_seq (w0 := w) (w := w12) acts (.slice A m c) w11.heap.size 4 (by rw [HM.out]; exact HO.out.1) HO.out.2.2.1 (fun a ha => by have := (HO.out.2.1 a ha).1.few; omega) H12.out.2.1 H12.out.1.2.1 H11.out.2.2.size)
      (fun h k => KpR.trans h k) (fun W l o' hl => KpR.put (by have := H12.out.2.2.2; have := H11.out.2.2.size; omega) (by have := H12.out.2.2.2; omega) o') (fun x => rfl)
      (fun pre W => TextI w w1.heap.size w11.heap.size (headL ⟨slabs, clients, acts⟩ ++ bodyL (pre.map rowE)) W) (fun _ _ => False)
      (fun pre => textI_abd (by have := HX.out.2.2.2; omega) H12.out.2.2.1 (by have := H12.out.2.2.2; omega) _) (fun _ _ _ _ h _ _ => h) H12.out.1
      (fun pre x a' W => TextI w w1.heap.size w11.heap.size (headL ⟨slabs, clients, acts⟩ ++ bodyL (pre.map rowE)) W ∧ ∃ bx, w12.heap.size ≤ bx ∧ Blk W bx 31 (acC x.1.1 x.1.2.1) ∧ a' = { tmps := #[.agg #[.int .i64 slabs, .int .i64 clients, .slice A m c], .pointer (some ⟨w.heap.size, 0, none⟩), .string ⟨#[]⟩, .int .i64 0, .pointer (some ⟨w1.heap.size, 0, none⟩), .pointer (some ⟨bx, 0, none⟩), .int .i64 x.1.2.2, .agg #[.int .i64 slabs, .int .i64 clients, .slice A m c], .bool true, .bool false, .pointer (some ⟨w.heap.size, 0, none⟩), .int .i64 slabs, .string (mk (num slabs)), .pointer (some ⟨w.heap.size, 1, none⟩), .int .i64 clients, .string (mk (num clients)), .slice (some ⟨w9.heap.size, 0, none⟩) 3 3, .string (mk (joinB [sLevee, num slabs, num clients])), .string (mk (joinB [sLevee, num slabs, num clients]) ++ ⟨#[10]⟩), .tuple #[.int .i64 (((joinB [sLevee, num slabs, num clients]).length : Int) + 1), .nilIface], .pointer (some ⟨w.heap.size, 2, none⟩), .slice A m c, .func (.func 76) #[] #[.pointer (some ⟨w11.heap.size, 0, none⟩)], .agg (acC x.1.1 x.1.2.1), .int .i64 x.1.2.2, undef, undef, undef, undef, undef, undef, undef], defers := [] })
      (fun pre x a' => ?abd) ?assign ?body ?done (fun _ _ _ _ _ h _ => h.elim)
    case abd =>
      rintro W W' row ⟨h1, bx, h2, h3, rfl⟩ hg hr
      refine ⟨textI_abd (by have := HX.out.2.2.2; omega) H12.out.2.2.1 (show w11.heap.size < w12.heap.size by have := H12.out.2.2.2; omega) _ W W' row h1 hg hr, bx, h2, ?_, rfl⟩
      refine (hg.block bx h3.lt ?_).trans h3
      intro e
      rcases hr bx e.symm with ⟨h4, _⟩ | ⟨_, o', ho', hc⟩
      · have := H12.out.2.2.2; omega
      · have h5 : W.heap[bx]? = _ := h3
        rw [h5] at ho'; cases ho'; cases hc
    case assign =>
      rintro l pre ⟨⟨⟨kind, client, ⟨op, key, hi, lim, val⟩, at_, an, keep⟩, kv, n⟩, hrow, hmem, hn1, hn2⟩ W3 K hI hlen hK
      obtain ⟨kA, kc, hkv⟩ := hrow.len
      dsimp only at hkv hrow hn1 hn2
      subst hkv
      dsimp only [acC]
      gi_wp2
      have hab := textI_abd (B := w12.heap.size) (show w.heap.size ≤ w1.heap.size by have := HX.out.2.2.2; omega) H12.out.2.2.1 (show w11.heap.size < w12.heap.size by have := H12.out.2.2.2; omega) (headL ⟨slabs, clients, acts⟩ ++ bodyL (pre.map rowE))
      have hsz := W3size hI
      obtain ⟨cs, hcs⟩ := hI.2.2
      exact hK _ _ ((KeepsOthers.alloc _ _).from _) ⟨(Below.refl _ _).alloc hI.2.1.size _, (hcs.alloc _).trans hcs.symm⟩ ⟨hab.alloc _ hI, W3.heap.size, by have := H12.out.2.2.2; omega, Blk.new _ _ _, rfl⟩
    case body =>
      rintro l pre x a' W3 ⟨hI, bx, hbx, hblk, rfl⟩ hlen
      obtain ⟨kA, kc, hkv⟩ := x.2.1.len
      rw [hkv] at hblk
      obtain ⟨d0, d1, d2, d3, d4, d5, d6, d7, d8, d9⟩ := acCells hblk
      have hrow := x.2.1
      rw [hkv] at hrow
      have HW := Lib.hid (And.intro hrow (And.intro x.2.2 (And.intro hI (And.intro hlen hblk))))
      clear hrow hI hlen hblk
      have HOA := Lib.hid (HO.out.2.1 _ x.2.2.1)
      have HLL := Lib.hid (HO.out.2.2.2.1 _ x.2.2.1 x.1.2.2 x.2.2.2.1 (by have h1 := x.2.2.2.2; have h2 := HO.out.2.2.1; omega))
      have hmay := may_kinds (mayS_acts HQ.out.symm x.1.1 x.2.2.1)
      have HK := Lib.hid hmay; clear hmay
      have HN := Lib.hid (show I64 x.1.2.2 from ⟨by have := x.2.2.2.1; omega, by have h1 := x.2.2.2.2; have h2 := HO.out.2.2.1; omega⟩)
      have EW := Lib.hid (HO.out.2.2.2.2.2.next HW.out.2.2.1.2.1)
      have hcat : ¬ 9223372036854775807 < (joinB (wordsL x.1.1 x.1.2.2)).length + 1 := by have := HLL.out; unfold lineL at this; omega
      dsimp only [acC]
      gi_wp2
      refine ⟨trivial, (CallsIn.inRound l (callsIn_wide.2 (words_any x.1.1 (.slice kA x.1.1.keep.length kc) x.1.2.2 HN.out HK.out.1 HK.out.2.1 HK.out.2.2 (HW.out.1.next HW.out.2.2.1.2.1) HOA.out.1 EW.out))).mono ?_⟩; rintro e w21 ⟨v1, rfl, ho1, hb1⟩
      clear d0 d1 d2 d3 d4 d5 d6 d7 d8 d9
      have H21 := Lib.hid (And.intro (StrsAt.of_own ho1) hb1); clear ho1 hb1
      gi_wp2
      refine ⟨trivial, (CallsIn.inRound l (callsIn_wide.2 (join_any H21.out.1 (by have := words_few2 x.1.1 x.1.2.2 HOA.out.1; omega) (by have := HLL.out; unfold lineL at this; omega)))).mono ?_⟩; rintro e w22 ⟨rfl, hb2⟩
      have H22 := Lib.hid (H21.out.2.trans (hb2.mono H21.out.2.size)); clear hb2
      gi_wp2
      have hB22 : Lib.IsBuilderF 94 5 w1.heap.size w1.heap.size (Lib.byteCells (headL ⟨slabs, clients, acts⟩ ++ bodyL (pre.map rowE))) w22 := builder_kept HW.out.2.2.1.1 fun k o hk _ => (H22.out.block k (Array.getElem?_eq_some_iff.1 hk).1).trans hk
      refine ⟨trivial, (CallsIn.inRound l (callsIn_wide.2 (bWrite_any w1.heap.size w1.heap.size _ (mk (joinB (wordsL x.1.1 x.1.2.2)) ++ mk [10]) w22 hB22 ?lenB (Nat.le_trans (by have := H12.out.2.2.2; have := H12.out.2.2.1; omega) (Nat.le_trans (Nat.le_of_lt (W3size HW.out.2.2.1)) H22.out.size))))).mono ?_⟩
      case lenB =>
        have h1 := body_len (w0 := w) HO.out.2.2.2.1 HO.out.2.2.1 pre
        have h2 := HJ.out
        have h3 := HLL.out
        have h4 := HW.out.2.2.2.1
        have h5 := HO.out.2.2.1
        have h6 : pre.length * 10000001 ≤ 1000000 * 10000001 := Nat.mul_le_mul_right _ (by omega)
        unfold lineL at h3
        rw [Lib.byteCells_length, mk_append, mk_size, List.length_append, List.length_append]
        simp only [headL, List.length_append, List.length_cons, List.length_nil]
        omega
      rintro e w23 ⟨rfl, hB23, hb23, ho23⟩
      gi_wp2
      obtain ⟨cs, hcs⟩ := HW.out.2.2.1.2.2
      have hszw := H12.out.2.2.2
      have hgc := H12.out.2.2.1
      have hc22 : w22.heap[w11.heap.size]? = some (.cells cs 56 (0, 0)) := hcs.below H22.out hcs.lt
      have hc23 : w23.heap[w11.heap.size]? = some (.cells cs 56 (0, 0)) := ho23 _ _ hc22 (fun e => by injection e with e; omega) (fun c fz => by intro h; cases h)
      have hwg : w.heap.size ≤ w1.heap.size := Nat.le_of_lt HX.out.2.2.2
      have hbel : Below w.heap.size W3 w23 := (H22.out.mono HW.out.2.2.1.2.1.size).trans (hb23.mono hwg)
      refine ⟨⟨Nat.le_trans H22.out.size hb23.size, fun k o hk ho hc => ?_⟩, ⟨hbel, hc23.trans hcs.symm⟩, .inr ?_, HW.out.2.2.1.2.1.trans hbel, cs, hc23⟩
      · refine ho23 k o ((H22.out.block k (Array.getElem?_eq_some_iff.1 ho).1).trans ho) (fun e => by injection e with e; omega) (fun c fz => ?_)
        rintro rfl; cases hc
      · have e : Lib.byteCells (headL ⟨slabs, clients, acts⟩ ++ bodyL (pre.map rowE)) ++ Lib.strCells (mk (joinB (wordsL x.1.1 x.1.2.2)) ++ mk [10]) = Lib.byteCells (headL ⟨slabs, clients, acts⟩ ++ bodyL ((pre ++ [x]).map rowE)) := by
          rw [mk_append, strCells_mk, ← byteCells_append, List.append_assoc]
          congr 2
          simp [bodyL, rowE, lineL]
        rw [e] at hB23; exact hB23
    case done =>
      rintro D xs W3 hD hxs hI hK
      go_wp2_with fail
      rw [show bodyL (xs.map rowE) = bodyL (rowsL acts) by rw [hxs]] at hI
      have hD2 : W3.heap[D]? = some (.deferred (some [])) := hK
      refine (Tryz.Builder_String_k w1.heap.size w1.heap.size _ W3 hI.1 (headL_ne _ _)).mono ?_; rintro e w5 ⟨rfl, hB5, hb5, ho5⟩
      have hD5 : w5.heap[D]? = some (.deferred (some [])) := ho5 D _ hD2 (fun e => by
        injection e with e
        have := H12.out.2.2.2; have := H12.out.2.2.1; omega) (fun c fz => by intro h; cases h)
      have HF := Lib.hid (And.intro hD5 (hI.2.1.trans (hb5.mono (show w.heap.size ≤ w1.heap.size by have := HX.out.2.2.2; omega)))); clear hD5 hb5 ho5 hB5 hD2
      go_wp2_with fail
      refine ⟨by simp, .inl ⟨_, _, rfl, run_takeDeferred HF.out.1, ?_⟩⟩
      refine ⟨_, res_text rfl rfl, ?_, ?_⟩
      · exact HF.out.2.trans (KpR.put (cb := 0) (by have := H12.out.2.2.2; have := H11.out.2.2.size; omega) (by have := H12.out.2.2.2; omega) _).1
      · rw [← HQ.out]; rfl

end Go.Proofs.YtbpbkmhipbchbaaGreatDoor.sc
