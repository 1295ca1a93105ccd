/-
  PROVED HERE: the contract of script's OfLine: the act of a line, how often, no error; or no act, 0, ErrBytes. Conditions: the library's tables lie (Env); a short line.
-/
import Derived.Test.YtbpbkmhipbchbaaGreatDoorScOf3
namespace Go.Proofs.YtbpbkmhipbchbaaGreatDoor.sc
open Go.RowKit
set_option linter.unusedVariables false

/-- What OfLine comes to. -/
def OfLinePost (w : World) (s : Bs) (e : Ending) (w' : World) : Prop :=
  Below w.heap.size w w' ∧ match lineOf s with
    | some (a, n) => ∃ kv, e = .returned (.tuple #[.agg (acC a kv), .int .i64 n, .int .i64 0]) ∧ RowR w' kv a.keep.length 1 (a.keep.map (Value.int .i64)) ∧ Fresh w.heap.size kv
    | none => e = .returned (.tuple #[.agg (acC Ac.zero (.slice none 0 0)), .int .i64 0, .int .i64 11])

theorem splitC_mem (c : UInt8) : ∀ s : Bs, ∀ x ∈ splitC c s, x.length ≤ s.length
  | [], x, hx => by simp [splitC] at hx; subst hx; simp
  | b :: r, x, hx => by
    have ih := splitC_mem c r
    rw [splitC] at hx
    split at hx
    · rcases List.mem_cons.1 hx with rfl | hx
      · simp
      · have := ih x hx; simp; omega
    · cases hs : splitC c r with
      | nil =>
        rw [hs] at hx
        simp only [List.mem_singleton] at hx
        subst hx; simp
      | cons y t =>
        rw [hs] at hx ih
        rcases List.mem_cons.1 hx with rfl | hx
        · have := ih y List.mem_cons_self; simp; omega
        · have := ih x (List.mem_cons_of_mem _ hx); simp; omega
theorem splitC_len (c : UInt8) : ∀ s : Bs, (splitC c s).length ≤ s.length + 1
  | [] => by simp [splitC]
  | b :: r => by
    have ih := splitC_len c r
    rw [splitC]
    split
    · simp; omega
    · cases hs : splitC c r with
      | nil => simp
      | cons y t => rw [hs] at ih; simp at ih ⊢; omega
theorem splitC_nn (c : UInt8) (s : Bs) : splitC c s ≠ [] := by
  cases s with
  | nil => simp [splitC]
  | cons b r =>
    rw [splitC]
    split
    · simp
    · split <;> simp

theorem put10_far {w : World} {g b : Nat} {t : TypeId} {cs : Array Value} (h : Blk w b t cs) (hg : b ≠ g) (a : Ac) (kv : Value) : Blk (put10 w g a kv) b t cs :=
  (((((((((h.far (p := ⟨g, 0, none⟩) hg _).far (p := ⟨g, 1, none⟩) hg _).far (p := ⟨g, 2, none⟩) hg _).far (p := ⟨g, 3, none⟩) hg _).far (p := ⟨g, 4, none⟩) hg _).far (p := ⟨g, 5, none⟩) hg _).far (p := ⟨g, 6, none⟩) hg _).far (p := ⟨g, 7, none⟩) hg _).far (p := ⟨g, 8, none⟩) hg _).far (p := ⟨g, 9, none⟩) hg _
theorem keep_put {w : World} {g n : Nat} {size : Nat} {v : Value} {cs : List Value} (h : RowR w v n size cs) (hf : Fresh (g + 3) v) (a : Ac) (kv : Value) : RowR (put10 w g a kv) v n size cs :=
  have hg : ∀ i, (⟨g, i, none⟩ : Addr).block < g + 3 := fun _ => by simp
  (((((((((h.put hf (hg 0)).put hf (hg 1)).put hf (hg 2)).put hf (hg 3)).put hf (hg 4)).put hf (hg 5)).put hf (hg 6)).put hf (hg 7)).put hf (hg 8)).put hf (hg 9)
theorem ofLine_put {w w2 w3 : World} {a : Ac} {kv : Value} {n n0 e : Int} (hw3 : w3 = (put10 w2 w.heap.size a kv).setCell ⟨w.heap.size + 1, 0, none⟩ (.int .i64 n))
    (hA : Blk w2 w.heap.size 31 zCs) (hN : Blk w2 (w.heap.size + 1) 3 #[.int .i64 n0]) (hE : Blk w2 (w.heap.size + 2) 32 #[.int .i64 e]) (hB : Below w.heap.size w w2) :
    Blk w3 w.heap.size 31 (acC a kv) ∧ Blk w3 (w.heap.size + 1) 3 #[.int .i64 n] ∧ Blk w3 (w.heap.size + 2) 32 #[.int .i64 e] ∧ Below w.heap.size w w3 := by
  subst hw3
  exact ⟨(put10_blk hA rfl a kv).far (p := ⟨w.heap.size + 1, 0, none⟩) (show w.heap.size ≠ w.heap.size + 1 by omega) _, (put10_far hN (by omega) a kv).set_ 0 _,
    (put10_far hE (by omega) a kv).far (p := ⟨w.heap.size + 1, 0, none⟩) (show w.heap.size + 2 ≠ w.heap.size + 1 by omega) _, (put10_below hB (Nat.le_refl _) a kv).setCell (p := ⟨w.heap.size + 1, 0, none⟩) (Nat.le_succ _) _⟩
theorem ofLine_put2 {w w3 w5 : World} {a : Ac} {kv : Value} {n n0 e : Int} (hw5 : w5 = (((put10 w3 w.heap.size a kv).setCell ⟨w.heap.size + 1, 0, none⟩ (.int .i64 n)).setCell ⟨w.heap.size + 1 + 1, 0, none⟩ (.int .i64 0)).drew)
    (hA : Blk w3 w.heap.size 31 (acC a kv)) (hN : Blk w3 (w.heap.size + 1) 3 #[.int .i64 n0]) (hE : Blk w3 (w.heap.size + 2) 32 #[.int .i64 e]) (hB : Below w.heap.size w w3) :
    Blk w5 w.heap.size 31 (acC a kv) ∧ Blk w5 (w.heap.size + 1) 3 #[.int .i64 n] ∧ Blk w5 (w.heap.size + 2) 32 #[.int .i64 0] ∧ Below w.heap.size w w5 := by
  subst hw5
  refine ⟨(((put10_blk hA rfl a kv).far (p := ⟨w.heap.size + 1, 0, none⟩) (show w.heap.size ≠ w.heap.size + 1 by omega) _).far (p := ⟨w.heap.size + 1 + 1, 0, none⟩) (show w.heap.size ≠ w.heap.size + 1 + 1 by omega) _).drew,
    (((put10_far hN (by omega) a kv).set_ 0 _).far (p := ⟨w.heap.size + 1 + 1, 0, none⟩) (show w.heap.size + 1 ≠ w.heap.size + 1 + 1 by omega) _).drew,
    (((put10_far hE (by omega) a kv).far (p := ⟨w.heap.size + 1, 0, none⟩) (show w.heap.size + 2 ≠ w.heap.size + 1 by omega) _).set_ 0 _).drew,
    ((((put10_below hB (Nat.le_refl _) a kv).setCell (p := ⟨w.heap.size + 1, 0, none⟩) (Nat.le_succ _) _).setCell (p := ⟨w.heap.size + 1 + 1, 0, none⟩) (by simp only; omega) _).drew)⟩
theorem RowR.drew {w : World} {n size : Nat} {v : Value} {cs : List Value} (h : RowR w v n size cs) : RowR w.drew v n size cs := h
theorem ofLine_keep2 {w w3 w5 : World} {a : Ac} {kv v : Value} {n e : Int} {m size : Nat} {cs : List Value} (hw5 : w5 = (((put10 w3 w.heap.size a kv).setCell ⟨w.heap.size + 1, 0, none⟩ (.int .i64 n)).setCell ⟨w.heap.size + 1 + 1, 0, none⟩ (.int .i64 e)).drew)
    (h : RowR w3 v m size cs) (hf : Fresh (w.heap.size + 3) v) : RowR w5 v m size cs := by
  subst hw5
  have h1 := keep_put h hf a kv
  have h2 := h1.put (p := ⟨w.heap.size + 1, 0, none⟩) (u := .int .i64 n) hf (show w.heap.size + 1 < w.heap.size + 3 by omega)
  exact (h2.put (p := ⟨w.heap.size + 1 + 1, 0, none⟩) (u := .int .i64 e) hf (show w.heap.size + 1 + 1 < w.heap.size + 3 by omega)).drew
theorem res_ofLine {X : World} {b bn be : Nat} {a : Ac} {kv : Value} {tmps : Array Value} {n e : Int} (hB : Blk X b 31 (acC a kv)) (hn : Blk X bn 3 #[.int .i64 n]) (he : Blk X be 32 #[.int .i64 e])
    (h2 : tmps[2]? = some (.pointer (some ⟨b, 0, none⟩))) (h3 : tmps[3]? = some (.pointer (some ⟨bn, 0, none⟩))) (h4 : tmps[4]? = some (.pointer (some ⟨be, 0, none⟩))) :
    (results Tryz.f9 tmps).run Tryz.prog X = .ok (.tuple #[.agg (acC a kv), .int .i64 n, .int .i64 e]) X := by
  obtain ⟨e0, e1, e2, e3, e4, e5, e6, e7, e8, e9⟩ := acCells hB
  have f0 : X.cell? ⟨bn, 0, none⟩ = some (.int .i64 n) := hn.cell 0
  have g0 : X.cell? ⟨be, 0, none⟩ = some (.int .i64 e) := he.cell 0
  simp [results, Tryz.results9, go_sem, h2, h3, h4, f0, g0, e0, e1, e2, e3, e4, e5, e6, e7, e8, e9, acC]

set_option maxHeartbeats 4000000 in
set_option maxRecDepth 100000 in
theorem ofLine_any {w : World} (s : Bs) (hs : s.length ≤ 900000) (E : Env w) : Calls Tryz.prog 9 #[.string (mk s)] w (OfLinePost w s) := by
  have hmf : ∀ (fn : Fn) (first cap : Array Value) (w : World), (Instr.makeFunc fn first cap).run Tryz.prog w = .ok (.func fn first cap) w := fun _ _ _ _ => rfl
  obtain ⟨W, hW⟩ : ∃ W, W = ((w.alloc (.cells zCs 31)).alloc (.cells #[.int .i64 0] 3)).alloc (.cells #[.int .i64 0] 32) := ⟨_, rfl⟩
  have hA : Blk W w.heap.size 31 zCs := by rw [hW]; exact ((Blk.new w _ _).alloc _).alloc _
  have hN : Blk W (w.heap.size + 1) 3 #[.int .i64 0] := by
    rw [hW]
    have h := (Blk.new (w.alloc (.cells zCs 31)) 3 #[.int .i64 0]).alloc (.cells #[.int .i64 0] 32)
    simpa using h
  have hE : Blk W (w.heap.size + 2) 32 #[.int .i64 0] := by
    rw [hW]
    have h := Blk.new ((w.alloc (.cells zCs 31)).alloc (.cells #[.int .i64 0] 3)) 32 #[.int .i64 0]
    simpa using h
  have hB : Below w.heap.size w W := by
    rw [hW]
    exact ((((Below.refl _ _).alloc (Nat.le_refl _) _).alloc (by simp) _).alloc (by simp; omega) _)
  have HI := Lib.hid (And.intro hA (And.intro hN (And.intro hE (And.intro hB (E.next hB)))))
  clear hA hN hE hB
  go_enter_defers Tryz.func9, Tryz.ntmps9
  go_upto_region 1 with fail
  rw [← hW]
  clear hW
  go_wp2_with fail
  refine (split_any s (by omega) HI.out.2.2.2.2).mono ?_; rintro e w1 ⟨v, rfl, hv, hb1⟩
  have H1 := Lib.hid (And.intro hv hb1); clear hv hb1
  go_wp2_with fail
  refine (of_any (splitC 32 s) v (splitC_nn 32 s) H1.out.1 (fun x hx => by have := splitC_mem 32 s x hx; omega) (by have := splitC_len 32 s; omega) (HI.out.2.2.2.2.next H1.out.2)).mono ?_; rintro e w2 ⟨hb2, he⟩
  have hk : Below W.heap.size W w2 := H1.out.2.trans (hb2.mono H1.out.2.size)
  have H2 := Lib.hid (And.intro (HI.out.1.below hk HI.out.1.lt) (And.intro (HI.out.2.1.below hk HI.out.2.1.lt) (And.intro (HI.out.2.2.1.below hk HI.out.2.2.1.lt) (HI.out.2.2.2.1.trans (hk.mono HI.out.2.2.2.1.size)))))
  clear hk hb2
  cases ho : ofL (splitC 32 s) with
  | none =>
    rw [ho] at he
    obtain rfl := he
    have HQ := Lib.hid (show lineOf s = none from ho)
    refine leaves_cons (f := 28) (args := #[.pointer (some ⟨w.heap.size + 2, 0, none⟩)]) (by simp) (by simp [go_sem]) ?_
    refine (caught_panicking ⟨w.heap.size + 2, 0, none⟩ 0 11 [] w2 (H2.out.2.2.1.cell 0) (H2.out.2.2.1.frozen 0)).mono ?_
    rintro e u' w3 ⟨rfl, rfl, rfl⟩
    have h3a := H2.out.1.far (p := ⟨w.heap.size + 2, 0, none⟩) (show w.heap.size ≠ w.heap.size + 2 by omega) (.int .i64 11)
    have h3n := H2.out.2.1.far (p := ⟨w.heap.size + 2, 0, none⟩) (show w.heap.size + 1 ≠ w.heap.size + 2 by omega) (.int .i64 11)
    have h3e := H2.out.2.2.1.set_ 0 (.int .i64 11)
    have h3b := H2.out.2.2.2.setCell (p := ⟨w.heap.size + 2, 0, none⟩) (by simp) (.int .i64 11)
    show Leaves Tryz.prog Tryz.f9 _ _ _ .returning _
    refine leaves_cons (f := 27) (args := #[.pointer (some ⟨w.heap.size + 2, 0, none⟩), .pointer (some ⟨w.heap.size, 0, none⟩), .pointer (some ⟨w.heap.size + 1, 0, none⟩)]) (by simp) (by simp [go_sem]) ?_
    refine (ofLineFn_bad .returning (w.heap.size + 2) w.heap.size (w.heap.size + 1) 11 (by decide) Ac.zero none 0 0 (.int .i64 0) h3e h3a h3n (by omega) (by omega) (by omega)).mono ?_
    rintro e u' w4 ⟨rfl, rfl, h4e, h4a, h4n, h4b⟩
    have hB4 := h3b.trans (h4b w.heap.size (by omega) (Nat.le_refl _) (by omega))
    refine ⟨_, res_ofLine h4a h4n h4e rfl rfl rfl, hB4, ?_⟩
    rw [HQ.out]
  | some p =>
    obtain ⟨a, n⟩ := p
    rw [ho] at he
    obtain ⟨kv, rfl, hkv, hfr⟩ := he
    have HQ := Lib.hid (show lineOf s = some (a, n) from ho)
    obtain ⟨kA, kc, rfl⟩ := hkv.len
    have HK := Lib.hid (And.intro hkv (hfr.mono (B' := w.heap.size + 3) (by have h1 := H1.out.2.size; have h2 := HI.out.2.2.1.lt; omega))); clear hkv hfr ho
    obtain ⟨d0, d1, d2, d3, d4, d5, d6, d7, d8, d9⟩ := acCells (a := Ac.zero) (kv := .slice none 0 0) H2.out.1
    have z0 := H2.out.1.frozen 0
    have z1 := H2.out.1.frozen 1
    have z2 := H2.out.1.frozen 2
    have z3 := H2.out.1.frozen 3
    have z4 := H2.out.1.frozen 4
    have z5 := H2.out.1.frozen 5
    have z6 := H2.out.1.frozen 6
    have z7 := H2.out.1.frozen 7
    have z8 := H2.out.1.frozen 8
    have z9 := H2.out.1.frozen 9
    have n0 : w2.cell? ⟨w.heap.size + 1, 0, none⟩ = some (.int .i64 0) := H2.out.2.1.cell 0
    have nz := H2.out.2.1.frozen 0
    have c0 : w2.cell? ⟨w.heap.size + 2, 0, none⟩ = some (.int .i64 0) := H2.out.2.2.1.cell 0
    have cz := H2.out.2.2.1.frozen 0
    obtain ⟨kind, client, ⟨op, key, hi, lim, val⟩, at_, an, keep⟩ := a
    unfold acC
    go_upto_region 4 with fail
    clear d0 d1 d2 d3 d4 d5 d6 d7 d8 d9 z0 z1 z2 z3 z4 z5 z6 z7 z8 z9 n0 nz c0 cz
    obtain ⟨w3, hw3⟩ : ∃ w3, w3 = (put10 w2 w.heap.size ⟨kind, client, ⟨op, key, hi, lim, val⟩, at_, an, keep⟩ (.slice kA keep.length kc)).setCell ⟨w.heap.size + 1, 0, none⟩ (.int .i64 n) := ⟨_, rfl⟩
    have H3 := Lib.hid (ofLine_put (hw3) H2.out.1 H2.out.2.1 H2.out.2.2.1 H2.out.2.2.2)
    have HK3 := Lib.hid (show RowR w3 _ _ _ _ by rw [hw3]; exact (keep_put HK.out.1 HK.out.2 _ _).put HK.out.2 (show w.heap.size + 1 < w.heap.size + 3 by omega))
    rw [← hw3]
    clear hw3
    obtain ⟨d0, d1, d2, d3, d4, d5, d6, d7, d8, d9⟩ := acCells H3.out.1
    have z0 := H3.out.1.frozen 0
    have z1 := H3.out.1.frozen 1
    have z2 := H3.out.1.frozen 2
    have z3 := H3.out.1.frozen 3
    have z4 := H3.out.1.frozen 4
    have z5 := H3.out.1.frozen 5
    have z6 := H3.out.1.frozen 6
    have z7 := H3.out.1.frozen 7
    have z8 := H3.out.1.frozen 8
    have z9 := H3.out.1.frozen 9
    have n0 : w3.cell? ⟨w.heap.size + 1, 0, none⟩ = some (.int .i64 n) := H3.out.2.1.cell 0
    have nz := H3.out.2.1.frozen 0
    have c0 : w3.cell? ⟨w.heap.size + 1 + 1, 0, none⟩ = some (.int .i64 0) := H3.out.2.2.1.cell 0
    have cz : w3.frozen? ⟨w.heap.size + 1 + 1, 0, none⟩ = false := H3.out.2.2.1.frozen 0
    go_region
    obtain ⟨w5, hw5⟩ : ∃ w5, w5 = (((put10 w3 w.heap.size ⟨kind, client, ⟨op, key, hi, lim, val⟩, at_, an, keep⟩ (.slice kA keep.length kc)).setCell ⟨w.heap.size + 1, 0, none⟩ (.int .i64 n)).setCell ⟨w.heap.size + 1 + 1, 0, none⟩ (.int .i64 0)).drew := ⟨_, rfl⟩
    have H5 := Lib.hid (ofLine_put2 hw5 H3.out.1 H3.out.2.1 H3.out.2.2.1 H3.out.2.2.2)
    have HK5 := Lib.hid (ofLine_keep2 hw5 HK3.out HK.out.2)
    rw [← hw5]
    clear hw5 d0 d1 d2 d3 d4 d5 d6 d7 d8 d9 z0 z1 z2 z3 z4 z5 z6 z7 z8 z9 n0 nz c0 cz
    go_wp2_with fail
    refine leaves_cons (f := 28) (args := #[.pointer (some ⟨w.heap.size + 2, 0, none⟩)]) (by simp) (by simp [go_sem]) ?_
    refine (caught_idle ⟨w.heap.size + 2, 0, none⟩ w5).mono ?_
    rintro e u' w6 ⟨rfl, rfl, rfl⟩
    show Leaves Tryz.prog Tryz.f9 _ _ _ .returning _
    refine leaves_cons (f := 27) (args := #[.pointer (some ⟨w.heap.size + 2, 0, none⟩), .pointer (some ⟨w.heap.size, 0, none⟩), .pointer (some ⟨w.heap.size + 1, 0, none⟩)]) (by simp) (by simp [go_sem]) ?_
    refine (ofLineFn_ok .returning (w.heap.size + 2) w.heap.size (w.heap.size + 1) H5.out.2.2.1).mono ?_
    rintro e u' w6 ⟨rfl, rfl, rfl⟩
    refine ⟨_, res_ofLine H5.out.1 H5.out.2.1 H5.out.2.2.1 rfl rfl rfl, H5.out.2.2.2, ?_⟩
    rw [HQ.out]
    exact ⟨_, rfl, HK5.out, HK.out.2.mono (by omega)⟩

end Go.Proofs.YtbpbkmhipbchbaaGreatDoor.sc
