/-
  ScOfLine: PROVED HERE: the contract of script's OfLine: the act of a line, how often, no error; or no act, 0, ErrBytes. Conditions: the library's tables lie (Env); a short line.
  ScMay: PROVED HERE: the contract of script's may: is an act what its own line says. Conditions: numbers of their kinds; a short line; the library's tables lie (Env).
  ScLineF: PROVED HERE: the contract of script's Line: the line of so many acts, or ErrArg. Conditions: numbers of their kinds; a short line; the library's tables lie (Env).
  ScActs: PROVED HERE: slices of acts (ActsR), and the contracts of May's closure, slices.IndexFunc, slices.ContainsFunc at acts, and of script's May. Conditions: numbers of their kinds; short lines; the library's tables lie (Env).
-/
import Derived.Test.YtnnahodajiolmaaGreatDoorScOf3
import Derived.Test.YtnnahodajiolmaaGreatDoorScPlain
namespace Go.Proofs.YtnnahodajiolmaaGreatDoor.sc
open Go.RowKit
set_option linter.unusedVariables false

/-- What OfLine comes to. -/
def OfLinePost (w : World) (s : Bs) (e : Ending) (w' : World) : Prop :=
  Below w.heap.size w w' ∧ match lineOf s with
    | some (a, n) => ∃ kv, e = .returned (.tuple #[.agg (acC a kv), .int .i64 n, .int .i64 0]) ∧ RowR w' kv a.keep.length 1 (a.keep.map (Value.int .i64)) ∧ Fresh w.heap.size kv
    | none => e = .returned (.tuple #[.agg (acC Ac.zero (.slice none 0 0)), .int .i64 0, .int .i64 11])

theorem splitC_mem (c : UInt8) : ∀ s : Bs, ∀ x ∈ splitC c s, x.length ≤ s.length
  | [], x, hx => by simp [splitC] at hx; subst hx; simp
  | b :: r, x, hx => by
    have ih := splitC_mem c r
    rw [splitC] at hx
    split at hx
    · rcases List.mem_cons.1 hx with rfl | hx
      · simp
      · have := ih x hx; simp; omega
    · cases hs : splitC c r with
      | nil =>
        rw [hs] at hx
        simp only [List.mem_singleton] at hx
        subst hx; simp
      | cons y t =>
        rw [hs] at hx ih
        rcases List.mem_cons.1 hx with rfl | hx
        · have := ih y List.mem_cons_self; simp; omega
        · have := ih x (List.mem_cons_of_mem _ hx); simp; omega
theorem splitC_len (c : UInt8) : ∀ s : Bs, (splitC c s).length ≤ s.length + 1
  | [] => by simp [splitC]
  | b :: r => by
    have ih := splitC_len c r
    rw [splitC]
    split
    · simp; omega
    · cases hs : splitC c r with
      | nil => simp
      | cons y t => rw [hs] at ih; simp at ih ⊢; omega
theorem splitC_nn (c : UInt8) (s : Bs) : splitC c s ≠ [] := by
  cases s with
  | nil => simp [splitC]
  | cons b r =>
    rw [splitC]
    split
    · simp
    · split <;> simp

theorem put10_far {w : World} {g b : Nat} {t : TypeId} {cs : Array Value} (h : Blk w b t cs) (hg : b ≠ g) (a : Ac) (kv : Value) : Blk (put10 w g a kv) b t cs :=
  (((((((((h.far (p := ⟨g, 0, none⟩) hg _).far (p := ⟨g, 1, none⟩) hg _).far (p := ⟨g, 2, none⟩) hg _).far (p := ⟨g, 3, none⟩) hg _).far (p := ⟨g, 4, none⟩) hg _).far (p := ⟨g, 5, none⟩) hg _).far (p := ⟨g, 6, none⟩) hg _).far (p := ⟨g, 7, none⟩) hg _).far (p := ⟨g, 8, none⟩) hg _).far (p := ⟨g, 9, none⟩) hg _
theorem keep_put {w : World} {g n : Nat} {size : Nat} {v : Value} {cs : List Value} (h : RowR w v n size cs) (hf : Fresh (g + 3) v) (a : Ac) (kv : Value) : RowR (put10 w g a kv) v n size cs :=
  have hg : ∀ i, (⟨g, i, none⟩ : Addr).block < g + 3 := fun _ => by simp
  (((((((((h.put hf (hg 0)).put hf (hg 1)).put hf (hg 2)).put hf (hg 3)).put hf (hg 4)).put hf (hg 5)).put hf (hg 6)).put hf (hg 7)).put hf (hg 8)).put hf (hg 9)
theorem ofLine_put {w w2 w3 : World} {a : Ac} {kv : Value} {n n0 e : Int} (hw3 : w3 = (put10 w2 w.heap.size a kv).setCell ⟨w.heap.size + 1, 0, none⟩ (.int .i64 n))
    (hA : Blk w2 w.heap.size 40 zCs) (hN : Blk w2 (w.heap.size + 1) 3 #[.int .i64 n0]) (hE : Blk w2 (w.heap.size + 2) 26 #[.int .i64 e]) (hB : Below w.heap.size w w2) :
    Blk w3 w.heap.size 40 (acC a kv) ∧ Blk w3 (w.heap.size + 1) 3 #[.int .i64 n] ∧ Blk w3 (w.heap.size + 2) 26 #[.int .i64 e] ∧ Below w.heap.size w w3 := by
  subst hw3
  exact ⟨(put10_blk hA rfl a kv).far (p := ⟨w.heap.size + 1, 0, none⟩) (show w.heap.size ≠ w.heap.size + 1 by omega) _, (put10_far hN (by omega) a kv).set_ 0 _,
    (put10_far hE (by omega) a kv).far (p := ⟨w.heap.size + 1, 0, none⟩) (show w.heap.size + 2 ≠ w.heap.size + 1 by omega) _, (put10_below hB (Nat.le_refl _) a kv).setCell (p := ⟨w.heap.size + 1, 0, none⟩) (Nat.le_succ _) _⟩
theorem ofLine_put2 {w w3 w5 : World} {a : Ac} {kv : Value} {n n0 e : Int} (hw5 : w5 = (((put10 w3 w.heap.size a kv).setCell ⟨w.heap.size + 1, 0, none⟩ (.int .i64 n)).setCell ⟨w.heap.size + 1 + 1, 0, none⟩ (.int .i64 0)).drew)
    (hA : Blk w3 w.heap.size 40 (acC a kv)) (hN : Blk w3 (w.heap.size + 1) 3 #[.int .i64 n0]) (hE : Blk w3 (w.heap.size + 2) 26 #[.int .i64 e]) (hB : Below w.heap.size w w3) :
    Blk w5 w.heap.size 40 (acC a kv) ∧ Blk w5 (w.heap.size + 1) 3 #[.int .i64 n] ∧ Blk w5 (w.heap.size + 2) 26 #[.int .i64 0] ∧ Below w.heap.size w w5 := by
  subst hw5
  refine ⟨(((put10_blk hA rfl a kv).far (p := ⟨w.heap.size + 1, 0, none⟩) (show w.heap.size ≠ w.heap.size + 1 by omega) _).far (p := ⟨w.heap.size + 1 + 1, 0, none⟩) (show w.heap.size ≠ w.heap.size + 1 + 1 by omega) _).drew,
    (((put10_far hN (by omega) a kv).set_ 0 _).far (p := ⟨w.heap.size + 1 + 1, 0, none⟩) (show w.heap.size + 1 ≠ w.heap.size + 1 + 1 by omega) _).drew,
    (((put10_far hE (by omega) a kv).far (p := ⟨w.heap.size + 1, 0, none⟩) (show w.heap.size + 2 ≠ w.heap.size + 1 by omega) _).set_ 0 _).drew,
    ((((put10_below hB (Nat.le_refl _) a kv).setCell (p := ⟨w.heap.size + 1, 0, none⟩) (Nat.le_succ _) _).setCell (p := ⟨w.heap.size + 1 + 1, 0, none⟩) (by simp only; omega) _).drew)⟩
theorem RowR.drew {w : World} {n size : Nat} {v : Value} {cs : List Value} (h : RowR w v n size cs) : RowR w.drew v n size cs := h
theorem ofLine_keep2 {w w3 w5 : World} {a : Ac} {kv v : Value} {n e : Int} {m size : Nat} {cs : List Value} (hw5 : w5 = (((put10 w3 w.heap.size a kv).setCell ⟨w.heap.size + 1, 0, none⟩ (.int .i64 n)).setCell ⟨w.heap.size + 1 + 1, 0, none⟩ (.int .i64 e)).drew)
    (h : RowR w3 v m size cs) (hf : Fresh (w.heap.size + 3) v) : RowR w5 v m size cs := by
  subst hw5
  have h1 := keep_put h hf a kv
  have h2 := h1.put (p := ⟨w.heap.size + 1, 0, none⟩) (u := .int .i64 n) hf (show w.heap.size + 1 < w.heap.size + 3 by omega)
  exact (h2.put (p := ⟨w.heap.size + 1 + 1, 0, none⟩) (u := .int .i64 e) hf (show w.heap.size + 1 + 1 < w.heap.size + 3 by omega)).drew
theorem res_ofLine {X : World} {b bn be : Nat} {a : Ac} {kv : Value} {tmps : Array Value} {n e : Int} (hB : Blk X b 40 (acC a kv)) (hn : Blk X bn 3 #[.int .i64 n]) (he : Blk X be 26 #[.int .i64 e])
    (h2 : tmps[2]? = some (.pointer (some ⟨b, 0, none⟩))) (h3 : tmps[3]? = some (.pointer (some ⟨bn, 0, none⟩))) (h4 : tmps[4]? = some (.pointer (some ⟨be, 0, none⟩))) :
    (results Tryz.f10 tmps).run Tryz.prog X = .ok (.tuple #[.agg (acC a kv), .int .i64 n, .int .i64 e]) X := by
  obtain ⟨e0, e1, e2, e3, e4, e5, e6, e7, e8, e9⟩ := acCells hB
  have f0 : X.cell? ⟨bn, 0, none⟩ = some (.int .i64 n) := hn.cell 0
  have g0 : X.cell? ⟨be, 0, none⟩ = some (.int .i64 e) := he.cell 0
  simp [results, Tryz.results10, go_sem, h2, h3, h4, f0, g0, e0, e1, e2, e3, e4, e5, e6, e7, e8, e9, acC]

set_option maxHeartbeats 4000000 in
set_option maxRecDepth 100000 in
theorem ofLine_any {w : World} (s : Bs) (hs : s.length ≤ 900000) (E : Env w) : Calls Tryz.prog 10 #[.string (mk s)] w (OfLinePost w s) := by
  have hmf : ∀ (fn : Fn) (first cap : Array Value) (w : World), (Instr.makeFunc fn first cap).run Tryz.prog w = .ok (.func fn first cap) w := fun _ _ _ _ => rfl
  obtain ⟨W, hW⟩ : ∃ W, W = ((w.alloc (.cells zCs 40)).alloc (.cells #[.int .i64 0] 3)).alloc (.cells #[.int .i64 0] 26) := ⟨_, rfl⟩
  have hA : Blk W w.heap.size 40 zCs := by rw [hW]; exact ((Blk.new w _ _).alloc _).alloc _
  have hN : Blk W (w.heap.size + 1) 3 #[.int .i64 0] := by
    rw [hW]
    have h := (Blk.new (w.alloc (.cells zCs 40)) 3 #[.int .i64 0]).alloc (.cells #[.int .i64 0] 26)
    simpa using h
  have hE : Blk W (w.heap.size + 2) 26 #[.int .i64 0] := by
    rw [hW]
    have h := Blk.new ((w.alloc (.cells zCs 40)).alloc (.cells #[.int .i64 0] 3)) 26 #[.int .i64 0]
    simpa using h
  have hB : Below w.heap.size w W := by
    rw [hW]
    exact ((((Below.refl _ _).alloc (Nat.le_refl _) _).alloc (by simp) _).alloc (by simp; omega) _)
  have HI := Lib.hid (And.intro hA (And.intro hN (And.intro hE (And.intro hB (E.next hB)))))
  clear hA hN hE hB
  go_enter_defers Tryz.func10, Tryz.ntmps10
  go_upto_region 1 with fail
  rw [← hW]
  clear hW
  go_wp2_with fail
  refine (split_any s (by omega) HI.out.2.2.2.2).mono ?_; rintro e w1 ⟨v, rfl, hv, hb1⟩
  have H1 := Lib.hid (And.intro hv hb1); clear hv hb1
  go_wp2_with fail
  refine (of_any (splitC 32 s) v (splitC_nn 32 s) H1.out.1 (fun x hx => by have := splitC_mem 32 s x hx; omega) (by have := splitC_len 32 s; omega) (HI.out.2.2.2.2.next H1.out.2)).mono ?_; rintro e w2 ⟨hb2, he⟩
  have hk : Below W.heap.size W w2 := H1.out.2.trans (hb2.mono H1.out.2.size)
  have H2 := Lib.hid (And.intro (HI.out.1.below hk HI.out.1.lt) (And.intro (HI.out.2.1.below hk HI.out.2.1.lt) (And.intro (HI.out.2.2.1.below hk HI.out.2.2.1.lt) (HI.out.2.2.2.1.trans (hk.mono HI.out.2.2.2.1.size)))))
  clear hk hb2
  cases ho : ofL (splitC 32 s) with
  | none =>
    rw [ho] at he
    obtain rfl := he
    have HQ := Lib.hid (show lineOf s = none from ho)
    refine leaves_cons (f := 20) (args := #[.pointer (some ⟨w.heap.size + 2, 0, none⟩)]) (by simp) (by simp [go_sem]) ?_
    refine (caught_panicking ⟨w.heap.size + 2, 0, none⟩ 0 11 [] w2 (H2.out.2.2.1.cell 0) (H2.out.2.2.1.frozen 0)).mono ?_
    rintro e u' w3 ⟨rfl, rfl, rfl⟩
    have h3a := H2.out.1.far (p := ⟨w.heap.size + 2, 0, none⟩) (show w.heap.size ≠ w.heap.size + 2 by omega) (.int .i64 11)
    have h3n := H2.out.2.1.far (p := ⟨w.heap.size + 2, 0, none⟩) (show w.heap.size + 1 ≠ w.heap.size + 2 by omega) (.int .i64 11)
    have h3e := H2.out.2.2.1.set_ 0 (.int .i64 11)
    have h3b := H2.out.2.2.2.setCell (p := ⟨w.heap.size + 2, 0, none⟩) (by simp) (.int .i64 11)
    show Leaves Tryz.prog Tryz.f10 _ _ _ .returning _
    refine leaves_cons (f := 24) (args := #[.pointer (some ⟨w.heap.size + 2, 0, none⟩), .pointer (some ⟨w.heap.size, 0, none⟩), .pointer (some ⟨w.heap.size + 1, 0, none⟩)]) (by simp) (by simp [go_sem]) ?_
    refine (ofLineFn_bad .returning (w.heap.size + 2) w.heap.size (w.heap.size + 1) 11 (by decide) Ac.zero none 0 0 (.int .i64 0) h3e h3a h3n (by omega) (by omega) (by omega)).mono ?_
    rintro e u' w4 ⟨rfl, rfl, h4e, h4a, h4n, h4b⟩
    have hB4 := h3b.trans (h4b w.heap.size (by omega) (Nat.le_refl _) (by omega))
    refine ⟨_, res_ofLine h4a h4n h4e rfl rfl rfl, hB4, ?_⟩
    rw [HQ.out]
  | some p =>
    obtain ⟨a, n⟩ := p
    rw [ho] at he
    obtain ⟨kv, rfl, hkv, hfr⟩ := he
    have HQ := Lib.hid (show lineOf s = some (a, n) from ho)
    obtain ⟨kA, kc, rfl⟩ := hkv.len
    have HK := Lib.hid (And.intro hkv (hfr.mono (B' := w.heap.size + 3) (by have h1 := H1.out.2.size; have h2 := HI.out.2.2.1.lt; omega))); clear hkv hfr ho
    obtain ⟨d0, d1, d2, d3, d4, d5, d6, d7, d8, d9⟩ := acCells (a := Ac.zero) (kv := .slice none 0 0) H2.out.1
    have z0 := H2.out.1.frozen 0
    have z1 := H2.out.1.frozen 1
    have z2 := H2.out.1.frozen 2
    have z3 := H2.out.1.frozen 3
    have z4 := H2.out.1.frozen 4
    have z5 := H2.out.1.frozen 5
    have z6 := H2.out.1.frozen 6
    have z7 := H2.out.1.frozen 7
    have z8 := H2.out.1.frozen 8
    have z9 := H2.out.1.frozen 9
    have n0 : w2.cell? ⟨w.heap.size + 1, 0, none⟩ = some (.int .i64 0) := H2.out.2.1.cell 0
    have nz := H2.out.2.1.frozen 0
    have c0 : w2.cell? ⟨w.heap.size + 2, 0, none⟩ = some (.int .i64 0) := H2.out.2.2.1.cell 0
    have cz := H2.out.2.2.1.frozen 0
    obtain ⟨kind, client, ⟨op, key, hi, lim, val⟩, at_, an, keep⟩ := a
    unfold acC
    go_upto_region 4 with fail
    clear d0 d1 d2 d3 d4 d5 d6 d7 d8 d9 z0 z1 z2 z3 z4 z5 z6 z7 z8 z9 n0 nz c0 cz
    obtain ⟨w3, hw3⟩ : ∃ w3, w3 = (put10 w2 w.heap.size ⟨kind, client, ⟨op, key, hi, lim, val⟩, at_, an, keep⟩ (.slice kA keep.length kc)).setCell ⟨w.heap.size + 1, 0, none⟩ (.int .i64 n) := ⟨_, rfl⟩
    have H3 := Lib.hid (ofLine_put (hw3) H2.out.1 H2.out.2.1 H2.out.2.2.1 H2.out.2.2.2)
    have HK3 := Lib.hid (show RowR w3 _ _ _ _ by rw [hw3]; exact (keep_put HK.out.1 HK.out.2 _ _).put HK.out.2 (show w.heap.size + 1 < w.heap.size + 3 by omega))
    rw [← hw3]
    clear hw3
    obtain ⟨d0, d1, d2, d3, d4, d5, d6, d7, d8, d9⟩ := acCells H3.out.1
    have z0 := H3.out.1.frozen 0
    have z1 := H3.out.1.frozen 1
    have z2 := H3.out.1.frozen 2
    have z3 := H3.out.1.frozen 3
    have z4 := H3.out.1.frozen 4
    have z5 := H3.out.1.frozen 5
    have z6 := H3.out.1.frozen 6
    have z7 := H3.out.1.frozen 7
    have z8 := H3.out.1.frozen 8
    have z9 := H3.out.1.frozen 9
    have n0 : w3.cell? ⟨w.heap.size + 1, 0, none⟩ = some (.int .i64 n) := H3.out.2.1.cell 0
    have nz := H3.out.2.1.frozen 0
    have c0 : w3.cell? ⟨w.heap.size + 1 + 1, 0, none⟩ = some (.int .i64 0) := H3.out.2.2.1.cell 0
    have cz : w3.frozen? ⟨w.heap.size + 1 + 1, 0, none⟩ = false := H3.out.2.2.1.frozen 0
    go_region
    obtain ⟨w5, hw5⟩ : ∃ w5, w5 = (((put10 w3 w.heap.size ⟨kind, client, ⟨op, key, hi, lim, val⟩, at_, an, keep⟩ (.slice kA keep.length kc)).setCell ⟨w.heap.size + 1, 0, none⟩ (.int .i64 n)).setCell ⟨w.heap.size + 1 + 1, 0, none⟩ (.int .i64 0)).drew := ⟨_, rfl⟩
    have H5 := Lib.hid (ofLine_put2 hw5 H3.out.1 H3.out.2.1 H3.out.2.2.1 H3.out.2.2.2)
    have HK5 := Lib.hid (ofLine_keep2 hw5 HK3.out HK.out.2)
    rw [← hw5]
    clear hw5 d0 d1 d2 d3 d4 d5 d6 d7 d8 d9 z0 z1 z2 z3 z4 z5 z6 z7 z8 z9 n0 nz c0 cz
    go_wp2_with fail
    refine leaves_cons (f := 20) (args := #[.pointer (some ⟨w.heap.size + 2, 0, none⟩)]) (by simp) (by simp [go_sem]) ?_
    refine (caught_idle ⟨w.heap.size + 2, 0, none⟩ w5).mono ?_
    rintro e u' w6 ⟨rfl, rfl, rfl⟩
    show Leaves Tryz.prog Tryz.f10 _ _ _ .returning _
    refine leaves_cons (f := 24) (args := #[.pointer (some ⟨w.heap.size + 2, 0, none⟩), .pointer (some ⟨w.heap.size, 0, none⟩), .pointer (some ⟨w.heap.size + 1, 0, none⟩)]) (by simp) (by simp [go_sem]) ?_
    refine (ofLineFn_ok .returning (w.heap.size + 2) w.heap.size (w.heap.size + 1) H5.out.2.2.1).mono ?_
    rintro e u' w6 ⟨rfl, rfl, rfl⟩
    refine ⟨_, res_ofLine H5.out.1 H5.out.2.1 H5.out.2.2.1 rfl rfl rfl, H5.out.2.2.2, ?_⟩
    rw [HQ.out]
    exact ⟨_, rfl, HK5.out, HK.out.2.mono (by omega)⟩

end Go.Proofs.YtnnahodajiolmaaGreatDoor.sc

namespace Go.Proofs.YtnnahodajiolmaaGreatDoor.sc
open Go.RowKit
set_option linter.unusedVariables false

theorem join_few : ∀ l : List Bs, l.length ≤ (joinB l).length + 1
  | [] => by simp
  | [x] => by simp
  | x :: y :: r => by
    have := join_few (y :: r)
    rw [joinB_cons2]
    simp at this ⊢; omega
theorem lineOf_keep {s : Bs} {a : Ac} {n : Int} (h : lineOf s = some (a, n)) : a.keep.length ≤ s.length + 1 := by
  obtain ⟨h1, _, _, h4⟩ := lineOf_some h
  have h5 := join_few (wordsL a n)
  rw [show joinB (wordsL a n) = s from h4] at h5
  have : a.keep.length ≤ (wordsL a n).length := by
    rcases may_forms h1 with ⟨c, op, key, hi, lim, val, rfl, _⟩ | ⟨c, rfl⟩ | ⟨p, m, rfl⟩ | ⟨t, rfl⟩ | ⟨k, _, rfl⟩
    · simp
    · simp
    · simp
    · simp [wordsL]
    · simp
  omega
theorem words_few (a : Ac) (O : AcOk a) : (wordsL a 1).length ≤ 1000000 := by
  have h := O.few
  unfold wordsL callW
  repeat' split
  all_goals (simp; try omega)
theorem may_no1 {a : Ac} (h : a.kind < 1 ∨ 7 < a.kind ∨ (a.kind = 1 ∧ (a.call.op < 1 ∨ 4 < a.call.op))) : may a = false := if_pos h
theorem may_line {a : Ac} (h : ¬ (a.kind < 1 ∨ 7 < a.kind ∨ (a.kind = 1 ∧ (a.call.op < 1 ∨ 4 < a.call.op)))) : may a = match lineOf (lineL a 1) with
    | some (b, _) => decide (a = b)
    | none => false := if_neg h

set_option maxHeartbeats 4000000 in
set_option maxRecDepth 100000 in
/-- From region 3 on: the words, the line, its reading. -/
theorem may_bad {w : World} (a : Ac) (va : Value) (hva : RowR w va a.keep.length 1 (a.keep.map (Value.int .i64))) (h : a.kind < 1 ∨ 7 < a.kind ∨ (a.kind = 1 ∧ (a.call.op < 1 ∨ 4 < a.call.op))) :
    Calls Tryz.prog 67 #[.agg (acC a va)] w (fun e w' => e = .returned (.bool (may a)) ∧ Below w.heap.size w w') := by
  have HG := Lib.hid (may_no1 h)
  obtain ⟨A, c, rfl⟩ := hva.len
  clear hva
  obtain ⟨kind, client, ⟨op, key, hi, lim, val⟩, at_, an, keep⟩ := a
  simp only at h
  obtain ⟨W, hW⟩ : ∃ W, W = w.alloc (.cells (acC ⟨kind, client, ⟨op, key, hi, lim, val⟩, at_, an, keep⟩ (.slice A keep.length c)) 40) := ⟨_, rfl⟩
  have hA : Blk W w.heap.size 40 (acC ⟨kind, client, ⟨op, key, hi, lim, val⟩, at_, an, keep⟩ (.slice A keep.length c)) := by rw [hW]; exact Blk.new _ _ _
  have HB := Lib.hid (show Below w.heap.size w W by rw [hW]; exact (Below.refl _ _).alloc (Nat.le_refl _) _)
  obtain ⟨d0, d1, d2, d3, d4, d5, d6, d7, d8, d9⟩ := acCells hA
  clear hA d1 d3 d4 d5 d6 d7 d8 d9
  dsimp only at d0 d2
  by_cases h1 : kind < 1
  · clear h
    go_enter Tryz.func67, Tryz.ntmps67
    go_upto_region 1 with fail
    rw [← hW]
    clear hW
    go_wp2_with fail
    go_ret
    exact ⟨by rw [HG.out]; rfl, HB.out⟩
  · by_cases h7 : 7 < kind
    · clear h
      go_enter Tryz.func67, Tryz.ntmps67
      go_upto_region 1 with fail
      rw [← hW]
      clear hW
      go_wp2_with fail
      go_ret
      exact ⟨by rw [HG.out]; rfl, HB.out⟩
    · obtain ⟨rfl, h⟩ : kind = 1 ∧ (op < 1 ∨ 4 < op) := by omega
      clear h1 h7
      by_cases h2 : op < 1
      · clear h
        go_enter Tryz.func67, Tryz.ntmps67
        go_upto_region 1 with fail
        rw [← hW]
        clear hW
        go_wp2_with fail
        go_ret
        exact ⟨by rw [HG.out]; rfl, HB.out⟩
      · have h4 : 4 < op := by omega
        clear h
        go_enter Tryz.func67, Tryz.ntmps67
        go_upto_region 1 with fail
        rw [← hW]
        clear hW
        go_wp2_with fail
        go_ret
        exact ⟨by rw [HG.out]; rfl, HB.out⟩

set_option maxHeartbeats 4000000 in
set_option maxRecDepth 100000 in
theorem may_good {w : World} (a : Ac) (va : Value) (hva : RowR w va a.keep.length 1 (a.keep.map (Value.int .i64))) (O : AcOk a) (hlen : (lineL a 1).length ≤ 900000) (E : Env w)
    (h : ¬ (a.kind < 1 ∨ 7 < a.kind ∨ (a.kind = 1 ∧ (a.call.op < 1 ∨ 4 < a.call.op)))) :
    Calls Tryz.prog 67 #[.agg (acC a va)] w (fun e w' => e = .returned (.bool (may a)) ∧ Below w.heap.size w w') := by
  have HG := Lib.hid (may_line h)
  have HO := Lib.hid (And.intro O (And.intro hva (And.intro hlen (And.intro E (And.intro (show I64 1 by unfold I64; omega) h)))))
  obtain ⟨A, c, rfl⟩ := hva.len
  clear O hva hlen E
  obtain ⟨kind, client, ⟨op, key, hi, lim, val⟩, at_, an, keep⟩ := a
  simp only at h
  obtain ⟨W, hW⟩ : ∃ W, W = w.alloc (.cells (acC ⟨kind, client, ⟨op, key, hi, lim, val⟩, at_, an, keep⟩ (.slice A keep.length c)) 40) := ⟨_, rfl⟩
  have hA : Blk W w.heap.size 40 (acC ⟨kind, client, ⟨op, key, hi, lim, val⟩, at_, an, keep⟩ (.slice A keep.length c)) := by rw [hW]; exact Blk.new _ _ _
  have HB := Lib.hid (And.intro hA (show Below w.heap.size w W by rw [hW]; exact (Below.refl _ _).alloc (Nat.le_refl _) _))
  clear hA
  obtain ⟨d0, d1, d2, d3, d4, d5, d6, d7, d8, d9⟩ := acCells HB.out.1
  dsimp only at d0 d1 d2 d3 d4 d5 d6 d7 d8 d9
  have h1 : ¬ kind < 1 := by omega
  have h7 : ¬ 7 < kind := by omega
  have hsplit : (kind == 1) = false ∨ ((kind == 1) = true ∧ ¬ op < 1 ∧ ¬ 4 < op) := by
    by_cases hk : kind = 1
    · right; refine ⟨by simpa using hk, by omega, by omega⟩
    · left; simpa using hk
  clear h
  rcases hsplit with e1 | ⟨e1, h2, h4⟩
  all_goals
    go_enter Tryz.func67, Tryz.ntmps67
    go_upto_region 1 with fail
    rw [← hW]
    clear hW
    go_wp2_with fail
    refine (words_any ⟨kind, client, ⟨op, key, hi, lim, val⟩, at_, an, keep⟩ (.slice A keep.length c) 1 HO.out.2.2.2.2.1 (by simp only; omega) (by simp only; omega) (by have := HO.out.2.2.2.2.2; simp only at this ⊢; omega) (HO.out.2.1.next HB.out.2) HO.out.1 (HO.out.2.2.2.1.next HB.out.2)).mono ?_; rintro e w1 ⟨v1, rfl, ho1, hb1⟩
    have H1 := Lib.hid (And.intro (StrsAt.of_own ho1) hb1); clear ho1 hb1
    clear d0 d1 d2 d3 d4 d5 d6 d7 d8 d9
    go_wp2_with fail
    refine (join_any H1.out.1 (by have := words_few _ HO.out.1; omega) (by have := HO.out.2.2.1; unfold lineL at this; omega)).mono ?_; rintro e w2 ⟨rfl, hb2⟩
    have hk2 : Below W.heap.size W w2 := H1.out.2.trans (hb2.mono H1.out.2.size)
    have H2 := Lib.hid hk2; clear hk2 hb2
    go_wp2_with fail
    refine (ofLine_any (lineL ⟨kind, client, ⟨op, key, hi, lim, val⟩, at_, an, keep⟩ 1) HO.out.2.2.1 ((HO.out.2.2.2.1.next HB.out.2).next H2.out)).mono ?_; rintro e w3 ⟨hb3, he⟩
    have hk3 : Below W.heap.size W w3 := H2.out.trans (hb3.mono H2.out.size)
    have H3 := Lib.hid hk3; clear hk3 hb3
    cases hl : lineOf (lineL ⟨kind, client, ⟨op, key, hi, lim, val⟩, at_, an, keep⟩ 1) with
    | none =>
      rw [hl] at he
      obtain rfl := he
      have HQ := Lib.hid hl; clear hl
      unfold acC
      go_wp2_with fail
      go_ret
      refine ⟨by rw [HG.out, HQ.out]; rfl, ?_⟩
      exact (HB.out.2.trans (H3.out.mono HB.out.2.size)).alloc (HB.out.2.trans (H3.out.mono HB.out.2.size)).size _
    | some p =>
      obtain ⟨b, m⟩ := p
      rw [hl] at he
      obtain ⟨kb, rfl, hkb, hfb⟩ := he
      have HQ := Lib.hid hl; clear hl hfb
      obtain ⟨kA, kc, rfl⟩ := hkb.len
      have hbl : b.keep.length ≤ 1000000000 := by
        obtain ⟨hm1, hm2, hm3, hm4⟩ := lineOf_some HQ.out
        have := lineOf_keep HQ.out
        have := HO.out.2.2.1
        omega
      obtain ⟨kindb, clientb, ⟨opb, keyb, hib, limb, valb⟩, atb, anb, keepb⟩ := b
      obtain ⟨W4, hW4⟩ : ∃ W4, W4 = w3.alloc (.cells (acC ⟨kindb, clientb, ⟨opb, keyb, hib, limb, valb⟩, atb, anb, keepb⟩ (.slice kA keepb.length kc)) 40) := ⟨_, rfl⟩
      have hk4 : Below W.heap.size W W4 := by rw [hW4]; exact H3.out.alloc H3.out.size _
      have hb4 : Blk W4 w3.heap.size 40 (acC ⟨kindb, clientb, ⟨opb, keyb, hib, limb, valb⟩, atb, anb, keepb⟩ (.slice kA keepb.length kc)) := by rw [hW4]; exact Blk.new _ _ _
      have H4 := Lib.hid (And.intro (HB.out.1.below hk4 HB.out.1.lt) (And.intro hb4 (And.intro (HO.out.2.1.next (HB.out.2.trans (hk4.mono HB.out.2.size))) (And.intro (show RowR W4 _ _ _ _ by rw [hW4]; exact hkb.next ((Below.refl _ _).alloc (Nat.le_refl _) _)) (And.intro (HB.out.2.trans (hk4.mono HB.out.2.size)) hbl)))))
      clear hk4 hb4 hkb hbl
      unfold acC
      go_upto_region 4 with fail
      unfold acC at hW4
      dsimp only at hW4
      rw [← hW4]
      clear hW4
      obtain ⟨d0, d1, d2, d3, d4, d5, d6, d7, d8, d9⟩ := acCells H4.out.1
      obtain ⟨f0, f1, f2, f3, f4, f5, f6, f7, f8, f9⟩ := acCells H4.out.2.1
      dsimp only at d0 d1 d2 d3 d4 d5 d6 d7 d8 d9 f0 f1 f2 f3 f4 f5 f6 f7 f8 f9
      go_wp2_with fail
      refine (same_any ⟨kind, client, ⟨op, key, hi, lim, val⟩, at_, an, keep⟩ ⟨kindb, clientb, ⟨opb, keyb, hib, limb, valb⟩, atb, anb, keepb⟩ (.slice A keep.length c) (.slice kA keepb.length kc) H4.out.2.2.1 H4.out.2.2.2.1 (by have := HO.out.1.few; omega) H4.out.2.2.2.2.2).mono ?_; rintro e w6 ⟨he6, hb6⟩
      obtain ⟨q, hq⟩ : ∃ q, q = decide ((⟨kind, client, ⟨op, key, hi, lim, val⟩, at_, an, keep⟩ : Ac) = ⟨kindb, clientb, ⟨opb, keyb, hib, limb, valb⟩, atb, anb, keepb⟩) := ⟨_, rfl⟩
      rw [← hq] at he6
      obtain rfl := he6
      have HQ2 := Lib.hid hq; clear hq
      clear d0 d1 d2 d3 d4 d5 d6 d7 d8 d9 f0 f1 f2 f3 f4 f5 f6 f7 f8 f9
      go_wp2_with fail
      go_ret
      exact ⟨by rw [HG.out, HQ.out]; show _ = Ending.returned (Value.bool (decide _)); rw [← HQ2.out]; rfl, H4.out.2.2.2.2.1.trans (hb6.mono H4.out.2.2.2.2.1.size)⟩

theorem may_any {w : World} (a : Ac) (va : Value) (hva : RowR w va a.keep.length 1 (a.keep.map (Value.int .i64))) (O : AcOk a) (hlen : (lineL a 1).length ≤ 900000) (E : Env w) :
    Calls Tryz.prog 67 #[.agg (acC a va)] w (fun e w' => e = .returned (.bool (may a)) ∧ Below w.heap.size w w') := by
  by_cases h : a.kind < 1 ∨ 7 < a.kind ∨ (a.kind = 1 ∧ (a.call.op < 1 ∨ 4 < a.call.op))
  · exact may_bad a va hva h
  · exact may_good a va hva O hlen E h

end Go.Proofs.YtnnahodajiolmaaGreatDoor.sc

namespace Go.Proofs.YtnnahodajiolmaaGreatDoor.sc
open Go.RowKit
set_option linter.unusedVariables false

/-- May an act stand so many times in a line? -/
def lineOk (a : Ac) (n : Int) : Bool := may a && decide (1 ≤ n) && decide (n ≤ 100000) && (decide (n ≤ 1) || again a)
theorem words_few2 (a : Ac) (n : Int) (O : AcOk a) : (wordsL a n).length ≤ 1000000 := by
  have h := O.few
  unfold wordsL callW
  repeat' split
  all_goals (simp; try omega)
end Go.Proofs.YtnnahodajiolmaaGreatDoor.sc

namespace Go.Proofs.YtnnahodajiolmaaGreatDoor.sc
open Go.RowKit
set_option linter.unusedVariables false

/-! ### A slice of acts -/
def ActsR (w : World) (v : Value) (l : List Ac) : Prop :=
  ∃ A c, v = .slice A l.length c ∧ l.length ≤ c ∧ (0 < l.length → ∃ b o, A = some ⟨b, o, none⟩ ∧ b < w.heap.size ∧ ∀ i a, l[i]? = some a → ∃ kv, (∀ j, j < 10 → w.cell? ⟨b, o + i * 10 + j, none⟩ = (acC a kv)[j]?) ∧ RowR w kv a.keep.length 1 (a.keep.map (Value.int .i64)))
theorem ActsR.below {w w' : World} {v : Value} {l : List Ac} {B : Nat} (h : ActsR w v l) (hb : Below B w w') (hB : w.heap.size ≤ B) : ActsR w' v l := by
  obtain ⟨A, c, h1, h2, h3⟩ := h
  refine ⟨A, c, h1, h2, fun hn => ?_⟩
  obtain ⟨b, o, e, hlt, hc⟩ := h3 hn
  refine ⟨b, o, e, Nat.lt_of_lt_of_le hlt (by have := hb.size; omega), fun i a hi => ?_⟩
  obtain ⟨kv, h4, h5⟩ := hc i a hi
  exact ⟨kv, fun j hj => by rw [hb.cell (p := ⟨b, o + i * 10 + j, none⟩) (show b < B by omega)]; exact h4 j hj, h5.below hb hB⟩
theorem ActsR.next {w w' : World} {v : Value} {l : List Ac} (h : ActsR w v l) (hb : Below w.heap.size w w') : ActsR w' v l := h.below hb (Nat.le_refl _)
theorem ActsR.len {w : World} {v : Value} {l : List Ac} (h : ActsR w v l) : ∃ A c, v = .slice A l.length c := by
  obtain ⟨A, c, e, _⟩ := h; exact ⟨A, c, e⟩
theorem ActsR.cap {w : World} {A : Option Addr} {n c : Nat} {l : List Ac} (h : ActsR w (.slice A n c) l) : n = l.length ∧ l.length ≤ c := by
  obtain ⟨A', c', e, h2, _⟩ := h; cases e; exact ⟨rfl, h2⟩
theorem ActsR.nil (w : World) : ActsR w (.slice none 0 0) [] := ⟨none, 0, rfl, Nat.le_refl _, fun h => by simp at h⟩
theorem ActsR.at_ {w : World} {A : Option Addr} {n c k : Nat} {l : List Ac} {a : Ac} (h : ActsR w (.slice A n c) l) (hk : l[k]? = some a) :
    ∃ b o kA kc, A = some ⟨b, o, none⟩ ∧ RowR w (.slice kA a.keep.length kc) a.keep.length 1 (a.keep.map (Value.int .i64))
      ∧ w.cell? ⟨b, o + k * 10, none⟩ = some (.int .i64 a.kind) ∧ w.cell? ⟨b, o + k * 10 + 1, none⟩ = some (.int .i64 a.client) ∧ w.cell? ⟨b, o + k * 10 + 2, none⟩ = some (.int .i64 a.call.op) ∧ w.cell? ⟨b, o + k * 10 + 3, none⟩ = some (.int .u64 a.call.key)
      ∧ w.cell? ⟨b, o + k * 10 + 4, none⟩ = some (.int .u64 a.call.hi) ∧ w.cell? ⟨b, o + k * 10 + 5, none⟩ = some (.int .i64 a.call.lim) ∧ w.cell? ⟨b, o + k * 10 + 6, none⟩ = some (.string (mk a.call.val)) ∧ w.cell? ⟨b, o + k * 10 + 7, none⟩ = some (.int .u64 a.at_)
      ∧ w.cell? ⟨b, o + k * 10 + 8, none⟩ = some (.int .i64 a.n) ∧ w.cell? ⟨b, o + k * 10 + 9, none⟩ = some (.slice kA a.keep.length kc) := by
  obtain ⟨A', c', e, _, h3⟩ := h
  cases e
  have hl : k < l.length := (List.getElem?_eq_some_iff.1 hk).1
  obtain ⟨b, o, rfl, _, hc⟩ := h3 (by omega)
  obtain ⟨kv, h4, h5⟩ := hc k a hk
  obtain ⟨kA, kc, rfl⟩ := h5.len
  exact ⟨b, o, kA, kc, rfl, h5, h4 0 (by omega), h4 1 (by omega), h4 2 (by omega), h4 3 (by omega), h4 4 (by omega), h4 5 (by omega), h4 6 (by omega), h4 7 (by omega), h4 8 (by omega), h4 9 (by omega)⟩

/-- Acts whose numbers are of their kinds, and whose lines are short. -/
def AcsOk (l : List Ac) : Prop := ∀ a ∈ l, AcOk a ∧ (lineL a 1).length ≤ 900000

set_option maxHeartbeats 1000000 in
set_option maxRecDepth 100000 in
theorem mayFn_any {w : World} (a : Ac) (va : Value) (hva : RowR w va a.keep.length 1 (a.keep.map (Value.int .i64))) (O : AcOk a) (hlen : (lineL a 1).length ≤ 900000) (E : Env w) :
    Calls Tryz.prog 66 #[.agg (acC a va)] w (fun e w' => e = .returned (.bool (!may a)) ∧ Below w.heap.size w w') := by
  have HO := Lib.hid (And.intro O (And.intro hva (And.intro hlen E)))
  obtain ⟨A, c, rfl⟩ := hva.len
  clear O hva hlen E
  obtain ⟨m, hm⟩ : ∃ m, m = may a := ⟨_, rfl⟩
  rw [← hm]
  have HM := Lib.hid hm; clear hm
  obtain ⟨kind, client, ⟨op, key, hi, lim, val⟩, at_, an, keep⟩ := a
  obtain ⟨W, hW⟩ : ∃ W, W = w.alloc (.cells (acC ⟨kind, client, ⟨op, key, hi, lim, val⟩, at_, an, keep⟩ (.slice A keep.length c)) 40) := ⟨_, rfl⟩
  have HB := Lib.hid (And.intro (show Blk W w.heap.size 40 (acC ⟨kind, client, ⟨op, key, hi, lim, val⟩, at_, an, keep⟩ (.slice A keep.length c)) by rw [hW]; exact Blk.new _ _ _) (show Below w.heap.size w W by rw [hW]; exact (Below.refl _ _).alloc (Nat.le_refl _) _))
  obtain ⟨d0, d1, d2, d3, d4, d5, d6, d7, d8, d9⟩ := acCells HB.out.1
  dsimp only at d0 d1 d2 d3 d4 d5 d6 d7 d8 d9
  go_enter Tryz.func66, Tryz.ntmps66
  go_upto_region 1 with fail
  rw [← hW]
  clear hW
  go_wp2_with fail
  refine (may_any ⟨kind, client, ⟨op, key, hi, lim, val⟩, at_, an, keep⟩ (.slice A keep.length c) (HO.out.2.1.next HB.out.2) HO.out.1 HO.out.2.2.1 (HO.out.2.2.2.next HB.out.2)).mono ?_; rintro e w1 ⟨he, hb1⟩
  rw [← HM.out] at he
  obtain rfl := he
  go_wp2_with fail
  go_ret
  exact ⟨rfl, HB.out.2.trans (hb1.mono HB.out.2.size)⟩

/-- The first act that may not be, or -1. -/
def badIdx : List Ac → Nat → Int
  | [], _ => -1
  | a :: r, i => if may a = false then (i : Int) else badIdx r (i + 1)
theorem badIdx_skip : ∀ (l : List Ac) (k i : Nat), (∀ a ∈ l.take k, may a = true) → k ≤ l.length → badIdx l i = badIdx (l.drop k) (i + k)
  | l, 0, i, _, _ => by simp
  | [], k + 1, i, _, h => by simp at h
  | a :: r, k + 1, i, h, hk => by
    rw [badIdx, if_neg (by rw [h a (by simp)]; decide), List.drop_succ_cons, badIdx_skip r k (i + 1) (fun x hx => h x (by simp [hx])) (by simp at hk; omega)]
    congr 1; omega
theorem badIdx_at {l : List Ac} {k : Nat} {a : Ac} (h : ∀ a ∈ l.take k, may a = true) (hk : l[k]? = some a) (ha : may a = false) : badIdx l 0 = k := by
  have hl : k < l.length := (List.getElem?_eq_some_iff.1 hk).1
  rw [badIdx_skip l k 0 h (by omega)]
  have : l.drop k = a :: l.drop (k + 1) := by
    rw [List.drop_eq_getElem_cons hl]
    congr 1
    exact (List.getElem?_eq_some_iff.1 hk).2
  rw [this, badIdx, if_pos ha]; simp
theorem badIdx_ge : ∀ (l : List Ac) (i : Nat), decide (0 ≤ badIdx l i) = l.any (fun a => !may a)
  | [], i => rfl
  | a :: r, i => by
    rw [badIdx, List.any_cons]
    cases h : may a with
    | false => rw [if_pos rfl]; simp
    | true => rw [if_neg (by decide), badIdx_ge r (i + 1)]; simp

set_option maxHeartbeats 4000000 in
set_option maxRecDepth 100000 in
theorem indexFn_any {w : World} (l : List Ac) (v : Value) (h : ActsR w v l) (O : AcsOk l) (hN : l.length ≤ 1000000) (E : Env w) :
    Calls Tryz.prog 108 #[v, .func (.func 66) #[] #[]] w (fun e w' => e = .returned (.int .i64 (badIdx l 0)) ∧ Below w.heap.size w w') := by
  obtain ⟨A, c, rfl⟩ := h.len
  have HO := Lib.hid (And.intro h (And.intro O (And.intro E hN)))
  clear h O E
  obtain ⟨m, hm⟩ : ∃ m, m = l.length := ⟨_, rfl⟩
  rw [← hm]
  have hmN : m ≤ 1000000 := by omega
  have HM := Lib.hid hm; clear hm hN
  go_enter Tryz.func108, Tryz.ntmps108
  go_upto_region 2 with fail
  go_loopw [8] (fun s8 wr => ∃ k : Nat, k ≤ m ∧ s8 = .int .i64 k ∧ (∀ a ∈ l.take k, may a = true) ∧ Below w.heap.size w wr) (fun s8 _ => m - (RowKit.intOf s8).toNat)
  case atStart => exact ⟨0, Nat.zero_le _, rfl, by simp, Below.refl _ _⟩
  case round =>
    obtain ⟨k, hk, rfl, hgood, hbel⟩ := hrel
    have HR := Lib.hid (And.intro hgood hbel); clear hgood hbel
    by_cases hlt : k < m
    · obtain ⟨a, ha⟩ : ∃ a, l[k]? = some a := ⟨_, List.getElem?_eq_getElem (by have := HM.out; omega)⟩
      obtain ⟨b, o, kA, kc, rfl, hrow, c0, c1, c2, c3, c4, c5, c6, c7, c8, c9⟩ := (HO.out.1.next HR.out.2).at_ ha
      have HA := Lib.hid (And.intro ha hrow); clear ha hrow
      obtain ⟨kind, client, ⟨op, key, hi, lim, val⟩, at_, an, keep⟩ := a
      dsimp only at c0 c1 c2 c3 c4 c5 c6 c7 c8 c9
      go_wp2_with fail
      obtain ⟨q, hq⟩ : ∃ q, q = may ⟨kind, client, ⟨op, key, hi, lim, val⟩, at_, an, keep⟩ := ⟨_, rfl⟩
      have hmem := List.mem_of_getElem? HA.out.1
      refine (mayFn_any ⟨kind, client, ⟨op, key, hi, lim, val⟩, at_, an, keep⟩ (.slice kA keep.length kc) HA.out.2 (HO.out.2.1 _ hmem).1 (HO.out.2.1 _ hmem).2 (HO.out.2.2.1.next HR.out.2)).mono ?_; rintro e w1 ⟨he, hb1⟩
      rw [← hq] at he
      obtain rfl := he
      have HQ := Lib.hid hq; clear hq
      have HB1 := Lib.hid (HR.out.2.trans (hb1.mono HR.out.2.size)); clear hb1 c0 c1 c2 c3 c4 c5 c6 c7 c8 c9 hmem
      cases q with
      | false =>
        go_wp2_with fail
        go_ret
        refine ⟨?_, HB1.out⟩
        rw [badIdx_at HR.out.1 HA.out.1 HQ.out.symm]; rfl
      | true =>
        go_wp2_with fail
        go_roundw
        case rel =>
          refine ⟨k + 1, by omega, by go_num, ?_, HB1.out⟩
          rw [List.take_add_one, HA.out.1]
          intro x hx
          rcases List.mem_append.1 hx with hx | hx
          · exact HR.out.1 x hx
          · simp only [Option.toList_some, List.mem_singleton] at hx
            subst hx; exact HQ.out.symm
        case measure => simp [RowKit.intOf]; omega
    · obtain rfl : k = m := by omega
      go_wp2_with fail
      go_ret
      refine ⟨?_, HR.out.2⟩
      have h := badIdx_skip l k 0 HR.out.1 (by have := HM.out; omega)
      rw [HM.out, List.drop_length] at h
      rw [h]; rfl

set_option maxRecDepth 100000 in
theorem containsFn_any {w : World} (l : List Ac) (v : Value) (h : ActsR w v l) (O : AcsOk l) (hN : l.length ≤ 1000000) (E : Env w) :
    Calls Tryz.prog 68 #[v, .func (.func 66) #[] #[]] w (fun e w' => e = .returned (.bool (l.any fun a => !may a)) ∧ Below w.heap.size w w') := by
  have HI := Lib.hid (indexFn_any l v h O hN E)
  have HG := Lib.hid (badIdx_ge l 0)
  obtain ⟨A, c, rfl⟩ := h.len
  clear h
  obtain ⟨q, hq⟩ : ∃ q, q = badIdx l 0 := ⟨_, rfl⟩
  rw [← hq] at HI HG
  clear hq
  by_cases h0 : 0 ≤ q
  · have H0 := Lib.hid (decide_eq_true h0); clear h0
    rw [H0.out] at HG
    rw [← HG.out]
    go_enter Tryz.func68, Tryz.ntmps68
    go_wp2_with fail
    refine HI.out.mono ?_; rintro e w1 ⟨rfl, hb1⟩
    go_wp2_with fail
    go_ret
    exact ⟨by show Ending.returned (.bool (decide (0 ≤ q))) = _; rw [H0.out], hb1⟩
  · have H0 := Lib.hid (decide_eq_false h0); clear h0
    rw [H0.out] at HG
    rw [← HG.out]
    go_enter Tryz.func68, Tryz.ntmps68
    go_wp2_with fail
    refine HI.out.mono ?_; rintro e w1 ⟨rfl, hb1⟩
    go_wp2_with fail
    go_ret
    exact ⟨by show Ending.returned (.bool (decide (0 ≤ q))) = _; rw [H0.out], hb1⟩

/-! ### A script -/
structure Sc where
  slabs : Int
  clients : Int
  acts : List Ac
deriving DecidableEq
def mayS (s : Sc) : Bool := decide (1 ≤ s.slabs) && decide (s.slabs ≤ 64) && decide (1 ≤ s.clients) && decide (s.clients ≤ 64) && decide ((s.acts.length : Int) ≤ 100000) && !(s.acts.any fun a => !may a)
def scC (s : Sc) (v : Value) : Array Value := #[.int .i64 s.slabs, .int .i64 s.clients, v]

set_option maxHeartbeats 4000000 in
set_option maxRecDepth 100000 in
theorem mayS_any {w : World} (s : Sc) (v : Value) (h : ActsR w v s.acts) (O : AcsOk s.acts) (hN : s.acts.length ≤ 1000000) (E : Env w) :
    Calls Tryz.prog 39 #[.agg (scC s v)] w (fun e w' => e = .returned (.bool (mayS s)) ∧ Below w.heap.size w w') := by
  have HO := Lib.hid (And.intro h (And.intro O (And.intro E hN)))
  obtain ⟨A, c, rfl⟩ := h.len
  clear h O E
  obtain ⟨slabs, clients, acts⟩ := s
  dsimp only at HO hN
  obtain ⟨q, hq⟩ : ∃ q, q = acts.any fun a => !may a := ⟨_, rfl⟩
  have HQ := Lib.hid hq
  have HG := Lib.hid (show mayS ⟨slabs, clients, acts⟩ = (decide (1 ≤ slabs) && decide (slabs ≤ 64) && decide (1 ≤ clients) && decide (clients ≤ 64) && decide ((acts.length : Int) ≤ 100000) && !q) by rw [hq]; rfl)
  clear hq
  obtain ⟨m, hm⟩ : ∃ m, m = acts.length := ⟨_, rfl⟩
  have HM := Lib.hid hm
  rw [← hm] at HG
  obtain ⟨W, hW⟩ : ∃ W, W = w.alloc (.cells #[.int .i64 slabs, .int .i64 clients, .slice A m c] 25) := ⟨_, rfl⟩
  have HB := Lib.hid (And.intro (show Blk W w.heap.size 25 #[.int .i64 slabs, .int .i64 clients, .slice A m c] by rw [hW]; exact Blk.new _ _ _) (show Below w.heap.size w W by rw [hW]; exact (Below.refl _ _).alloc (Nat.le_refl _) _))
  have d0 : W.cell? ⟨w.heap.size, 0, none⟩ = some (.int .i64 slabs) := HB.out.1.cell 0
  have d1 : W.cell? ⟨w.heap.size, 1, none⟩ = some (.int .i64 clients) := HB.out.1.cell 1
  have d2 : W.cell? ⟨w.heap.size, 2, none⟩ = some (.slice A m c) := HB.out.1.cell 2
  unfold scC
  dsimp only
  rw [← hm]
  clear hm hN
  by_cases h1 : 1 ≤ slabs
  · by_cases h2 : slabs ≤ 64
    · by_cases h3 : 1 ≤ clients
      · by_cases h4 : clients ≤ 64
        · by_cases h5 : (m : Int) ≤ 100000
          · have HC := Lib.hid (containsFn_any acts (.slice A m c) (by rw [HM.out]; exact HO.out.1.next HB.out.2) HO.out.2.1 HO.out.2.2.2 (HO.out.2.2.1.next HB.out.2))
            rw [← HQ.out] at HC
            rw [decide_eq_true h1, decide_eq_true h2, decide_eq_true h3, decide_eq_true h4, decide_eq_true h5] at HG
            go_enter Tryz.func39, Tryz.ntmps39
            go_upto_region 1 with fail
            rw [← hW]
            clear hW
            go_wp2_with fail
            refine HC.out.mono ?_; rintro e w1 ⟨rfl, hb1⟩
            go_wp2_with fail
            go_ret
            exact ⟨by rw [HG.out]; rfl, HB.out.2.trans (hb1.mono HB.out.2.size)⟩
          · rw [decide_eq_false h5] at HG
            rw [Bool.and_false, Bool.false_and] at HG
            go_enter Tryz.func39, Tryz.ntmps39
            go_upto_region 1 with fail
            rw [← hW]
            clear hW
            go_wp2_with fail
            go_ret
            exact ⟨by rw [HG.out]; rfl, HB.out.2⟩
        · rw [decide_eq_false h4] at HG
          rw [Bool.and_false, Bool.false_and, Bool.false_and] at HG
          go_enter Tryz.func39, Tryz.ntmps39
          go_upto_region 1 with fail
          rw [← hW]
          clear hW
          go_wp2_with fail
          go_ret
          exact ⟨by rw [HG.out]; rfl, HB.out.2⟩
      · rw [decide_eq_false h3] at HG
        rw [Bool.and_false, Bool.false_and, Bool.false_and, Bool.false_and] at HG
        go_enter Tryz.func39, Tryz.ntmps39
        go_upto_region 1 with fail
        rw [← hW]
        clear hW
        go_wp2_with fail
        go_ret
        exact ⟨by rw [HG.out]; rfl, HB.out.2⟩
    · rw [decide_eq_false h2] at HG
      rw [Bool.and_false, Bool.false_and, Bool.false_and, Bool.false_and, Bool.false_and] at HG
      go_enter Tryz.func39, Tryz.ntmps39
      go_upto_region 1 with fail
      rw [← hW]
      clear hW
      go_wp2_with fail
      go_ret
      exact ⟨by rw [HG.out]; rfl, HB.out.2⟩
  · rw [decide_eq_false h1] at HG
    rw [Bool.false_and, Bool.false_and, Bool.false_and, Bool.false_and, Bool.false_and] at HG
    go_enter Tryz.func39, Tryz.ntmps39
    go_upto_region 1 with fail
    rw [← hW]
    clear hW
    go_wp2_with fail
    go_ret
    exact ⟨by rw [HG.out]; rfl, HB.out.2⟩

end Go.Proofs.YtnnahodajiolmaaGreatDoor.sc
