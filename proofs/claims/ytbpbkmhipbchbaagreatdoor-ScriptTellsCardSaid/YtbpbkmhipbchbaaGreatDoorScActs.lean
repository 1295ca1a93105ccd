/-
  PROVED HERE: slices of acts (ActsR), and the contracts of May's closure, slices.IndexFunc, slices.ContainsFunc at acts, and of script's May. Conditions: numbers of their kinds; short lines; the library's tables lie (Env).
-/
import Derived.Test.YtbpbkmhipbchbaaGreatDoorScLineF
namespace Go.Proofs.YtbpbkmhipbchbaaGreatDoor.sc
open Go.RowKit
set_option linter.unusedVariables false

/-! ### A slice of acts -/
def ActsR (w : World) (v : Value) (l : List Ac) : Prop :=
  ∃ A c, v = .slice A l.length c ∧ l.length ≤ c ∧ (0 < l.length → ∃ b o, A = some ⟨b, o, none⟩ ∧ b < w.heap.size ∧ ∀ i a, l[i]? = some a → ∃ kv, (∀ j, j < 10 → w.cell? ⟨b, o + i * 10 + j, none⟩ = (acC a kv)[j]?) ∧ RowR w kv a.keep.length 1 (a.keep.map (Value.int .i64)))
theorem ActsR.below {w w' : World} {v : Value} {l : List Ac} {B : Nat} (h : ActsR w v l) (hb : Below B w w') (hB : w.heap.size ≤ B) : ActsR w' v l := by
  obtain ⟨A, c, h1, h2, h3⟩ := h
  refine ⟨A, c, h1, h2, fun hn => ?_⟩
  obtain ⟨b, o, e, hlt, hc⟩ := h3 hn
  refine ⟨b, o, e, Nat.lt_of_lt_of_le hlt (by have := hb.size; omega), fun i a hi => ?_⟩
  obtain ⟨kv, h4, h5⟩ := hc i a hi
  exact ⟨kv, fun j hj => by rw [hb.cell (p := ⟨b, o + i * 10 + j, none⟩) (show b < B by omega)]; exact h4 j hj, h5.below hb hB⟩
theorem ActsR.next {w w' : World} {v : Value} {l : List Ac} (h : ActsR w v l) (hb : Below w.heap.size w w') : ActsR w' v l := h.below hb (Nat.le_refl _)
theorem ActsR.len {w : World} {v : Value} {l : List Ac} (h : ActsR w v l) : ∃ A c, v = .slice A l.length c := by
  obtain ⟨A, c, e, _⟩ := h; exact ⟨A, c, e⟩
theorem ActsR.cap {w : World} {A : Option Addr} {n c : Nat} {l : List Ac} (h : ActsR w (.slice A n c) l) : n = l.length ∧ l.length ≤ c := by
  obtain ⟨A', c', e, h2, _⟩ := h; cases e; exact ⟨rfl, h2⟩
theorem ActsR.nil (w : World) : ActsR w (.slice none 0 0) [] := ⟨none, 0, rfl, Nat.le_refl _, fun h => by simp at h⟩
theorem ActsR.at_ {w : World} {A : Option Addr} {n c k : Nat} {l : List Ac} {a : Ac} (h : ActsR w (.slice A n c) l) (hk : l[k]? = some a) :
    ∃ b o kA kc, A = some ⟨b, o, none⟩ ∧ RowR w (.slice kA a.keep.length kc) a.keep.length 1 (a.keep.map (Value.int .i64))
      ∧ w.cell? ⟨b, o + k * 10, none⟩ = some (.int .i64 a.kind) ∧ w.cell? ⟨b, o + k * 10 + 1, none⟩ = some (.int .i64 a.client) ∧ w.cell? ⟨b, o + k * 10 + 2, none⟩ = some (.int .i64 a.call.op) ∧ w.cell? ⟨b, o + k * 10 + 3, none⟩ = some (.int .u64 a.call.key)
      ∧ w.cell? ⟨b, o + k * 10 + 4, none⟩ = some (.int .u64 a.call.hi) ∧ w.cell? ⟨b, o + k * 10 + 5, none⟩ = some (.int .i64 a.call.lim) ∧ w.cell? ⟨b, o + k * 10 + 6, none⟩ = some (.string (mk a.call.val)) ∧ w.cell? ⟨b, o + k * 10 + 7, none⟩ = some (.int .u64 a.at_)
      ∧ w.cell? ⟨b, o + k * 10 + 8, none⟩ = some (.int .i64 a.n) ∧ w.cell? ⟨b, o + k * 10 + 9, none⟩ = some (.slice kA a.keep.length kc) := by
  obtain ⟨A', c', e, _, h3⟩ := h
  cases e
  have hl : k < l.length := (List.getElem?_eq_some_iff.1 hk).1
  obtain ⟨b, o, rfl, _, hc⟩ := h3 (by omega)
  obtain ⟨kv, h4, h5⟩ := hc k a hk
  obtain ⟨kA, kc, rfl⟩ := h5.len
  exact ⟨b, o, kA, kc, rfl, h5, h4 0 (by omega), h4 1 (by omega), h4 2 (by omega), h4 3 (by omega), h4 4 (by omega), h4 5 (by omega), h4 6 (by omega), h4 7 (by omega), h4 8 (by omega), h4 9 (by omega)⟩

/-- Acts whose numbers are of their kinds, and whose lines are short. -/
def AcsOk (l : List Ac) : Prop := ∀ a ∈ l, AcOk a ∧ (lineL a 1).length ≤ 900000

set_option maxHeartbeats 1000000 in
set_option maxRecDepth 100000 in
theorem mayFn_any {w : World} (a : Ac) (va : Value) (hva : RowR w va a.keep.length 1 (a.keep.map (Value.int .i64))) (O : AcOk a) (hlen : (lineL a 1).length ≤ 900000) (E : Env w) :
    Calls Tryz.prog 56 #[.agg (acC a va)] w (fun e w' => e = .returned (.bool (!may a)) ∧ Below w.heap.size w w') := by
  have HO := Lib.hid (And.intro O (And.intro hva (And.intro hlen E)))
  obtain ⟨A, c, rfl⟩ := hva.len
  clear O hva hlen E
  obtain ⟨m, hm⟩ : ∃ m, m = may a := ⟨_, rfl⟩
  rw [← hm]
  have HM := Lib.hid hm; clear hm
  obtain ⟨kind, client, ⟨op, key, hi, lim, val⟩, at_, an, keep⟩ := a
  obtain ⟨W, hW⟩ : ∃ W, W = w.alloc (.cells (acC ⟨kind, client, ⟨op, key, hi, lim, val⟩, at_, an, keep⟩ (.slice A keep.length c)) 31) := ⟨_, rfl⟩
  have HB := Lib.hid (And.intro (show Blk W w.heap.size 31 (acC ⟨kind, client, ⟨op, key, hi, lim, val⟩, at_, an, keep⟩ (.slice A keep.length c)) by rw [hW]; exact Blk.new _ _ _) (show Below w.heap.size w W by rw [hW]; exact (Below.refl _ _).alloc (Nat.le_refl _) _))
  obtain ⟨d0, d1, d2, d3, d4, d5, d6, d7, d8, d9⟩ := acCells HB.out.1
  dsimp only at d0 d1 d2 d3 d4 d5 d6 d7 d8 d9
  go_enter Tryz.func56, Tryz.ntmps56
  go_upto_region 1 with fail
  rw [← hW]
  clear hW
  go_wp2_with fail
  refine (may_any ⟨kind, client, ⟨op, key, hi, lim, val⟩, at_, an, keep⟩ (.slice A keep.length c) (HO.out.2.1.next HB.out.2) HO.out.1 HO.out.2.2.1 (HO.out.2.2.2.next HB.out.2)).mono ?_; rintro e w1 ⟨he, hb1⟩
  rw [← HM.out] at he
  obtain rfl := he
  go_wp2_with fail
  go_ret
  exact ⟨rfl, HB.out.2.trans (hb1.mono HB.out.2.size)⟩

/-- The first act that may not be, or -1. -/
def badIdx : List Ac → Nat → Int
  | [], _ => -1
  | a :: r, i => if may a = false then (i : Int) else badIdx r (i + 1)
theorem badIdx_skip : ∀ (l : List Ac) (k i : Nat), (∀ a ∈ l.take k, may a = true) → k ≤ l.length → badIdx l i = badIdx (l.drop k) (i + k)
  | l, 0, i, _, _ => by simp
  | [], k + 1, i, _, h => by simp at h
  | a :: r, k + 1, i, h, hk => by
    rw [badIdx, if_neg (by rw [h a (by simp)]; decide), List.drop_succ_cons, badIdx_skip r k (i + 1) (fun x hx => h x (by simp [hx])) (by simp at hk; omega)]
    congr 1; omega
theorem badIdx_at {l : List Ac} {k : Nat} {a : Ac} (h : ∀ a ∈ l.take k, may a = true) (hk : l[k]? = some a) (ha : may a = false) : badIdx l 0 = k := by
  have hl : k < l.length := (List.getElem?_eq_some_iff.1 hk).1
  rw [badIdx_skip l k 0 h (by omega)]
  have : l.drop k = a :: l.drop (k + 1) := by
    rw [List.drop_eq_getElem_cons hl]
    congr 1
    exact (List.getElem?_eq_some_iff.1 hk).2
  rw [this, badIdx, if_pos ha]; simp
theorem badIdx_ge : ∀ (l : List Ac) (i : Nat), decide (0 ≤ badIdx l i) = l.any (fun a => !may a)
  | [], i => rfl
  | a :: r, i => by
    rw [badIdx, List.any_cons]
    cases h : may a with
    | false => rw [if_pos rfl]; simp
    | true => rw [if_neg (by decide), badIdx_ge r (i + 1)]; simp

set_option maxHeartbeats 4000000 in
set_option maxRecDepth 100000 in
theorem indexFn_any {w : World} (l : List Ac) (v : Value) (h : ActsR w v l) (O : AcsOk l) (hN : l.length ≤ 1000000) (E : Env w) :
    Calls Tryz.prog 77 #[v, .func (.func 56) #[] #[]] w (fun e w' => e = .returned (.int .i64 (badIdx l 0)) ∧ Below w.heap.size w w') := by
  obtain ⟨A, c, rfl⟩ := h.len
  have HO := Lib.hid (And.intro h (And.intro O (And.intro E hN)))
  clear h O E
  obtain ⟨m, hm⟩ : ∃ m, m = l.length := ⟨_, rfl⟩
  rw [← hm]
  have hmN : m ≤ 1000000 := by omega
  have HM := Lib.hid hm; clear hm hN
  go_enter Tryz.func77, Tryz.ntmps77
  go_upto_region 2 with fail
  go_loopw [8] (fun s8 wr => ∃ k : Nat, k ≤ m ∧ s8 = .int .i64 k ∧ (∀ a ∈ l.take k, may a = true) ∧ Below w.heap.size w wr) (fun s8 _ => m - (RowKit.intOf s8).toNat)
  case atStart => exact ⟨0, Nat.zero_le _, rfl, by simp, Below.refl _ _⟩
  case round =>
    obtain ⟨k, hk, rfl, hgood, hbel⟩ := hrel
    have HR := Lib.hid (And.intro hgood hbel); clear hgood hbel
    by_cases hlt : k < m
    · obtain ⟨a, ha⟩ : ∃ a, l[k]? = some a := ⟨_, List.getElem?_eq_getElem (by have := HM.out; omega)⟩
      obtain ⟨b, o, kA, kc, rfl, hrow, c0, c1, c2, c3, c4, c5, c6, c7, c8, c9⟩ := (HO.out.1.next HR.out.2).at_ ha
      have HA := Lib.hid (And.intro ha hrow); clear ha hrow
      obtain ⟨kind, client, ⟨op, key, hi, lim, val⟩, at_, an, keep⟩ := a
      dsimp only at c0 c1 c2 c3 c4 c5 c6 c7 c8 c9
      go_wp2_with fail
      obtain ⟨q, hq⟩ : ∃ q, q = may ⟨kind, client, ⟨op, key, hi, lim, val⟩, at_, an, keep⟩ := ⟨_, rfl⟩
      have hmem := List.mem_of_getElem? HA.out.1
      refine (mayFn_any ⟨kind, client, ⟨op, key, hi, lim, val⟩, at_, an, keep⟩ (.slice kA keep.length kc) HA.out.2 (HO.out.2.1 _ hmem).1 (HO.out.2.1 _ hmem).2 (HO.out.2.2.1.next HR.out.2)).mono ?_; rintro e w1 ⟨he, hb1⟩
      rw [← hq] at he
      obtain rfl := he
      have HQ := Lib.hid hq; clear hq
      have HB1 := Lib.hid (HR.out.2.trans (hb1.mono HR.out.2.size)); clear hb1 c0 c1 c2 c3 c4 c5 c6 c7 c8 c9 hmem
      cases q with
      | false =>
        go_wp2_with fail
        go_ret
        refine ⟨?_, HB1.out⟩
        rw [badIdx_at HR.out.1 HA.out.1 HQ.out.symm]; rfl
      | true =>
        go_wp2_with fail
        go_roundw
        case rel =>
          refine ⟨k + 1, by omega, by go_num, ?_, HB1.out⟩
          rw [List.take_add_one, HA.out.1]
          intro x hx
          rcases List.mem_append.1 hx with hx | hx
          · exact HR.out.1 x hx
          · simp only [Option.toList_some, List.mem_singleton] at hx
            subst hx; exact HQ.out.symm
        case measure => simp [RowKit.intOf]; omega
    · obtain rfl : k = m := by omega
      go_wp2_with fail
      go_ret
      refine ⟨?_, HR.out.2⟩
      have h := badIdx_skip l k 0 HR.out.1 (by have := HM.out; omega)
      rw [HM.out, List.drop_length] at h
      rw [h]; rfl

set_option maxRecDepth 100000 in
theorem containsFn_any {w : World} (l : List Ac) (v : Value) (h : ActsR w v l) (O : AcsOk l) (hN : l.length ≤ 1000000) (E : Env w) :
    Calls Tryz.prog 57 #[v, .func (.func 56) #[] #[]] w (fun e w' => e = .returned (.bool (l.any fun a => !may a)) ∧ Below w.heap.size w w') := by
  have HI := Lib.hid (indexFn_any l v h O hN E)
  have HG := Lib.hid (badIdx_ge l 0)
  obtain ⟨A, c, rfl⟩ := h.len
  clear h
  obtain ⟨q, hq⟩ : ∃ q, q = badIdx l 0 := ⟨_, rfl⟩
  rw [← hq] at HI HG
  clear hq
  by_cases h0 : 0 ≤ q
  · have H0 := Lib.hid (decide_eq_true h0); clear h0
    rw [H0.out] at HG
    rw [← HG.out]
    go_enter Tryz.func57, Tryz.ntmps57
    go_wp2_with fail
    refine HI.out.mono ?_; rintro e w1 ⟨rfl, hb1⟩
    go_wp2_with fail
    go_ret
    exact ⟨by show Ending.returned (.bool (decide (0 ≤ q))) = _; rw [H0.out], hb1⟩
  · have H0 := Lib.hid (decide_eq_false h0); clear h0
    rw [H0.out] at HG
    rw [← HG.out]
    go_enter Tryz.func57, Tryz.ntmps57
    go_wp2_with fail
    refine HI.out.mono ?_; rintro e w1 ⟨rfl, hb1⟩
    go_wp2_with fail
    go_ret
    exact ⟨by show Ending.returned (.bool (decide (0 ≤ q))) = _; rw [H0.out], hb1⟩

/-! ### A script -/
structure Sc where
  slabs : Int
  clients : Int
  acts : List Ac
deriving DecidableEq
def mayS (s : Sc) : Bool := decide (1 ≤ s.slabs) && decide (s.slabs ≤ 64) && decide (1 ≤ s.clients) && decide (s.clients ≤ 64) && decide ((s.acts.length : Int) ≤ 100000) && !(s.acts.any fun a => !may a)
def scC (s : Sc) (v : Value) : Array Value := #[.int .i64 s.slabs, .int .i64 s.clients, v]

set_option maxHeartbeats 4000000 in
set_option maxRecDepth 100000 in
theorem mayS_any {w : World} (s : Sc) (v : Value) (h : ActsR w v s.acts) (O : AcsOk s.acts) (hN : s.acts.length ≤ 1000000) (E : Env w) :
    Calls Tryz.prog 22 #[.agg (scC s v)] w (fun e w' => e = .returned (.bool (mayS s)) ∧ Below w.heap.size w w') := by
  have HO := Lib.hid (And.intro h (And.intro O (And.intro E hN)))
  obtain ⟨A, c, rfl⟩ := h.len
  clear h O E
  obtain ⟨slabs, clients, acts⟩ := s
  dsimp only at HO hN
  obtain ⟨q, hq⟩ : ∃ q, q = acts.any fun a => !may a := ⟨_, rfl⟩
  have HQ := Lib.hid hq
  have HG := Lib.hid (show mayS ⟨slabs, clients, acts⟩ = (decide (1 ≤ slabs) && decide (slabs ≤ 64) && decide (1 ≤ clients) && decide (clients ≤ 64) && decide ((acts.length : Int) ≤ 100000) && !q) by rw [hq]; rfl)
  clear hq
  obtain ⟨m, hm⟩ : ∃ m, m = acts.length := ⟨_, rfl⟩
  have HM := Lib.hid hm
  rw [← hm] at HG
  obtain ⟨W, hW⟩ : ∃ W, W = w.alloc (.cells #[.int .i64 slabs, .int .i64 clients, .slice A m c] 58) := ⟨_, rfl⟩
  have HB := Lib.hid (And.intro (show Blk W w.heap.size 58 #[.int .i64 slabs, .int .i64 clients, .slice A m c] by rw [hW]; exact Blk.new _ _ _) (show Below w.heap.size w W by rw [hW]; exact (Below.refl _ _).alloc (Nat.le_refl _) _))
  have d0 : W.cell? ⟨w.heap.size, 0, none⟩ = some (.int .i64 slabs) := HB.out.1.cell 0
  have d1 : W.cell? ⟨w.heap.size, 1, none⟩ = some (.int .i64 clients) := HB.out.1.cell 1
  have d2 : W.cell? ⟨w.heap.size, 2, none⟩ = some (.slice A m c) := HB.out.1.cell 2
  unfold scC
  dsimp only
  rw [← hm]
  clear hm hN
  by_cases h1 : 1 ≤ slabs
  · by_cases h2 : slabs ≤ 64
    · by_cases h3 : 1 ≤ clients
      · by_cases h4 : clients ≤ 64
        · by_cases h5 : (m : Int) ≤ 100000
          · have HC := Lib.hid (containsFn_any acts (.slice A m c) (by rw [HM.out]; exact HO.out.1.next HB.out.2) HO.out.2.1 HO.out.2.2.2 (HO.out.2.2.1.next HB.out.2))
            rw [← HQ.out] at HC
            rw [decide_eq_true h1, decide_eq_true h2, decide_eq_true h3, decide_eq_true h4, decide_eq_true h5] at HG
            go_enter Tryz.func22, Tryz.ntmps22
            go_upto_region 1 with fail
            rw [← hW]
            clear hW
            go_wp2_with fail
            refine HC.out.mono ?_; rintro e w1 ⟨rfl, hb1⟩
            go_wp2_with fail
            go_ret
            exact ⟨by rw [HG.out]; rfl, HB.out.2.trans (hb1.mono HB.out.2.size)⟩
          · rw [decide_eq_false h5] at HG
            rw [Bool.and_false, Bool.false_and] at HG
            go_enter Tryz.func22, Tryz.ntmps22
            go_upto_region 1 with fail
            rw [← hW]
            clear hW
            go_wp2_with fail
            go_ret
            exact ⟨by rw [HG.out]; rfl, HB.out.2⟩
        · rw [decide_eq_false h4] at HG
          rw [Bool.and_false, Bool.false_and, Bool.false_and] at HG
          go_enter Tryz.func22, Tryz.ntmps22
          go_upto_region 1 with fail
          rw [← hW]
          clear hW
          go_wp2_with fail
          go_ret
          exact ⟨by rw [HG.out]; rfl, HB.out.2⟩
      · rw [decide_eq_false h3] at HG
        rw [Bool.and_false, Bool.false_and, Bool.false_and, Bool.false_and] at HG
        go_enter Tryz.func22, Tryz.ntmps22
        go_upto_region 1 with fail
        rw [← hW]
        clear hW
        go_wp2_with fail
        go_ret
        exact ⟨by rw [HG.out]; rfl, HB.out.2⟩
    · rw [decide_eq_false h2] at HG
      rw [Bool.and_false, Bool.false_and, Bool.false_and, Bool.false_and, Bool.false_and] at HG
      go_enter Tryz.func22, Tryz.ntmps22
      go_upto_region 1 with fail
      rw [← hW]
      clear hW
      go_wp2_with fail
      go_ret
      exact ⟨by rw [HG.out]; rfl, HB.out.2⟩
  · rw [decide_eq_false h1] at HG
    rw [Bool.false_and, Bool.false_and, Bool.false_and, Bool.false_and, Bool.false_and] at HG
    go_enter Tryz.func22, Tryz.ntmps22
    go_upto_region 1 with fail
    rw [← hW]
    clear hW
    go_wp2_with fail
    go_ret
    exact ⟨by rw [HG.out]; rfl, HB.out.2⟩

end Go.Proofs.YtbpbkmhipbchbaaGreatDoor.sc
