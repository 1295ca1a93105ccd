/-
  PROVED HERE: the contract of script's rows (its closure, as an iterator): the acts, like ones in a row together. Conditions: numbers of their kinds; the acts lie below n0.
-/
import Derived.Test.YtbpbkmhipbchbaaGreatDoorScActs
import Derived.Test.YtbpbkmhipbchbaaGreatDoorScRange
import Derived.Deep.RegionLaw
namespace Go.Proofs.YtbpbkmhipbchbaaGreatDoor.sc
open Go.RowKit
set_option linter.unusedVariables false

/-! ### Rows, in plain words -/
def runN (a : Ac) : List Ac → Nat
  | [] => 0
  | b :: r => if a = b then runN a r + 1 else 0
def runLen (a : Ac) (r : List Ac) : Nat := if again a then runN a r else 0
theorem runN_le (a : Ac) : ∀ r : List Ac, runN a r ≤ r.length
  | [] => Nat.le_refl _
  | b :: r => by
    rw [runN]; split
    · have := runN_le a r; simp; omega
    · omega
theorem runLen_le (a : Ac) (r : List Ac) : runLen a r ≤ r.length := by
  unfold runLen; split
  · exact runN_le a r
  · omega
def rowsL : List Ac → List (Ac × Int)
  | [] => []
  | a :: r => (a, ((runLen a r + 1 : Nat) : Int)) :: rowsL (r.drop (runLen a r))
termination_by l => l.length
decreasing_by simp; omega
theorem rowsL_cons (a : Ac) (r : List Ac) : rowsL (a :: r) = (a, ((runLen a r + 1 : Nat) : Int)) :: rowsL (r.drop (runLen a r)) := by rw [rowsL]
theorem rowsL_nil : rowsL [] = [] := by rw [rowsL]
theorem rowsL_length : ∀ (n : Nat) (l : List Ac), l.length ≤ n → (rowsL l).length ≤ l.length
  | _, [], _ => by rw [rowsL_nil]; simp
  | n + 1, a :: r, h => by
    rw [rowsL_cons]
    have := rowsL_length n (r.drop (runLen a r)) (by simp at h ⊢; omega)
    simp at this ⊢; omega
theorem runN_eq {a : Ac} : ∀ (r : List Ac) (k : Nat), (∀ j, j < k → r[j]? = some a) → (∀ b, r[k]? = some b → a ≠ b) → k ≤ r.length → runN a r = k
  | [], k, _, _, h => by simp at h; subst h; rfl
  | b :: r, 0, _, h, _ => by rw [runN, if_neg (h b rfl)]
  | b :: r, k + 1, h, h2, h3 => by
    have hb : b = a := by have := h 0 (by omega); simpa using this
    rw [runN, if_pos hb.symm, runN_eq r k (fun j hj => by have := h (j + 1) (by omega); simpa using this) (fun c hc => h2 c (by simpa using hc)) (by simp at h3; omega)]
theorem runLen_stop {a : Ac} {r : List Ac} {k : Nat} (h : ∀ j, j < k → r[j]? = some a) (hk : k ≤ r.length) (ha : 0 < k → again a = true) (hs : k = r.length ∨ again a = false ∨ ∃ b, r[k]? = some b ∧ a ≠ b) : runLen a r = k := by
  unfold runLen
  cases hg : again a with
  | false =>
    rw [if_neg (by simp)]
    rcases Nat.eq_zero_or_pos k with h0 | h0
    · exact h0.symm
    · rw [ha h0] at hg; cases hg
  | true =>
    rw [if_pos rfl]
    refine runN_eq r k h (fun b hb => ?_) hk
    rcases hs with h1 | h1 | ⟨c, h1, h2⟩
    · rw [List.getElem?_eq_none (by omega)] at hb; cases hb
    · rw [hg] at h1; cases h1
    · rw [h1] at hb; injection hb with hb; rw [← hb]; exact h2

theorem Below.grown0 {w w' : World} (h : Below w.heap.size w w') : w.grownBy w' none := ⟨h.os, h.tape, h.output, h.size, fun k hk _ => h.block k hk⟩
theorem Below.drewK {B : Nat} {w w' : World} (h : Below B w w') (k : Nat) : Below B w (w'.drewN k) := ⟨h.os, h.tape, h.output, h.size, h.block⟩
theorem drop_acts {w : World} {b o c k : Nat} {l : List Ac} (h : ActsR w (.slice (some ⟨b, o, none⟩) l.length c) l) (hk : k ≤ l.length) :
    ActsR w (.slice (if c = k then some ⟨b, o, none⟩ else some ⟨b, o + k * 10, none⟩) (l.length - k) (c - k)) (l.drop k) := by
  obtain ⟨A', c', e, h2, h3⟩ := h
  cases e
  refine ⟨_, _, by rw [List.length_drop], by rw [List.length_drop]; omega, fun hn => ?_⟩
  rw [List.length_drop] at hn
  obtain ⟨b', o', e, hb, hc⟩ := h3 (by omega)
  cases e
  rw [if_neg (by omega)]
  refine ⟨b, o + k * 10, rfl, hb, fun i a hi => ?_⟩
  rw [List.getElem?_drop] at hi
  obtain ⟨kv, h4, h5⟩ := hc (k + i) a hi
  exact ⟨kv, fun j hj => by rw [← h4 j hj]; congr 2; omega, h5⟩

/-- One row that comes: an act, its numbers, how many times. -/
abbrev RowX (w0 : World) (acts : List Ac) := { x : Ac × Value × Int // RowR w0 x.2.1 x.1.keep.length 1 (x.1.keep.map (Value.int .i64)) ∧ x.1 ∈ acts ∧ 1 ≤ x.2.2 ∧ x.2.2 ≤ acts.length }
def rowE {w0 : World} {acts : List Ac} (x : RowX w0 acts) : Ac × Int := (x.1.1, x.1.2.2)
/-- What the body of a round must keep. -/
def KpR (n0 cb : Nat) (W W' : World) : Prop := Below n0 W W' ∧ W'.heap[cb]? = W.heap[cb]?

/-- The iterator's block as it is, and all below as it was. -/
def RowsInv (cb : Nat) (w0 : World) (cs : Array Value) (wx : World) : Prop := Blk wx cb 56 cs ∧ Below w0.heap.size w0 wx
theorem RowsInv.call {cb : Nat} {w0 wp w8 : World} {cs : Array Value} (h : RowsInv cb w0 cs wp) (hb : Below wp.heap.size wp w8) : RowsInv cb w0 cs w8 := ⟨h.1.below hb h.1.lt, h.2.trans (hb.mono h.2.size)⟩
theorem RowsInv.alloc {cb : Nat} {w0 wp : World} {cs : Array Value} (h : RowsInv cb w0 cs wp) (o : Obj) : RowsInv cb w0 cs (wp.alloc o) := ⟨h.1.alloc o, h.2.alloc h.2.size o⟩
/-- How many acts are left. -/
def leftR (cb : Nat) (w : World) : Nat := match w.cell? ⟨cb, 0, none⟩ with
  | some (.slice _ n _) => n
  | _ => 0

set_option maxHeartbeats 4000000 in
set_option maxRecDepth 100000 in
theorem rowsFn_seq {w0 w : World} (acts : List Ac) (v : Value) (cb n : Nat) (hv : ActsR w0 v acts) (hN : acts.length ≤ 1000000) (hK : ∀ a ∈ acts, a.keep.length ≤ 1000000) (hcb : Blk w cb 56 #[v]) (hb0 : Below w0.heap.size w0 w) (hlt : w0.heap.size ≤ cb) :
    SeqC Fence.wide n Tryz.prog 76 #[.pointer (some ⟨cb, 0, none⟩)] (fun x : RowX w0 acts => #[.agg (acC x.1.1 x.1.2.1), .int .i64 x.1.2.2]) (KpR w0.heap.size cb) 56 cb (fun xs => xs.map rowE = rowsL acts) (fun _ => True) acts.length w := by
  intro l J Jx W hW hJ hJx hY h0
  refine callsIn_wide.2 ?_
  have HI := Lib.hid (And.intro hW (And.intro hJ (And.intro hJx (And.intro h0 (And.intro hN hK)))))
  have HY := Lib.hid hY
  have hcW : Blk W cb 56 #[v] := hcb.below hW hcb.lt
  have hbW : Below w0.heap.size w0 W := hb0.trans (hW.mono hb0.size)
  clear hW hJ hJx h0 hN hK hY
  go_enter Tryz.func76, Tryz.ntmps76
  go_wp2_with fail
  go_loopw [3] (fun s3 wr => ∃ (pre : List (RowX w0 acts)) (rest : List Ac) (A : Option Addr) (c : Nat), Blk wr cb 56 #[.slice A rest.length c] ∧ ActsR w0 (.slice A rest.length c) rest ∧ J pre wr ∧ pre.map rowE ++ rowsL rest = rowsL acts ∧ (∀ a ∈ rest, a ∈ acts) ∧ rest.length ≤ acts.length ∧ Below w0.heap.size w0 wr) (fun _ wr => leftR cb wr)
  case atStart =>
    obtain ⟨A, c, rfl⟩ := hv.len
    exact ⟨[], acts, A, c, hcW, hv, HI.out.2.2.2.1, by simp, fun a h => h, Nat.le_refl _, hbW⟩
  case round =>
    obtain ⟨pre, rest, A, c, hblk, hact, hj, hrows, hin, hlen, hbel⟩ := hrel
    have cc : wr.cell? ⟨cb, 0, none⟩ = some (.slice A rest.length c) := hblk.cell 0
    have cz := hblk.frozen 0
    have HR := Lib.hid (And.intro hblk (And.intro hact (And.intro hj (And.intro hrows (And.intro hin (And.intro hlen hbel))))))
    clear hblk hact hj hrows hin hlen hbel
    cases rest with
    | nil =>
      go_wp2_with fail
      go_end0
      exact ⟨⟨_, rfl⟩, .inl ⟨pre, by have := HR.out.2.2.2.1; rw [rowsL_nil, List.append_nil] at this; exact this, HR.out.2.2.1⟩⟩
    | cons a r =>
      obtain ⟨m, hm⟩ : ∃ m, m = (a :: r).length := ⟨_, rfl⟩
      have hm0 : 0 < m := by rw [hm]; simp
      have hm1 : (0 : Int) < (m : Int) := by omega
      have hm2 : m ≤ 1000000 := by have := HR.out.2.2.2.2.2.1; have := HI.out.2.2.2.2.1; omega
      have HM := Lib.hid hm
      rw [← hm] at cc HR
      clear hm
      obtain ⟨b, o, kA, kc, rfl, hrow0, h00⟩ := HR.out.2.1.at_ (k := 0) (a := a) rfl
      have HC9 := Lib.hid (show ∀ wx, Below w0.heap.size w0 wx → wx.cell? ⟨b, o + 0 * 10 + 9, none⟩ = some (.slice kA a.keep.length kc) from fun wx hb => by
        have h9 := h00.2.2.2.2.2.2.2.2.2
        rw [hb.cell (p := ⟨b, o + 0 * 10 + 9, none⟩) (lt_of_cell h9)]; exact h9)
      have HR0 := Lib.hid hrow0; clear hrow0 h00
      go_upto_region 2 with fail
      clear cc cz
      obtain ⟨wo, rfl⟩ : ∃ wo : World, wo = wr := ⟨_, rfl⟩
      have hS0 : ∀ wx, RowsInv cb w0 #[.slice (some ⟨b, o, none⟩) m c] wx → (wx.cell? ⟨cb, 0, none⟩ = some (.slice (some ⟨b, o, none⟩) m c) ∧ wx.cell? ⟨b, o, none⟩ = some (.int .i64 a.kind) ∧ wx.cell? ⟨b, o + 1, none⟩ = some (.int .i64 a.client) ∧ wx.cell? ⟨b, o + 2, none⟩ = some (.int .i64 a.call.op) ∧ wx.cell? ⟨b, o + 3, none⟩ = some (.int .u64 a.call.key) ∧ wx.cell? ⟨b, o + 4, none⟩ = some (.int .u64 a.call.hi) ∧ wx.cell? ⟨b, o + 5, none⟩ = some (.int .i64 a.call.lim) ∧ wx.cell? ⟨b, o + 6, none⟩ = some (.string (mk a.call.val)) ∧ wx.cell? ⟨b, o + 7, none⟩ = some (.int .u64 a.at_) ∧ wx.cell? ⟨b, o + 8, none⟩ = some (.int .i64 a.n) ∧ wx.cell? ⟨b, o + 9, none⟩ = some (.slice kA a.keep.length kc) ∧ RowsInv cb w0 #[.slice (some ⟨b, o, none⟩) m c] wx) := fun wx hk => by
        obtain ⟨b', o', kA', kc', e, _, h0, h1, h2, h3, h4, h5, h6, h7, h8, h9⟩ := (HR.out.2.1.next hk.2).at_ (k := 0) (a := a) rfl
        cases e
        rw [show o + 0 * 10 = o by omega] at h0 h1 h2 h3 h4 h5 h6 h7 h8 h9
        have e9 : kA' = kA ∧ kc' = kc := by
          have := HC9.out wx hk.2
          rw [h9] at this
          simpa using this
        rw [e9.1, e9.2] at h9
        exact ⟨hk.1.cell 0, h0, h1, h2, h3, h4, h5, h6, h7, h8, h9, hk⟩
      have HS0 := Lib.hid hS0; clear hS0
      go_loopw [3] (fun s3 wi => ∃ k : Nat, s3 = .int .i64 k ∧ 1 ≤ k ∧ k ≤ m ∧ (∀ j, j + 1 < k → r[j]? = some a) ∧ (1 < k → again a = true) ∧ Below wo.heap.size wo wi) (fun s3 _ => m - (RowKit.intOf s3).toNat)
      case atStart => exact ⟨1, rfl, Nat.le_refl _, by omega, fun j hj => by omega, fun h => by omega, Below.refl _ _⟩
      case round =>
        obtain ⟨k, rfl, hk1, hkm, hlike, hag, hbi⟩ := hrel
        have hinv : RowsInv cb w0 #[.slice (some ⟨b, o, none⟩) m c] wr := ⟨HR.out.1.below hbi HR.out.1.lt, HR.out.2.2.2.2.2.2.trans (hbi.mono HR.out.2.2.2.2.2.2.size)⟩
        have hinvd : RowsInv cb w0 #[.slice (some ⟨b, o, none⟩) m c] wr.drew := ⟨hinv.1.drew, hinv.2.drew⟩
        have HL := Lib.hid (And.intro hlike (And.intro hag (And.intro hbi hinv))); clear hlike hag hbi hinv
        go_upto_region 2 with fail
        go_cut [26, 3] (fun s26 s3 wx => ∃ q : Bool, s26 = .bool q ∧ s3 = .int .i64 k ∧ RowsInv cb w0 #[.slice (some ⟨b, o, none⟩) m c] wx ∧ Below wr.heap.size wr wx ∧ (q = true → k < m ∧ again a = true ∧ r[k - 1]? = some a) ∧ (q = false → k = m ∨ again a = false ∨ ∃ b, r[k - 1]? = some b ∧ a ≠ b))
        case first =>
          by_cases hkl : k < m
          · obtain ⟨y, hy⟩ : ∃ y, r[k - 1]? = some y := ⟨_, List.getElem?_eq_getElem (by have := HM.out; simp at this; omega)⟩
            have hyr : (a :: r)[k]? = some y := by
              obtain ⟨k', rfl⟩ : ∃ k', k = k' + 1 := ⟨k - 1, by omega⟩
              simpa using hy
            obtain ⟨q, hq⟩ : ∃ q, q = again a := ⟨_, rfl⟩
            have HQ := Lib.hid hq; clear hq
            have hklI : (k : Int) < (m : Int) := by omega
            cases q with
            | false =>
              obtain ⟨cci, z0, z1, z2, z3, z4, z5, z6, z7, z8, z9, _⟩ := HS0.out wr HL.out.2.2.2
              first | (go_region_with (first
                | (go_at_call 49; refine (again_any a kA a.keep.length kc).mono ?_; rintro e w8 ⟨he, hb8⟩; rw [← HQ.out] at he; obtain rfl := he; have K8 : RowsInv cb w0 #[.slice (some ⟨b, o, none⟩) m c] w8 := RowsInv.call hinvd hb8; have M8 : Below wr.heap.size wr w8 := Below.trans (Below.refl _ _).drew hb8)))
                    | fail
              all_goals
                go_wp2_with fail
                go_meet
                exact ⟨false, rfl, rfl, K8, M8, fun h => (by cases h), fun _ => .inr (.inl HQ.out.symm)⟩
            | true =>
              obtain ⟨b2, o2, yA, yc, eb, hrowy, hyc⟩ := (HR.out.2.1).at_ hyr
              cases eb
              have HYR := Lib.hid hrowy; clear hrowy
              have hS1 : ∀ wx, RowsInv cb w0 #[.slice (some ⟨b, o, none⟩) m c] wx → (wx.cell? ⟨cb, 0, none⟩ = some (.slice (some ⟨b, o, none⟩) m c) ∧ wx.cell? ⟨b, o, none⟩ = some (.int .i64 a.kind) ∧ wx.cell? ⟨b, o + 1, none⟩ = some (.int .i64 a.client) ∧ wx.cell? ⟨b, o + 2, none⟩ = some (.int .i64 a.call.op) ∧ wx.cell? ⟨b, o + 3, none⟩ = some (.int .u64 a.call.key) ∧ wx.cell? ⟨b, o + 4, none⟩ = some (.int .u64 a.call.hi) ∧ wx.cell? ⟨b, o + 5, none⟩ = some (.int .i64 a.call.lim) ∧ wx.cell? ⟨b, o + 6, none⟩ = some (.string (mk a.call.val)) ∧ wx.cell? ⟨b, o + 7, none⟩ = some (.int .u64 a.at_) ∧ wx.cell? ⟨b, o + 8, none⟩ = some (.int .i64 a.n) ∧ wx.cell? ⟨b, o + 9, none⟩ = some (.slice kA a.keep.length kc) ∧ wx.cell? ⟨b, o + k * 10, none⟩ = some (.int .i64 y.kind) ∧ wx.cell? ⟨b, o + k * 10 + 1, none⟩ = some (.int .i64 y.client) ∧ wx.cell? ⟨b, o + k * 10 + 2, none⟩ = some (.int .i64 y.call.op) ∧ wx.cell? ⟨b, o + k * 10 + 3, none⟩ = some (.int .u64 y.call.key) ∧ wx.cell? ⟨b, o + k * 10 + 4, none⟩ = some (.int .u64 y.call.hi) ∧ wx.cell? ⟨b, o + k * 10 + 5, none⟩ = some (.int .i64 y.call.lim) ∧ wx.cell? ⟨b, o + k * 10 + 6, none⟩ = some (.string (mk y.call.val)) ∧ wx.cell? ⟨b, o + k * 10 + 7, none⟩ = some (.int .u64 y.at_) ∧ wx.cell? ⟨b, o + k * 10 + 8, none⟩ = some (.int .i64 y.n) ∧ wx.cell? ⟨b, o + k * 10 + 9, none⟩ = some (.slice yA y.keep.length yc) ∧ RowsInv cb w0 #[.slice (some ⟨b, o, none⟩) m c] wx) := fun wx hk => by
                obtain ⟨h0, h1, h2, h3, h4, h5, h6, h7, h8, h9, h10, hk'⟩ := HS0.out wx hk
                obtain ⟨g0, g1, g2, g3, g4, g5, g6, g7, g8, g9⟩ := hyc
                refine ⟨h0, h1, h2, h3, h4, h5, h6, h7, h8, h9, h10, ?_, ?_, ?_, ?_, ?_, ?_, ?_, ?_, ?_, ?_, hk⟩
                · rw [hk.2.cell (p := ⟨b, o + k * 10, none⟩) (lt_of_cell g0)]; exact g0
                · rw [hk.2.cell (p := ⟨b, o + k * 10 + 1, none⟩) (lt_of_cell g1)]; exact g1
                · rw [hk.2.cell (p := ⟨b, o + k * 10 + 2, none⟩) (lt_of_cell g2)]; exact g2
                · rw [hk.2.cell (p := ⟨b, o + k * 10 + 3, none⟩) (lt_of_cell g3)]; exact g3
                · rw [hk.2.cell (p := ⟨b, o + k * 10 + 4, none⟩) (lt_of_cell g4)]; exact g4
                · rw [hk.2.cell (p := ⟨b, o + k * 10 + 5, none⟩) (lt_of_cell g5)]; exact g5
                · rw [hk.2.cell (p := ⟨b, o + k * 10 + 6, none⟩) (lt_of_cell g6)]; exact g6
                · rw [hk.2.cell (p := ⟨b, o + k * 10 + 7, none⟩) (lt_of_cell g7)]; exact g7
                · rw [hk.2.cell (p := ⟨b, o + k * 10 + 8, none⟩) (lt_of_cell g8)]; exact g8
                · rw [hk.2.cell (p := ⟨b, o + k * 10 + 9, none⟩) (lt_of_cell g9)]; exact g9
              have HS1 := Lib.hid hS1; clear hS1 hyc
              obtain ⟨s, hs⟩ : ∃ s, s = decide (a = y) := ⟨_, rfl⟩
              have HSM := Lib.hid hs
              have HLK := Lib.hid (show a.keep.length ≤ 1000000000 ∧ y.keep.length ≤ 1000000000 from ⟨by have := HI.out.2.2.2.2.2 a (HR.out.2.2.2.2.1 a (by simp)); omega, by have := HI.out.2.2.2.2.2 y (HR.out.2.2.2.2.1 y (List.mem_of_getElem? hyr)); omega⟩)
              clear hs
              go_region_held3 (fun wx => wx.cell? ⟨cb, 0, none⟩ = some (.slice (some ⟨b, o, none⟩) m c) ∧ wx.cell? ⟨b, o, none⟩ = some (.int .i64 a.kind) ∧ wx.cell? ⟨b, o + 1, none⟩ = some (.int .i64 a.client) ∧ wx.cell? ⟨b, o + 2, none⟩ = some (.int .i64 a.call.op) ∧ wx.cell? ⟨b, o + 3, none⟩ = some (.int .u64 a.call.key) ∧ wx.cell? ⟨b, o + 4, none⟩ = some (.int .u64 a.call.hi) ∧ wx.cell? ⟨b, o + 5, none⟩ = some (.int .i64 a.call.lim) ∧ wx.cell? ⟨b, o + 6, none⟩ = some (.string (mk a.call.val)) ∧ wx.cell? ⟨b, o + 7, none⟩ = some (.int .u64 a.at_) ∧ wx.cell? ⟨b, o + 8, none⟩ = some (.int .i64 a.n) ∧ wx.cell? ⟨b, o + 9, none⟩ = some (.slice kA a.keep.length kc) ∧ wx.cell? ⟨b, o + k * 10, none⟩ = some (.int .i64 y.kind) ∧ wx.cell? ⟨b, o + k * 10 + 1, none⟩ = some (.int .i64 y.client) ∧ wx.cell? ⟨b, o + k * 10 + 2, none⟩ = some (.int .i64 y.call.op) ∧ wx.cell? ⟨b, o + k * 10 + 3, none⟩ = some (.int .u64 y.call.key) ∧ wx.cell? ⟨b, o + k * 10 + 4, none⟩ = some (.int .u64 y.call.hi) ∧ wx.cell? ⟨b, o + k * 10 + 5, none⟩ = some (.int .i64 y.call.lim) ∧ wx.cell? ⟨b, o + k * 10 + 6, none⟩ = some (.string (mk y.call.val)) ∧ wx.cell? ⟨b, o + k * 10 + 7, none⟩ = some (.int .u64 y.at_) ∧ wx.cell? ⟨b, o + k * 10 + 8, none⟩ = some (.int .i64 y.n) ∧ wx.cell? ⟨b, o + k * 10 + 9, none⟩ = some (.slice yA y.keep.length yc) ∧ RowsInv cb w0 #[.slice (some ⟨b, o, none⟩) m c] wx)
                (first | exact HS1.out _ (by assumption))
                (first
                  | (go_at_call 49; refine (again_any a kA a.keep.length kc).mono ?_; rintro e w8 ⟨he, hb8⟩; rw [← HQ.out] at he; obtain rfl := he; have K8 : RowsInv cb w0 #[.slice (some ⟨b, o, none⟩) m c] w8 := RowsInv.call (by assumption) hb8; have M8 : Below wr.heap.size wr w8 := Below.trans (Below.refl _ _).drew hb8)
                  | (go_at_call 61; refine (same_any a y _ _ (HR0.out.next K8.2) (HYR.out.next K8.2) HLK.out.1 HLK.out.2).mono ?_; rintro e w9 ⟨he, hb9⟩; rw [← HSM.out] at he; obtain rfl := he; have K9 : RowsInv cb w0 #[.slice (some ⟨b, o, none⟩) m c] w9 := RowsInv.call (by assumption) hb9; have M9 : Below wr.heap.size wr w9 := M8.trans (hb9.mono M8.size)))
              go_wp2_with fail
              go_meet
              refine ⟨s, rfl, rfl, K9, M9, fun h => ⟨hkl, HQ.out.symm, ?_⟩, fun h => .inr (.inr ⟨y, hy, ?_⟩)⟩
              · rw [hy]; have := HSM.out; rw [h] at this; rw [of_decide_eq_true this.symm]
              · have := HSM.out; rw [h] at this; exact of_decide_eq_false this.symm
          · obtain rfl : k = m := by omega
            obtain ⟨cci, _⟩ := HS0.out wr HL.out.2.2.2
            go_quiet (fail)
            go_wp2_with fail
            go_meet
            exact ⟨false, rfl, rfl, ⟨HL.out.2.2.2.1.drewN _, Below.drewK HL.out.2.2.2.2 _⟩, Below.drewK (Below.refl _ _) _, fun h => (by cases h), fun _ => .inl (by trivial)⟩
        case rest =>
          obtain ⟨q, rfl, rfl, hcI, hcB, hct, hcf⟩ := hcut
          have HC := Lib.hid (And.intro hcI (And.intro hcB (And.intro hct hcf))); clear hcI hcB hct hcf
          cases q with
          | true =>
            obtain ⟨g1, g2, g3⟩ := HC.out.2.2.1 rfl
            have HG := Lib.hid (And.intro g2 g3); clear g2 g3
            go_wp2_with fail
            go_roundw
            case rel =>
              refine ⟨k + 1, by go_num, by omega, by omega, fun j hj => ?_, fun _ => HG.out.1, HL.out.2.2.1.trans (HC.out.2.1.mono HL.out.2.2.1.size)⟩
              by_cases hj2 : j + 1 < k
              · exact HL.out.1 j hj2
              · obtain rfl : j = k - 1 := by omega
                exact HG.out.2
            case measure => simp [RowKit.intOf]; omega
          | false =>
            have hrun : runLen a r = k - 1 := by
              have hm' := HM.out
              simp at hm'
              refine runLen_stop (fun j hj => HL.out.1 j (by omega)) (by omega) (fun h => HL.out.2.1 (by omega)) ?_
              rcases HC.out.2.2.2 rfl with h1 | h1 | h1
              · exact .inl (by omega)
              · exact .inr (.inl h1)
              · exact .inr (.inr h1)
            have HRUN := Lib.hid hrun; clear hrun
            have hmem : a ∈ acts := HR.out.2.2.2.2.1 a (by simp)
            have hlen : pre.length < acts.length := by
              have h1 := HR.out.2.2.2.1
              have h2 := rowsL_length _ acts (Nat.le_refl _)
              rw [← h1, rowsL_cons] at h2
              simp at h2; omega
            have hkA : k ≤ acts.length := by have := HR.out.2.2.2.2.2.1; omega
            obtain ⟨x, hx⟩ : ∃ x : RowX w0 acts, x.1 = (a, .slice kA a.keep.length kc, (k : Int)) := ⟨⟨(a, .slice kA a.keep.length kc, (k : Int)), HR0.out, hmem, by simp only; omega, by simp only; omega⟩, rfl⟩
            have hjc : J pre wc := HI.out.2.1 pre wo wc none HR.out.2.2.1 (Below.grown0 (HL.out.2.2.1.trans (HC.out.2.1.mono HL.out.2.2.1.size))) (fun r e => by cases e)
            obtain ⟨fn, tmps, assign, body, hy, hR⟩ := HY.out pre x wc hjc hlen
            rw [hx] at hy
            dsimp only [acC] at hy
            have HX := Lib.hid hx; clear hx hjc hlen
            obtain ⟨cci, z0, z1, z2, z3, z4, z5, z6, z7, z8, z9, _⟩ := HS0.out wc HC.out.1
            go_upto_region 4 with fail
            refine (wpIn_wide (n := n)).1 ?_
            gi_wp2
            refine ⟨fun h => (by cases h), hR.mono ?_⟩
            clear hR hy cci z0 z1 z2 z3 z4 z5 z6 z7 z8 z9
            rintro e W' (⟨rfl, hJ2, hk2⟩ | ⟨rfl, hJx2⟩)
            · have hb2 : Blk W' cb 56 #[.slice (some ⟨b, o, none⟩) m c] := hk2.2.trans HC.out.1.1
              have ccW : W'.cell? ⟨cb, 0, none⟩ = some (.slice (some ⟨b, o, none⟩) m c) := hb2.cell 0
              have czW := hb2.frozen 0
              have hbW2 : Below w0.heap.size w0 W' := HC.out.1.2.trans hk2.1
              have hkl1 : (k : Int) ≤ (m : Int) := by omega
              have hk0 : (0 : Int) ≤ (k : Int) := by omega
              obtain ⟨A3, hA3⟩ : ∃ A3, (if c = k then some (⟨b, o, none⟩ : Addr) else some ⟨b, o + k * 10, none⟩) = A3 := ⟨_, rfl⟩
              obtain ⟨c3, hc3⟩ : ∃ c3, c - k = c3 := ⟨_, rfl⟩
              obtain ⟨m3, hm3⟩ : ∃ m3, m - k = m3 := ⟨_, rfl⟩
              have H2 := Lib.hid (And.intro hJ2 (And.intro hb2 (And.intro hbW2 (And.intro hm3 (And.intro hA3 hc3))))); clear hJ2 hk2 hb2 hbW2
              gi_wp2
              go_wp2_with fail
              go_roundw
              case rel =>
                have hk1' : runLen a r + 1 = k := by have := HRUN.out; omega
                have hd := drop_acts (k := k) (by have := HR.out.2.1; rw [HM.out] at this; exact this) (by have := HM.out; omega)
                rw [H2.out.2.2.2.2.1, H2.out.2.2.2.2.2, ← HM.out, H2.out.2.2.2.1] at hd
                have hdr : (a :: r).drop k = r.drop (runLen a r) := by rw [← hk1']; rfl
                have hlen3 : (r.drop (runLen a r)).length = m3 := by have h1 := H2.out.2.2.2.1; have h2 := HM.out; simp at h2 ⊢; omega
                rw [hdr] at hd
                refine ⟨pre ++ [x], r.drop (runLen a r), A3, c3, ?_, ?_, ?_, ?_, ?_, ?_, ?_⟩
                · rw [hlen3]; exact H2.out.2.1.set_ 0 _
                · rw [hlen3]; exact hd
                · exact HI.out.2.1 _ _ _ (some cb) H2.out.1 (grownBy_setCell' _ _ _) (fun r e => by cases e; exact ⟨rfl, _, H2.out.2.1.set_ 0 _⟩)
                · have h1 := HR.out.2.2.2.1
                  rw [rowsL_cons, hk1'] at h1
                  rw [← h1, List.map_append, List.append_assoc]
                  simp [rowE, HX.out]
                · exact fun b hb => HR.out.2.2.2.2.1 b (List.mem_cons_of_mem _ (List.mem_of_mem_drop hb))
                · have h1 := HR.out.2.2.2.2.2.1; have h2 := HM.out; simp at h2 ⊢; omega
                · exact H2.out.2.2.1.setCell (p := ⟨cb, 0, none⟩) hlt _
              case measure =>
                have h1 : leftR cb wo = m := by unfold leftR; rw [show wo.cell? ⟨cb, 0, none⟩ = _ from HR.out.1.cell 0]; rfl
                have h2 : leftR cb (W'.setCell ⟨cb, 0, none⟩ (.slice A3 m3 c3)) = m3 := by unfold leftR; rw [show (W'.setCell ⟨cb, 0, none⟩ (.slice A3 m3 c3)).cell? ⟨cb, 0, none⟩ = _ from (H2.out.2.1.set_ 0 (.slice A3 m3 c3)).cell 0]; rfl
                rw [h1, h2]; have := H2.out.2.2.2.1; omega
            · gi_wp2
              go_wp2_with fail
              refine bodyPost_ret (results_none rfl _ _ _) rfl ?_
              exact ⟨⟨_, rfl⟩, .inr ⟨pre ++ [x], trivial, hJx2⟩⟩

end Go.Proofs.YtbpbkmhipbchbaaGreatDoor.sc
