/-
  PROVED HERE: the contract of script's of, kind by kind: the act of words, and how often, or it is left by ErrBytes. Conditions: the library's tables lie (Env); short words.
-/
import Derived.Test.YtnnahodajiolmaaGreatDoorScDefer
import Derived.Test.YtnnahodajiolmaaGreatDoorScWorld
namespace Go.Proofs.YtnnahodajiolmaaGreatDoor.sc
open Go.RowKit
set_option linter.unusedVariables false

/-- A slice whose block, if it has one, is B or lies beyond it. -/
def Fresh (B : Nat) (v : Value) : Prop := ∀ A n c, v = .slice A n c → ∀ ad : Addr, A = some ad → B ≤ ad.block
theorem Fresh.nil (B : Nat) : Fresh B (.slice none 0 0) := fun A n c h ad ha => by injection h with h1; rw [← h1] at ha; cases ha
theorem Fresh.mono {B B' : Nat} {v : Value} (h : Fresh B v) (hb : B' ≤ B) : Fresh B' v := fun A n c e ad ha => Nat.le_trans hb (h A n c e ad ha)
theorem Fresh.of_own {w : World} {B size n : Nat} {T : TypeId} {v : Value} {cs : List Value} (h : w.ownsRow B T size v n cs) : Fresh B v := by
  rcases h.2 with ⟨rfl, _⟩ | ⟨g, cap, cur, rfl, h1, h2, _⟩
  · exact Fresh.nil B
  · intro A n c e ad ha
    injection e with e1
    rw [← e1] at ha
    injection ha with ha
    rw [← ha]; exact (h.lt g rfl).1
theorem RowR.put {w : World} {B n size : Nat} {v u : Value} {cs : List Value} {p : Addr} (h : RowR w v n size cs) (hf : Fresh B v) (hp : p.block < B) : RowR (w.setCell p u) v n size cs := by
  obtain ⟨A, c, rfl, h1, h2, h3⟩ := h
  refine ⟨A, c, rfl, h1, h2, fun hn => ?_⟩
  obtain ⟨b, o, rfl, hb, hc⟩ := h3 hn
  have hB := hf _ _ _ rfl ⟨b, o, none⟩ rfl
  refine ⟨b, o, rfl, by simpa using hb, fun j x hj => ?_⟩
  rw [World.cell?_setCell_other w p _ u (fun e => by subst e; simp only at hp hB; omega)]
  exact hc j x hj

/-- What of comes to. -/
def OfPost (w : World) (l : List Bs) (e : Ending) (w' : World) : Prop :=
  Below w.heap.size w w' ∧ match ofL l with
    | some (a, n) => ∃ kv, e = .returned (.tuple #[.agg (acC a kv), .int .i64 n]) ∧ RowR w' kv a.keep.length 1 (a.keep.map (Value.int .i64)) ∧ Fresh w.heap.size kv
    | none => e = leftBy 11

/-- The cells of no act. -/
abbrev zCs : Array Value := #[.int .i64 0, .int .i64 0, .int .i64 0, .int .u64 0, .int .u64 0, .int .i64 0, .string ⟨#[]⟩, .int .u64 0, .int .i64 0, .slice none 0 0]
theorem zCs_eq : zCs = acC Ac.zero (.slice none 0 0) := rfl

/-- The literal of how many words each kind wants. -/
def wantL : List (Bs × Value) := [(sPick, .int .i64 2), (sEvict, .int .i64 2), (sOpen, .int .i64 0), (sScavenge, .int .i64 0), (sBoot, .int .i64 1)]

theorem want_any (W : World) : ∃ W2 W3 W4 W5 W6,
    (Instr.mapUpdate 121 (.map (some W.heap.size)) (.string ⟨#[112, 105, 99, 107]⟩) (.int .i64 2)).run Tryz.prog (W.alloc (.map #[] 0)) = .ok () W2
    ∧ (Instr.mapUpdate 121 (.map (some W.heap.size)) (.string ⟨#[101, 118, 105, 99, 116]⟩) (.int .i64 2)).run Tryz.prog W2 = .ok () W3
    ∧ (Instr.mapUpdate 121 (.map (some W.heap.size)) (.string ⟨#[111, 112, 101, 110]⟩) (.int .i64 0)).run Tryz.prog W3 = .ok () W4
    ∧ (Instr.mapUpdate 121 (.map (some W.heap.size)) (.string ⟨#[115, 99, 97, 118, 101, 110, 103, 101]⟩) (.int .i64 0)).run Tryz.prog W4 = .ok () W5
    ∧ (Instr.mapUpdate 121 (.map (some W.heap.size)) (.string ⟨#[98, 111, 111, 116]⟩) (.int .i64 1)).run Tryz.prog W5 = .ok () W6
    ∧ Below W.heap.size W W6 ∧ ∀ k : Bs, (Instr.lookup 121 (.map (some W.heap.size)) (.string (mk k)) true).run Tryz.prog W6 = .ok (.tuple #[(getS wantL k).getD (.int .i64 0), .bool (getS wantL k).isSome]) W6 := by
  have h0 := MapS.new W
  obtain ⟨W2, r2, h2, b2⟩ := run_insert_str h0 Tryz.underlying121 Tryz.underlying9 sPick rfl (.int .i64 2)
  obtain ⟨W3, r3, h3, b3⟩ := run_insert_str h2 Tryz.underlying121 Tryz.underlying9 sEvict (by decide) (.int .i64 2)
  obtain ⟨W4, r4, h4, b4⟩ := run_insert_str h3 Tryz.underlying121 Tryz.underlying9 sOpen (by decide) (.int .i64 0)
  obtain ⟨W5, r5, h5, b5⟩ := run_insert_str h4 Tryz.underlying121 Tryz.underlying9 sScavenge (by decide) (.int .i64 0)
  obtain ⟨W6, r6, h6, b6⟩ := run_insert_str h5 Tryz.underlying121 Tryz.underlying9 sBoot (by decide) (.int .i64 1)
  have le := Nat.le_refl W.heap.size
  refine ⟨W2, W3, W4, W5, W6, r2, r3, r4, r5, r6, ((((((Below.refl _ _).alloc le _).trans (b2 _ le)).trans (b3 _ le)).trans (b4 _ le)).trans (b5 _ le)).trans (b6 _ le), fun k => ?_⟩
  exact run_lookup2_str h6 Tryz.underlying121 Tryz.underlying9 (Tryz.zeroValue3 _) k

/-- The words behind the first one. -/
theorem tail_at {w : World} {lb lo c : Nat} {o : Bs} {f : List Bs} (h : StrsAt w (.slice (some ⟨lb, lo, none⟩) (f.length + 1) c) (o :: f)) (hc : f.length + 1 ≤ c) :
    StrsAt w (.slice (if c = 1 then some ⟨lb, lo, none⟩ else some ⟨lb, lo + 1, none⟩) f.length (c - 1)) f := by
  refine ⟨_, _, rfl, by omega, fun hn => ?_⟩
  rw [if_neg (by omega)]
  obtain ⟨A', c', e, _, h3⟩ := h
  cases e
  obtain ⟨b, o', e', hb, hcell⟩ := h3 (by simp)
  cases e'
  refine ⟨lb, lo + 1, rfl, hb, fun j x hj => ?_⟩
  rw [Nat.add_assoc, Nat.add_comm 1 j]
  exact hcell (j + 1) x (by simpa using hj)

/-- Behind the names: what is known. -/
theorem of_kinds {w W6 w4 W : World} {ga : Nat} {f : List Bs} {v : Value} (hW : W = w4.alloc (.cells #[.string (mk sNone), .string (mk sInvoke), .string (mk sPick), .string (mk sEvict), .string (mk sCrash), .string (mk sOpen), .string (mk sScavenge), .string (mk sBoot)] 92))
    (hb4 : Below W6.heap.size W6 w4) (h1 : Below w.heap.size w W6) (h2 : Blk W6 ga 40 zCs) (h3 : StrsAt w v f) (h4 : Env w) :
    Blk W w4.heap.size 92 #[.string (mk sNone), .string (mk sInvoke), .string (mk sPick), .string (mk sEvict), .string (mk sCrash), .string (mk sOpen), .string (mk sScavenge), .string (mk sBoot)]
    ∧ Blk W ga 40 zCs ∧ StrsAt W v f ∧ Env W ∧ Below w.heap.size w W ∧ ga < w4.heap.size := by
  have hb : Below W6.heap.size W6 W := by rw [hW]; exact hb4.alloc hb4.size _
  have h5 := h1.trans (hb.mono h1.size)
  exact ⟨by rw [hW]; exact Blk.new _ _ _, h2.below hb h2.lt, h3.next h5, h4.next h5, h5, Nat.lt_of_lt_of_le h2.lt hb4.size⟩

/-- The world with an act's cells stored one by one. -/
abbrev put10 (w : World) (g : Nat) (a : Ac) (kv : Value) : World := ((((((((((w.setCell ⟨g, 0, none⟩ (.int .i64 a.kind)).setCell ⟨g, 1, none⟩ (.int .i64 a.client)).setCell ⟨g, 2, none⟩ (.int .i64 a.call.op)).setCell ⟨g, 3, none⟩ (.int .u64 a.call.key)).setCell ⟨g, 4, none⟩ (.int .u64 a.call.hi)).setCell ⟨g, 5, none⟩ (.int .i64 a.call.lim)).setCell ⟨g, 6, none⟩ (.string (mk a.call.val))).setCell ⟨g, 7, none⟩ (.int .u64 a.at_)).setCell ⟨g, 8, none⟩ (.int .i64 a.n)).setCell ⟨g, 9, none⟩ kv)
theorem put10_blk {w : World} {g : Nat} {t : TypeId} {cs : Array Value} (h : Blk w g t cs) (hs : cs.size = 10) (a : Ac) (kv : Value) : Blk (put10 w g a kv) g t (acC a kv) := by
  obtain ⟨l⟩ := cs
  match l, hs with
  | [a0, a1, a2, a3, a4, a5, a6, a7, a8, a9], _ => exact set10 h _ _ _ _ _ _ _ _ _ _
theorem put10_below {w w' : World} {B g : Nat} (h : Below B w w') (hg : B ≤ g) (a : Ac) (kv : Value) : Below B w (put10 w' g a kv) :=
  (((((((((h.setCell (p := ⟨g, 0, none⟩) hg _).setCell (p := ⟨g, 1, none⟩) hg _).setCell (p := ⟨g, 2, none⟩) hg _).setCell (p := ⟨g, 3, none⟩) hg _).setCell (p := ⟨g, 4, none⟩) hg _).setCell (p := ⟨g, 5, none⟩) hg _).setCell (p := ⟨g, 6, none⟩) hg _).setCell (p := ⟨g, 7, none⟩) hg _).setCell (p := ⟨g, 8, none⟩) hg _).setCell (p := ⟨g, 9, none⟩) hg _

theorem res_of {X : World} {b : Nat} {a : Ac} {kv : Value} {tmps : Array Value} {n : Int} (hB : Blk X b 40 (acC a kv)) (h2 : tmps[2]? = some (.pointer (some ⟨b, 0, none⟩))) (h3 : tmps[3]? = some (.int .i64 n)) :
    (results Tryz.f25 tmps).run Tryz.prog X = .ok (.tuple #[.agg (acC a kv), .int .i64 n]) X := by
  obtain ⟨e0, e1, e2, e3, e4, e5, e6, e7, e8, e9⟩ := acCells hB
  simp [results, Tryz.results25, go_sem, h2, h3, e0, e1, e2, e3, e4, e5, e6, e7, e8, e9, acC]

/-- The cells' marks of a block. -/
theorem frozen10 {w : World} {g : Nat} {t : TypeId} {cs : Array Value} (h : Blk w g t cs) : ∀ i, w.frozen? ⟨g, i, none⟩ = false := h.frozen

/-- Behind the kind's store: what is known. -/
theorem of_stored {w W X : World} {f : List Bs} {v : Value} {k : Int} (hX : X = (W.setCell ⟨w.heap.size, 0, none⟩ (.int .i64 k)).drew) (h2 : Blk W w.heap.size 40 zCs) (h3 : StrsAt w v f) (h4 : Env w) (h5 : Below w.heap.size w W) :
    Blk X w.heap.size 40 (acC ⟨k, 0, Cl.zero, 0, 0, []⟩ (.slice none 0 0)) ∧ StrsAt X v f ∧ Env X ∧ Below w.heap.size w X := by
  have h6 : Below w.heap.size w X := by rw [hX]; exact (h5.setCell (Nat.le_refl _) _).drew
  exact ⟨by rw [hX]; exact (h2.set_ 0 _).drew, h3.next h6, h4.next h6, h6⟩

/-! ### What is none's -/
theorem ofL_open_no (f : List Bs) (h : f.length ≠ 0) : ofL (sOpen :: f) = none := by
  unfold ofL
  simp [show idx sOpen kindsL 0 = 5 by decide, h]
theorem ofL_open_yes (f : List Bs) (h : f.length = 0) : ofL (sOpen :: f) = some (⟨5, 0, Cl.zero, 0, 0, []⟩, 1) := by
  unfold ofL
  simp [show idx sOpen kindsL 0 = 5 by decide, h]
theorem ofL_scavenge_no (f : List Bs) (h : f.length ≠ 0) : ofL (sScavenge :: f) = none := by
  unfold ofL
  simp [show idx sScavenge kindsL 0 = 6 by decide, h]
theorem ofL_scavenge_yes (f : List Bs) (h : f.length = 0) : ofL (sScavenge :: f) = some (⟨6, 0, Cl.zero, 0, 0, []⟩, 1) := by
  unfold ofL
  simp [show idx sScavenge kindsL 0 = 6 by decide, h]
theorem lenOne {l : List Bs} (h : l.length = 1) : ∃ x, l = [x] := List.length_eq_one_iff.1 h
theorem lenTwo {l : List Bs} (h : l.length = 2) : ∃ x y, l = [x, y] := by
  match l, h with
  | [x, y], _ => exact ⟨x, y, rfl⟩
theorem two_cells {w : World} {xb xo m c : Nat} {x y : Bs} (h : StrsAt w (.slice (some ⟨xb, xo, none⟩) m c) [x, y]) :
    ∀ wx, Below w.heap.size w wx → (wx.cell? ⟨xb, xo, none⟩ = some (.string (mk x)) ∧ wx.cell? ⟨xb, xo + 1, none⟩ = some (.string (mk y)) ∧ Below w.heap.size w wx) := fun wx hk => by
  have h' := h.next hk
  obtain ⟨b, o', e, _, c0⟩ := h'.cell (k := 0) (x := x) rfl
  cases e
  obtain ⟨b, o', e, _, c1⟩ := h'.cell (k := 1) (x := y) rfl
  cases e
  exact ⟨c0, c1, hk⟩
theorem ofL_boot_no (f : List Bs) (h : f.length ≠ 1) : ofL (sBoot :: f) = none := by
  unfold ofL
  simp [show idx sBoot kindsL 0 = 7 by decide, h]
theorem ofL_boot (x : Bs) : ofL [sBoot, x] = (whole x 1 maxScript).map fun n => (⟨7, 0, Cl.zero, 0, 0, []⟩, n) := by
  unfold ofL
  simp [show idx sBoot kindsL 0 = 7 by decide]
theorem ofL_pick_no (f : List Bs) (h : f.length ≠ 2) : ofL (sPick :: f) = none := by
  unfold ofL
  simp [show idx sPick kindsL 0 = 2 by decide, h]
theorem ofL_pick (x y : Bs) : ofL [sPick, x, y] = match whole x 0 1099511627776, whole y 1 100000 with
      | some c, some n => some (⟨2, c, Cl.zero, 0, 0, []⟩, n)
      | _, _ => none := by
  unfold ofL
  simp [show idx sPick kindsL 0 = 2 by decide, big, maxScript]
  cases whole x 0 1099511627776 <;> cases whole y 1 100000 <;> rfl
theorem ofL_evict_no (f : List Bs) (h : f.length ≠ 2) : ofL (sEvict :: f) = none := by
  unfold ofL
  simp [show idx sEvict kindsL 0 = 3 by decide, h]
theorem ofL_evict (x y : Bs) : ofL [sEvict, x, y] = match any64 x, whole y 0 1099511627776 with
      | some p, some n => some (⟨3, 0, Cl.zero, p, n, []⟩, 1)
      | _, _ => none := by
  unfold ofL
  simp [show idx sEvict kindsL 0 = 3 by decide, big]
  cases any64 x <;> cases whole y 0 1099511627776 <;> rfl

set_option maxHeartbeats 4000000 in
set_option maxRecDepth 100000 in
theorem of_open {w : World} (f : List Bs) (A : Option Addr) (c : Nat) (hv : StrsAt w (.slice A (f.length + 1) c) (sOpen :: f)) (hl : ∀ x ∈ f, x.length ≤ 1000000) (hN : f.length ≤ 1000000) (E : Env w) :
    Calls Tryz.prog 25 #[.slice A (f.length + 1) c] w (OfPost w (sOpen :: f)) := by
  obtain ⟨lb, lo, rfl, _, c0⟩ := hv.cell (k := 0) (x := sOpen) rfl
  obtain ⟨W0, hW0⟩ : ∃ W, W = w.alloc (.cells zCs 40) := ⟨_, rfl⟩
  have hc0 : W0.cell? ⟨lb, lo, none⟩ = some (.string (mk sOpen)) := by
    rw [hW0, World.cell?_alloc_lt _ _ _ (lt_of_cell c0)]; exact c0
  have hcl := lt_of_cell hc0
  have hz0 : Blk W0 w.heap.size 40 zCs := by rw [hW0]; exact Blk.new _ _ _
  have hb0 : Below w.heap.size w W0 := by rw [hW0]; exact (Below.refl _ _).alloc (Nat.le_refl _) _
  obtain ⟨W2, W3, W4, W5, W6, r2, r3, r4, r5, r6, hb6, hlk⟩ := want_any W0
  have hlk6 := hlk sOpen
  rw [show getS wantL sOpen = some (.int .i64 0) from rfl] at hlk6
  have hcap : f.length + 1 ≤ c := by
    obtain ⟨A', c', e, h2, _⟩ := hv
    cases e; exact h2
  have hc6 : W6.cell? ⟨lb, lo, none⟩ = some (.string (mk sOpen)) := by
    rw [hb6.cell (p := ⟨lb, lo, none⟩) hcl]; exact hc0
  have hmm := @run_makeMap Tryz.prog
  obtain ⟨len, hlen⟩ : ∃ n, n = f.length + 1 := ⟨_, rfl⟩
  obtain ⟨m, hm⟩ : ∃ m, m = f.length := ⟨_, rfl⟩
  obtain ⟨A2, hA2⟩ : ∃ A2, (if c = 1 then some (⟨lb, lo, none⟩ : Addr) else some ⟨lb, lo + 1, none⟩) = A2 := ⟨_, rfl⟩
  obtain ⟨c2, hc2⟩ : ∃ c2, c - 1 = c2 := ⟨_, rfl⟩
  have hf0 : StrsAt w (.slice A2 m c2) f := by rw [← hA2, ← hc2, hm]; exact tail_at hv hcap
  have hml : len - 1 = m := by omega
  have hbd6 : Below w.heap.size w W6 := hb0.trans (hb6.mono hb0.size)
  have HI := Lib.hid (And.intro hb6 (And.intro hbd6 (And.intro (hz0.below hb6 hz0.lt) (And.intro hf0 (And.intro E (And.intro hl (And.intro hm (And.intro hN (And.intro hz0 hc6)))))))))
  rw [← hlen] at hv hcap ⊢
  have hi1 : (1 : Int) ≤ (len : Int) := by omega
  have hi0 : 0 < len := by omega
  clear hlen hlk hv hl hb0 hz0 hf0 hbd6 E hm hN c0 hc0 hcl hcap
  go_enter Tryz.func25, Tryz.ntmps25
  go_upto_region 1 with fail
  rw [← hW0]
  clear hW0
  go_upto_region 2 with fail
  clear hA2 hml hc2 hi1
  by_cases hw : m = 0
  · have e1 : ((m : Int) == 0) = true := by simp; omega
    have HM := Lib.hid hw; clear hw
    go_wp2_with fail
    refine (check_yes _ _).mono ?_; rintro e w3 ⟨rfl, rfl⟩
    go_wp2_with fail
    refine (kinds_any _).mono ?_; rintro e w4 ⟨rfl, hb4⟩
    go_upto_region 8 with fail
    obtain ⟨W, hW⟩ : ∃ W, W = w4.alloc (.cells #[.string (mk sNone), .string (mk sInvoke), .string (mk sPick), .string (mk sEvict), .string (mk sCrash), .string (mk sOpen), .string (mk sScavenge), .string (mk sBoot)] 92) := ⟨_, rfl⟩
    have HK := Lib.hid (of_kinds hW hb4 HI.out.2.1 HI.out.2.2.1 HI.out.2.2.2.1 HI.out.2.2.2.2.1)
    have hcW : W.cell? ⟨lb, lo, none⟩ = some (.string (mk sOpen)) := by
      have hlt := lt_of_cell HI.out.2.2.2.2.2.2.2.2.2
      rw [hW, World.cell?_alloc_lt _ _ _ (Nat.lt_of_lt_of_le hlt hb4.size), hb4.cell (p := ⟨lb, lo, none⟩) hlt]; exact HI.out.2.2.2.2.2.2.2.2.2
    have hz := HK.out.2.1.cell 0
    have hzf := HK.out.2.1.frozen 0
    have hix : idx sOpen kindsL 0 = 5 := by decide
    rw [← hW]
    clear hW hb4 hc6
    go_region_with (first | (go_at_call 48; refine (index_any (l := kindsL) sOpen (kinds_row HK.out.1.drew) (by decide)).mono ?_; rintro e w5 ⟨rfl, rfl⟩; rw [hix]))
    obtain ⟨X, hX⟩ : ∃ X, X = (W.setCell ⟨w.heap.size, 0, none⟩ (.int .i64 5)).drew := ⟨_, rfl⟩
    have HX := Lib.hid (of_stored hX HK.out.2.1 HI.out.2.2.2.1 HI.out.2.2.2.2.1 HK.out.2.2.2.2.1)
    rw [← hX]
    clear hX hz hzf hcW hix
    obtain ⟨d0, d1, d2, d3, d4, d5, d6, d7, d8, d9⟩ := acCells HX.out.1
    have z0 := HX.out.1.frozen 0
    have z1 := HX.out.1.frozen 1
    have z2 := HX.out.1.frozen 2
    have z3 := HX.out.1.frozen 3
    have z4 := HX.out.1.frozen 4
    have z5 := HX.out.1.frozen 5
    have z6 := HX.out.1.frozen 6
    have z7 := HX.out.1.frozen 7
    have z8 := HX.out.1.frozen 8
    have z9 := HX.out.1.frozen 9
    have HQ := Lib.hid (show ofL (sOpen :: f) = some (⟨5, 0, Cl.zero, 0, 0, []⟩, 1) from ofL_open_yes f (by have := HI.out.2.2.2.2.2.2.1; have := HM.out; omega))
    go_wp2_with fail
    refine bodyPost_ret (res_of (a := ⟨5, 0, Cl.zero, 0, 0, []⟩) (put10_blk HX.out.1 rfl ⟨5, 0, Cl.zero, 0, 0, []⟩ _) rfl rfl) rfl ⟨put10_below HX.out.2.2.2 (Nat.le_refl _) ⟨5, 0, Cl.zero, 0, 0, []⟩ _, ?_⟩
    rw [HQ.out]
    exact ⟨_, rfl, RowR.nil _ _, Fresh.nil _⟩
  · have e1 : ((m : Int) == 0) = false := by simp; omega
    have HQ := Lib.hid (show ofL (sOpen :: f) = none from ofL_open_no f (by have := HI.out.2.2.2.2.2.2.1; omega))
    clear hw
    go_wp2_with fail
    refine (check_no _ _).mono ?_; rintro e w3 ⟨rfl, rfl⟩
    refine ⟨rfl, HI.out.2.1, ?_⟩
    rw [HQ.out]

set_option maxHeartbeats 4000000 in
set_option maxRecDepth 100000 in
theorem of_scavenge {w : World} (f : List Bs) (A : Option Addr) (c : Nat) (hv : StrsAt w (.slice A (f.length + 1) c) (sScavenge :: f)) (hl : ∀ x ∈ f, x.length ≤ 1000000) (hN : f.length ≤ 1000000) (E : Env w) :
    Calls Tryz.prog 25 #[.slice A (f.length + 1) c] w (OfPost w (sScavenge :: f)) := by
  obtain ⟨lb, lo, rfl, _, c0⟩ := hv.cell (k := 0) (x := sScavenge) rfl
  obtain ⟨W0, hW0⟩ : ∃ W, W = w.alloc (.cells zCs 40) := ⟨_, rfl⟩
  have hc0 : W0.cell? ⟨lb, lo, none⟩ = some (.string (mk sScavenge)) := by
    rw [hW0, World.cell?_alloc_lt _ _ _ (lt_of_cell c0)]; exact c0
  have hcl := lt_of_cell hc0
  have hz0 : Blk W0 w.heap.size 40 zCs := by rw [hW0]; exact Blk.new _ _ _
  have hb0 : Below w.heap.size w W0 := by rw [hW0]; exact (Below.refl _ _).alloc (Nat.le_refl _) _
  obtain ⟨W2, W3, W4, W5, W6, r2, r3, r4, r5, r6, hb6, hlk⟩ := want_any W0
  have hlk6 := hlk sScavenge
  rw [show getS wantL sScavenge = some (.int .i64 0) from rfl] at hlk6
  have hcap : f.length + 1 ≤ c := by
    obtain ⟨A', c', e, h2, _⟩ := hv
    cases e; exact h2
  have hc6 : W6.cell? ⟨lb, lo, none⟩ = some (.string (mk sScavenge)) := by
    rw [hb6.cell (p := ⟨lb, lo, none⟩) hcl]; exact hc0
  have hmm := @run_makeMap Tryz.prog
  obtain ⟨len, hlen⟩ : ∃ n, n = f.length + 1 := ⟨_, rfl⟩
  obtain ⟨m, hm⟩ : ∃ m, m = f.length := ⟨_, rfl⟩
  obtain ⟨A2, hA2⟩ : ∃ A2, (if c = 1 then some (⟨lb, lo, none⟩ : Addr) else some ⟨lb, lo + 1, none⟩) = A2 := ⟨_, rfl⟩
  obtain ⟨c2, hc2⟩ : ∃ c2, c - 1 = c2 := ⟨_, rfl⟩
  have hf0 : StrsAt w (.slice A2 m c2) f := by rw [← hA2, ← hc2, hm]; exact tail_at hv hcap
  have hml : len - 1 = m := by omega
  have hbd6 : Below w.heap.size w W6 := hb0.trans (hb6.mono hb0.size)
  have HI := Lib.hid (And.intro hb6 (And.intro hbd6 (And.intro (hz0.below hb6 hz0.lt) (And.intro hf0 (And.intro E (And.intro hl (And.intro hm (And.intro hN (And.intro hz0 hc6)))))))))
  rw [← hlen] at hv hcap ⊢
  have hi1 : (1 : Int) ≤ (len : Int) := by omega
  have hi0 : 0 < len := by omega
  clear hlen hlk hv hl hb0 hz0 hf0 hbd6 E hm hN c0 hc0 hcl hcap
  go_enter Tryz.func25, Tryz.ntmps25
  go_upto_region 1 with fail
  rw [← hW0]
  clear hW0
  go_upto_region 2 with fail
  clear hA2 hml hc2 hi1
  by_cases hw : m = 0
  · have e1 : ((m : Int) == 0) = true := by simp; omega
    have HM := Lib.hid hw; clear hw
    go_wp2_with fail
    refine (check_yes _ _).mono ?_; rintro e w3 ⟨rfl, rfl⟩
    go_wp2_with fail
    refine (kinds_any _).mono ?_; rintro e w4 ⟨rfl, hb4⟩
    go_upto_region 8 with fail
    obtain ⟨W, hW⟩ : ∃ W, W = w4.alloc (.cells #[.string (mk sNone), .string (mk sInvoke), .string (mk sPick), .string (mk sEvict), .string (mk sCrash), .string (mk sOpen), .string (mk sScavenge), .string (mk sBoot)] 92) := ⟨_, rfl⟩
    have HK := Lib.hid (of_kinds hW hb4 HI.out.2.1 HI.out.2.2.1 HI.out.2.2.2.1 HI.out.2.2.2.2.1)
    have hcW : W.cell? ⟨lb, lo, none⟩ = some (.string (mk sScavenge)) := by
      have hlt := lt_of_cell HI.out.2.2.2.2.2.2.2.2.2
      rw [hW, World.cell?_alloc_lt _ _ _ (Nat.lt_of_lt_of_le hlt hb4.size), hb4.cell (p := ⟨lb, lo, none⟩) hlt]; exact HI.out.2.2.2.2.2.2.2.2.2
    have hz := HK.out.2.1.cell 0
    have hzf := HK.out.2.1.frozen 0
    have hix : idx sScavenge kindsL 0 = 6 := by decide
    rw [← hW]
    clear hW hb4 hc6
    go_region_with (first | (go_at_call 48; refine (index_any (l := kindsL) sScavenge (kinds_row HK.out.1.drew) (by decide)).mono ?_; rintro e w5 ⟨rfl, rfl⟩; rw [hix]))
    obtain ⟨X, hX⟩ : ∃ X, X = (W.setCell ⟨w.heap.size, 0, none⟩ (.int .i64 6)).drew := ⟨_, rfl⟩
    have HX := Lib.hid (of_stored hX HK.out.2.1 HI.out.2.2.2.1 HI.out.2.2.2.2.1 HK.out.2.2.2.2.1)
    rw [← hX]
    clear hX hz hzf hcW hix
    obtain ⟨d0, d1, d2, d3, d4, d5, d6, d7, d8, d9⟩ := acCells HX.out.1
    have z0 := HX.out.1.frozen 0
    have z1 := HX.out.1.frozen 1
    have z2 := HX.out.1.frozen 2
    have z3 := HX.out.1.frozen 3
    have z4 := HX.out.1.frozen 4
    have z5 := HX.out.1.frozen 5
    have z6 := HX.out.1.frozen 6
    have z7 := HX.out.1.frozen 7
    have z8 := HX.out.1.frozen 8
    have z9 := HX.out.1.frozen 9
    have HQ := Lib.hid (show ofL (sScavenge :: f) = some (⟨6, 0, Cl.zero, 0, 0, []⟩, 1) from ofL_scavenge_yes f (by have := HI.out.2.2.2.2.2.2.1; have := HM.out; omega))
    go_wp2_with fail
    refine bodyPost_ret (res_of (a := ⟨6, 0, Cl.zero, 0, 0, []⟩) (put10_blk HX.out.1 rfl ⟨6, 0, Cl.zero, 0, 0, []⟩ _) rfl rfl) rfl ⟨put10_below HX.out.2.2.2 (Nat.le_refl _) ⟨6, 0, Cl.zero, 0, 0, []⟩ _, ?_⟩
    rw [HQ.out]
    exact ⟨_, rfl, RowR.nil _ _, Fresh.nil _⟩
  · have e1 : ((m : Int) == 0) = false := by simp; omega
    have HQ := Lib.hid (show ofL (sScavenge :: f) = none from ofL_scavenge_no f (by have := HI.out.2.2.2.2.2.2.1; omega))
    clear hw
    go_wp2_with fail
    refine (check_no _ _).mono ?_; rintro e w3 ⟨rfl, rfl⟩
    refine ⟨rfl, HI.out.2.1, ?_⟩
    rw [HQ.out]

set_option maxHeartbeats 4000000 in
set_option maxRecDepth 100000 in
theorem of_boot {w : World} (f : List Bs) (A : Option Addr) (c : Nat) (hv : StrsAt w (.slice A (f.length + 1) c) (sBoot :: f)) (hl : ∀ x ∈ f, x.length ≤ 1000000) (hN : f.length ≤ 1000000) (E : Env w) :
    Calls Tryz.prog 25 #[.slice A (f.length + 1) c] w (OfPost w (sBoot :: f)) := by
  obtain ⟨lb, lo, rfl, _, c0⟩ := hv.cell (k := 0) (x := sBoot) rfl
  obtain ⟨W0, hW0⟩ : ∃ W, W = w.alloc (.cells zCs 40) := ⟨_, rfl⟩
  have hc0 : W0.cell? ⟨lb, lo, none⟩ = some (.string (mk sBoot)) := by
    rw [hW0, World.cell?_alloc_lt _ _ _ (lt_of_cell c0)]; exact c0
  have hcl := lt_of_cell hc0
  have hz0 : Blk W0 w.heap.size 40 zCs := by rw [hW0]; exact Blk.new _ _ _
  have hb0 : Below w.heap.size w W0 := by rw [hW0]; exact (Below.refl _ _).alloc (Nat.le_refl _) _
  obtain ⟨W2, W3, W4, W5, W6, r2, r3, r4, r5, r6, hb6, hlk⟩ := want_any W0
  have hlk6 := hlk sBoot
  rw [show getS wantL sBoot = some (.int .i64 1) from rfl] at hlk6
  have hcap : f.length + 1 ≤ c := by
    obtain ⟨A', c', e, h2, _⟩ := hv
    cases e; exact h2
  have hc6 : W6.cell? ⟨lb, lo, none⟩ = some (.string (mk sBoot)) := by
    rw [hb6.cell (p := ⟨lb, lo, none⟩) hcl]; exact hc0
  have hmm := @run_makeMap Tryz.prog
  obtain ⟨len, hlen⟩ : ∃ n, n = f.length + 1 := ⟨_, rfl⟩
  obtain ⟨m, hm⟩ : ∃ m, m = f.length := ⟨_, rfl⟩
  obtain ⟨A2, hA2⟩ : ∃ A2, (if c = 1 then some (⟨lb, lo, none⟩ : Addr) else some ⟨lb, lo + 1, none⟩) = A2 := ⟨_, rfl⟩
  obtain ⟨c2, hc2⟩ : ∃ c2, c - 1 = c2 := ⟨_, rfl⟩
  have hf0 : StrsAt w (.slice A2 m c2) f := by rw [← hA2, ← hc2, hm]; exact tail_at hv hcap
  have hml : len - 1 = m := by omega
  have hbd6 : Below w.heap.size w W6 := hb0.trans (hb6.mono hb0.size)
  have HI := Lib.hid (And.intro hb6 (And.intro hbd6 (And.intro (hz0.below hb6 hz0.lt) (And.intro hf0 (And.intro E (And.intro hl (And.intro hm (And.intro hN (And.intro hz0 hc6)))))))))
  rw [← hlen] at hv hcap ⊢
  have hi1 : (1 : Int) ≤ (len : Int) := by omega
  have hi0 : 0 < len := by omega
  clear hlen hlk hv hl hb0 hz0 hf0 hbd6 E hm hN c0 hc0 hcl hcap
  go_enter Tryz.func25, Tryz.ntmps25
  go_upto_region 1 with fail
  rw [← hW0]
  clear hW0
  go_upto_region 2 with fail
  clear hA2 hml hc2 hi1
  by_cases hw : m = 1
  · have e1 : ((m : Int) == 1) = true := by simp; omega
    have HM := Lib.hid hw; clear hw
    go_wp2_with fail
    refine (check_yes _ _).mono ?_; rintro e w3 ⟨rfl, rfl⟩
    go_wp2_with fail
    refine (kinds_any _).mono ?_; rintro e w4 ⟨rfl, hb4⟩
    go_upto_region 8 with fail
    obtain ⟨W, hW⟩ : ∃ W, W = w4.alloc (.cells #[.string (mk sNone), .string (mk sInvoke), .string (mk sPick), .string (mk sEvict), .string (mk sCrash), .string (mk sOpen), .string (mk sScavenge), .string (mk sBoot)] 92) := ⟨_, rfl⟩
    have HK := Lib.hid (of_kinds hW hb4 HI.out.2.1 HI.out.2.2.1 HI.out.2.2.2.1 HI.out.2.2.2.2.1)
    have hcW : W.cell? ⟨lb, lo, none⟩ = some (.string (mk sBoot)) := by
      have hlt := lt_of_cell HI.out.2.2.2.2.2.2.2.2.2
      rw [hW, World.cell?_alloc_lt _ _ _ (Nat.lt_of_lt_of_le hlt hb4.size), hb4.cell (p := ⟨lb, lo, none⟩) hlt]; exact HI.out.2.2.2.2.2.2.2.2.2
    have hz := HK.out.2.1.cell 0
    have hzf := HK.out.2.1.frozen 0
    have hix : idx sBoot kindsL 0 = 7 := by decide
    rw [← hW]
    clear hW hb4 hc6
    go_region_with (first | (go_at_call 48; refine (index_any (l := kindsL) sBoot (kinds_row HK.out.1.drew) (by decide)).mono ?_; rintro e w5 ⟨rfl, rfl⟩; rw [hix]))
    obtain ⟨X, hX⟩ : ∃ X, X = (W.setCell ⟨w.heap.size, 0, none⟩ (.int .i64 7)).drew := ⟨_, rfl⟩
    have HX := Lib.hid (of_stored hX HK.out.2.1 HI.out.2.2.2.1 HI.out.2.2.2.2.1 HK.out.2.2.2.2.1)
    rw [← hX]
    clear hX hz hzf hcW hix
    obtain ⟨d0, d1, d2, d3, d4, d5, d6, d7, d8, d9⟩ := acCells HX.out.1
    have z0 := HX.out.1.frozen 0
    have z1 := HX.out.1.frozen 1
    have z2 := HX.out.1.frozen 2
    have z3 := HX.out.1.frozen 3
    have z4 := HX.out.1.frozen 4
    have z5 := HX.out.1.frozen 5
    have z6 := HX.out.1.frozen 6
    have z7 := HX.out.1.frozen 7
    have z8 := HX.out.1.frozen 8
    have z9 := HX.out.1.frozen 9
    obtain ⟨x, rfl⟩ := lenOne (l := f) (by have := HI.out.2.2.2.2.2.2.1; have := HM.out; omega)
    obtain ⟨xb, xo, rfl, _, cx⟩ := HX.out.2.1.cell (k := 0) (x := x) rfl
    rw [Nat.add_zero] at cx
    have hi2 : 0 < m := by have := HM.out; omega
    cases hax : whole x 1 maxScript with
    | none =>
      have HA := Lib.hid hax; clear hax
      have HQ := Lib.hid (show ofL [sBoot, x] = none by rw [ofL_boot, HA.out]; rfl)
      go_wp2_with fail
      refine (whole_any x (HI.out.2.2.2.2.2.1 x (by simp)) 1 100000 (by decide) (by decide) (by decide) (by decide) HX.out.2.2.1).mono ?_; rintro e w6 ⟨hb6, he⟩
      rw [show whole x 1 100000 = none from HA.out] at he
      obtain rfl := he
      refine ⟨rfl, HX.out.2.2.2.trans (hb6.mono HX.out.2.2.2.size), ?_⟩
      rw [HQ.out]
    | some n =>
      have HA := Lib.hid hax; clear hax
      have HQ := Lib.hid (show ofL [sBoot, x] = some (⟨7, 0, Cl.zero, 0, 0, []⟩, n) by rw [ofL_boot, HA.out]; rfl)
      go_wp2_with fail
      refine (whole_any x (HI.out.2.2.2.2.2.1 x (by simp)) 1 100000 (by decide) (by decide) (by decide) (by decide) HX.out.2.2.1).mono ?_; rintro e w7 ⟨hb7, he⟩
      rw [show whole x 1 100000 = some n from HA.out] at he
      obtain rfl := he
      have H7 := Lib.hid (And.intro (HX.out.1.below hb7 HX.out.1.lt) (HX.out.2.2.2.trans (hb7.mono HX.out.2.2.2.size)))
      clear hb7 cx
      clear d0 d1 d2 d3 d4 d5 d6 d7 d8 d9 z0 z1 z2 z3 z4 z5 z6 z7 z8 z9
      obtain ⟨d0, d1, d2, d3, d4, d5, d6, d7, d8, d9⟩ := acCells H7.out.1
      have z0 := H7.out.1.frozen 0
      have z1 := H7.out.1.frozen 1
      have z2 := H7.out.1.frozen 2
      have z3 := H7.out.1.frozen 3
      have z4 := H7.out.1.frozen 4
      have z5 := H7.out.1.frozen 5
      have z6 := H7.out.1.frozen 6
      have z7 := H7.out.1.frozen 7
      have z8 := H7.out.1.frozen 8
      have z9 := H7.out.1.frozen 9
      go_wp2_with fail
      refine bodyPost_ret (res_of (a := ⟨7, 0, Cl.zero, 0, 0, []⟩) (put10_blk H7.out.1 rfl ⟨7, 0, Cl.zero, 0, 0, []⟩ _) rfl rfl) rfl ⟨put10_below H7.out.2 (Nat.le_refl _) ⟨7, 0, Cl.zero, 0, 0, []⟩ _, ?_⟩
      rw [HQ.out]
      exact ⟨_, rfl, RowR.nil _ _, Fresh.nil _⟩
  · have e1 : ((m : Int) == 1) = false := by simp; omega
    have HQ := Lib.hid (show ofL (sBoot :: f) = none from ofL_boot_no f (by have := HI.out.2.2.2.2.2.2.1; omega))
    clear hw
    go_wp2_with fail
    refine (check_no _ _).mono ?_; rintro e w3 ⟨rfl, rfl⟩
    refine ⟨rfl, HI.out.2.1, ?_⟩
    rw [HQ.out]

set_option maxHeartbeats 4000000 in
set_option maxRecDepth 100000 in
theorem of_pick {w : World} (f : List Bs) (A : Option Addr) (c : Nat) (hv : StrsAt w (.slice A (f.length + 1) c) (sPick :: f)) (hl : ∀ x ∈ f, x.length ≤ 1000000) (hN : f.length ≤ 1000000) (E : Env w) :
    Calls Tryz.prog 25 #[.slice A (f.length + 1) c] w (OfPost w (sPick :: f)) := by
  obtain ⟨lb, lo, rfl, _, c0⟩ := hv.cell (k := 0) (x := sPick) rfl
  obtain ⟨W0, hW0⟩ : ∃ W, W = w.alloc (.cells zCs 40) := ⟨_, rfl⟩
  have hc0 : W0.cell? ⟨lb, lo, none⟩ = some (.string (mk sPick)) := by
    rw [hW0, World.cell?_alloc_lt _ _ _ (lt_of_cell c0)]; exact c0
  have hcl := lt_of_cell hc0
  have hz0 : Blk W0 w.heap.size 40 zCs := by rw [hW0]; exact Blk.new _ _ _
  have hb0 : Below w.heap.size w W0 := by rw [hW0]; exact (Below.refl _ _).alloc (Nat.le_refl _) _
  obtain ⟨W2, W3, W4, W5, W6, r2, r3, r4, r5, r6, hb6, hlk⟩ := want_any W0
  have hlk6 := hlk sPick
  rw [show getS wantL sPick = some (.int .i64 2) from rfl] at hlk6
  have hcap : f.length + 1 ≤ c := by
    obtain ⟨A', c', e, h2, _⟩ := hv
    cases e; exact h2
  have hc6 : W6.cell? ⟨lb, lo, none⟩ = some (.string (mk sPick)) := by
    rw [hb6.cell (p := ⟨lb, lo, none⟩) hcl]; exact hc0
  have hmm := @run_makeMap Tryz.prog
  obtain ⟨len, hlen⟩ : ∃ n, n = f.length + 1 := ⟨_, rfl⟩
  obtain ⟨m, hm⟩ : ∃ m, m = f.length := ⟨_, rfl⟩
  obtain ⟨A2, hA2⟩ : ∃ A2, (if c = 1 then some (⟨lb, lo, none⟩ : Addr) else some ⟨lb, lo + 1, none⟩) = A2 := ⟨_, rfl⟩
  obtain ⟨c2, hc2⟩ : ∃ c2, c - 1 = c2 := ⟨_, rfl⟩
  have hf0 : StrsAt w (.slice A2 m c2) f := by rw [← hA2, ← hc2, hm]; exact tail_at hv hcap
  have hml : len - 1 = m := by omega
  have hbd6 : Below w.heap.size w W6 := hb0.trans (hb6.mono hb0.size)
  have HI := Lib.hid (And.intro hb6 (And.intro hbd6 (And.intro (hz0.below hb6 hz0.lt) (And.intro hf0 (And.intro E (And.intro hl (And.intro hm (And.intro hN (And.intro hz0 hc6)))))))))
  rw [← hlen] at hv hcap ⊢
  have hi1 : (1 : Int) ≤ (len : Int) := by omega
  have hi0 : 0 < len := by omega
  clear hlen hlk hv hl hb0 hz0 hf0 hbd6 E hm hN c0 hc0 hcl hcap
  go_enter Tryz.func25, Tryz.ntmps25
  go_upto_region 1 with fail
  rw [← hW0]
  clear hW0
  go_upto_region 2 with fail
  clear hA2 hml hc2 hi1
  by_cases hw : m = 2
  · have e1 : ((m : Int) == 2) = true := by simp; omega
    have HM := Lib.hid hw; clear hw
    go_wp2_with fail
    refine (check_yes _ _).mono ?_; rintro e w3 ⟨rfl, rfl⟩
    go_wp2_with fail
    refine (kinds_any _).mono ?_; rintro e w4 ⟨rfl, hb4⟩
    go_upto_region 8 with fail
    obtain ⟨W, hW⟩ : ∃ W, W = w4.alloc (.cells #[.string (mk sNone), .string (mk sInvoke), .string (mk sPick), .string (mk sEvict), .string (mk sCrash), .string (mk sOpen), .string (mk sScavenge), .string (mk sBoot)] 92) := ⟨_, rfl⟩
    have HK := Lib.hid (of_kinds hW hb4 HI.out.2.1 HI.out.2.2.1 HI.out.2.2.2.1 HI.out.2.2.2.2.1)
    have hcW : W.cell? ⟨lb, lo, none⟩ = some (.string (mk sPick)) := by
      have hlt := lt_of_cell HI.out.2.2.2.2.2.2.2.2.2
      rw [hW, World.cell?_alloc_lt _ _ _ (Nat.lt_of_lt_of_le hlt hb4.size), hb4.cell (p := ⟨lb, lo, none⟩) hlt]; exact HI.out.2.2.2.2.2.2.2.2.2
    have hz := HK.out.2.1.cell 0
    have hzf := HK.out.2.1.frozen 0
    have hix : idx sPick kindsL 0 = 2 := by decide
    rw [← hW]
    clear hW hb4 hc6
    go_region_with (first | (go_at_call 48; refine (index_any (l := kindsL) sPick (kinds_row HK.out.1.drew) (by decide)).mono ?_; rintro e w5 ⟨rfl, rfl⟩; rw [hix]))
    obtain ⟨X, hX⟩ : ∃ X, X = (W.setCell ⟨w.heap.size, 0, none⟩ (.int .i64 2)).drew := ⟨_, rfl⟩
    have HX := Lib.hid (of_stored hX HK.out.2.1 HI.out.2.2.2.1 HI.out.2.2.2.2.1 HK.out.2.2.2.2.1)
    rw [← hX]
    clear hX hz hzf hcW hix
    obtain ⟨d0, d1, d2, d3, d4, d5, d6, d7, d8, d9⟩ := acCells HX.out.1
    have z0 := HX.out.1.frozen 0
    have z1 := HX.out.1.frozen 1
    have z2 := HX.out.1.frozen 2
    have z3 := HX.out.1.frozen 3
    have z4 := HX.out.1.frozen 4
    have z5 := HX.out.1.frozen 5
    have z6 := HX.out.1.frozen 6
    have z7 := HX.out.1.frozen 7
    have z8 := HX.out.1.frozen 8
    have z9 := HX.out.1.frozen 9
    obtain ⟨x, y, rfl⟩ := lenTwo (l := f) (by have := HI.out.2.2.2.2.2.2.1; have := HM.out; omega)
    have hi2 : 0 < m := by have := HM.out; omega
    have hi3 : 1 < m := by have := HM.out; omega
    have hi4 : (1 : Int) < (m : Int) := by omega
    obtain ⟨xb, xo, rfl, _, cx⟩ := HX.out.2.1.cell (k := 0) (x := x) rfl
    clear cx
    have HS := Lib.hid (two_cells HI.out.2.2.2.1)
    have hq0 : Below w.heap.size w X.drew := HX.out.2.2.2.drew
    have hqb := HX.out.1.drew
    go_upto_region 15 with fail
    clear d0 d1 d2 d3 d4 d5 d6 d7 d8 d9 z0 z1 z2 z3 z4 z5 z6 z7 z8 z9
    cases hax : whole x 0 1099511627776 with
    | none =>
      have HA := Lib.hid hax; clear hax
      have HQ := Lib.hid (show ofL [sPick, x, y] = none by rw [ofL_pick, HA.out])
      obtain ⟨c0, c1, _⟩ := HS.out X HX.out.2.2.2
      have q1 : X.cell? ⟨w.heap.size, 1, none⟩ = some (.int .i64 0) := HX.out.1.cell 1
      have p1 := HX.out.1.frozen 1
      go_region_with (first
        | (go_at_call 23
           refine calls_absurd hF (.int .i64 0) ?_)
        | (go_at_call 23
           refine calls_panics (.int .i64 0) (whole_any x (HI.out.2.2.2.2.2.1 x (by simp)) 0 1099511627776 (by decide) (by decide) (by decide) (by decide) (HI.out.2.2.2.2.1.next hq0)) ?_ (fun hF => ?_)
           · rintro e w6 ⟨hb6, he⟩
             rw [show whole x 0 1099511627776 = none from HA.out] at he
             obtain rfl := he
             refine ⟨_, rfl, rfl, hq0.trans (hb6.mono hq0.size), ?_⟩
             rw [HQ.out]))
      all_goals exact hF.out.elim
    | some v1 =>
      have HA := Lib.hid hax; clear hax
      cases hay : whole y 1 100000 with
      | none =>
        have HB := Lib.hid hay; clear hay
        have HQ := Lib.hid (show ofL [sPick, x, y] = none by rw [ofL_pick, HA.out, HB.out])
        obtain ⟨c0, c1, _⟩ := HS.out X HX.out.2.2.2
        go_region_with (first
          | (go_at_call 23
             with_reducible refine (whole_any x (HI.out.2.2.2.2.2.1 x (by simp)) 0 1099511627776 (by decide) (by decide) (by decide) (by decide) (HI.out.2.2.2.2.1.next hq0)).mono ?_
             rintro e w6 ⟨hb6, he⟩
             rw [show whole x 0 1099511627776 = some v1 from HA.out] at he
             obtain rfl := he
             have K6 : Below w.heap.size w w6 := Below.trans hq0 (hb6.mono hq0.size)
             obtain ⟨f0, f1, _⟩ := HS.out w6 K6
             have B6 := hqb.below hb6 hqb.lt
             have q1 : w6.cell? ⟨w.heap.size, 1, none⟩ = some (.int .i64 0) := B6.cell 1
             have p1 := B6.frozen 1)
          | (go_at_call 23
             with_reducible refine calls_panics (.int .i64 0) (whole_any y (HI.out.2.2.2.2.2.1 y (by simp)) 1 100000 (by decide) (by decide) (by decide) (by decide) (HI.out.2.2.2.2.1.next K6)) ?_ (fun hF => ?_)
             · rintro e w7 ⟨hb7, he⟩
               rw [show whole y 1 100000 = none from HB.out] at he
               obtain rfl := he
               refine ⟨_, rfl, rfl, K6.trans (hb7.mono K6.size), ?_⟩
               rw [HQ.out]))
        all_goals exact hF.out.elim
      | some v2 =>
        have HB := Lib.hid hay; clear hay
        have HQ := Lib.hid (show ofL [sPick, x, y] = some (⟨2, v1, Cl.zero, 0, 0, []⟩, v2) by rw [ofL_pick, HA.out, HB.out])
        go_region_held3 (fun wx => wx.cell? ⟨xb, xo, none⟩ = some (.string (mk x)) ∧ wx.cell? ⟨xb, xo + 1, none⟩ = some (.string (mk y)) ∧ Below w.heap.size w wx)
          (first | (with_reducible exact HS.out _ (by assumption)) | (with_reducible exact HS.out _ (K7.setCell (p := ⟨w.heap.size, 1, none⟩) (Nat.le_refl _) _)))
          (first
            | (go_at_call 23
               with_reducible refine (whole_any x (HI.out.2.2.2.2.2.1 x (by simp)) 0 1099511627776 (by decide) (by decide) (by decide) (by decide) (HI.out.2.2.2.2.1.next hq0)).mono ?_
               rintro e w6 ⟨hb6, he⟩
               rw [show whole x 0 1099511627776 = some v1 from HA.out] at he
               obtain rfl := he
               have K6 : Below w.heap.size w w6 := Below.trans hq0 (hb6.mono hq0.size)
               have B6 := hqb.below hb6 hqb.lt)
            | (go_at_call 23
               with_reducible refine (whole_any y (HI.out.2.2.2.2.2.1 y (by simp)) 1 100000 (by decide) (by decide) (by decide) (by decide) (HI.out.2.2.2.2.1.next K6)).mono ?_
               rintro e w7 ⟨hb7, he⟩
               rw [show whole y 1 100000 = some v2 from HB.out] at he
               obtain rfl := he
               have K7 : Below w.heap.size w w7 := Below.trans K6 (hb7.mono K6.size)
               have B7 := B6.below hb7 B6.lt
               have q1 : w7.cell? ⟨w.heap.size, 1, none⟩ = some (.int .i64 0) := B7.cell 1
               have p1 := B7.frozen 1))
        have H9 := Lib.hid (And.intro (show Blk (w7.setCell ⟨w.heap.size, 1, none⟩ (.int .i64 v1)) w.heap.size 40 (acC ⟨2, v1, Cl.zero, 0, 0, []⟩ (.slice none 0 0)) from (B7.set_ 1 (.int .i64 v1))) ((K7.setCell (p := ⟨w.heap.size, 1, none⟩) (Nat.le_refl _) (.int .i64 v1))))
        obtain ⟨w9, hw9⟩ : ∃ w9, w9 = (w7.setCell ⟨w.heap.size, 1, none⟩ (.int .i64 v1)) := ⟨_, rfl⟩
        rw [← hw9] at H9 ⊢
        clear hw9 B7 B6 K6 K7 hb6 hb7 q1 p1
        obtain ⟨d0, d1, d2, d3, d4, d5, d6, d7, d8, d9⟩ := acCells H9.out.1
        have z0 := H9.out.1.frozen 0
        have z1 := H9.out.1.frozen 1
        have z2 := H9.out.1.frozen 2
        have z3 := H9.out.1.frozen 3
        have z4 := H9.out.1.frozen 4
        have z5 := H9.out.1.frozen 5
        have z6 := H9.out.1.frozen 6
        have z7 := H9.out.1.frozen 7
        have z8 := H9.out.1.frozen 8
        have z9 := H9.out.1.frozen 9
        go_wp2_with fail
        refine bodyPost_ret (res_of (a := ⟨2, v1, Cl.zero, 0, 0, []⟩) (put10_blk H9.out.1 rfl ⟨2, v1, Cl.zero, 0, 0, []⟩ _) rfl rfl) rfl ⟨put10_below H9.out.2 (Nat.le_refl _) ⟨2, v1, Cl.zero, 0, 0, []⟩ _, ?_⟩
        rw [HQ.out]
        exact ⟨_, rfl, RowR.nil _ _, Fresh.nil _⟩
  · have e1 : ((m : Int) == 2) = false := by simp; omega
    have HQ := Lib.hid (show ofL (sPick :: f) = none from ofL_pick_no f (by have := HI.out.2.2.2.2.2.2.1; omega))
    clear hw
    go_wp2_with fail
    refine (check_no _ _).mono ?_; rintro e w3 ⟨rfl, rfl⟩
    refine ⟨rfl, HI.out.2.1, ?_⟩
    rw [HQ.out]

set_option maxHeartbeats 4000000 in
set_option maxRecDepth 100000 in
theorem of_evict {w : World} (f : List Bs) (A : Option Addr) (c : Nat) (hv : StrsAt w (.slice A (f.length + 1) c) (sEvict :: f)) (hl : ∀ x ∈ f, x.length ≤ 1000000) (hN : f.length ≤ 1000000) (E : Env w) :
    Calls Tryz.prog 25 #[.slice A (f.length + 1) c] w (OfPost w (sEvict :: f)) := by
  obtain ⟨lb, lo, rfl, _, c0⟩ := hv.cell (k := 0) (x := sEvict) rfl
  obtain ⟨W0, hW0⟩ : ∃ W, W = w.alloc (.cells zCs 40) := ⟨_, rfl⟩
  have hc0 : W0.cell? ⟨lb, lo, none⟩ = some (.string (mk sEvict)) := by
    rw [hW0, World.cell?_alloc_lt _ _ _ (lt_of_cell c0)]; exact c0
  have hcl := lt_of_cell hc0
  have hz0 : Blk W0 w.heap.size 40 zCs := by rw [hW0]; exact Blk.new _ _ _
  have hb0 : Below w.heap.size w W0 := by rw [hW0]; exact (Below.refl _ _).alloc (Nat.le_refl _) _
  obtain ⟨W2, W3, W4, W5, W6, r2, r3, r4, r5, r6, hb6, hlk⟩ := want_any W0
  have hlk6 := hlk sEvict
  rw [show getS wantL sEvict = some (.int .i64 2) from rfl] at hlk6
  have hcap : f.length + 1 ≤ c := by
    obtain ⟨A', c', e, h2, _⟩ := hv
    cases e; exact h2
  have hc6 : W6.cell? ⟨lb, lo, none⟩ = some (.string (mk sEvict)) := by
    rw [hb6.cell (p := ⟨lb, lo, none⟩) hcl]; exact hc0
  have hmm := @run_makeMap Tryz.prog
  obtain ⟨len, hlen⟩ : ∃ n, n = f.length + 1 := ⟨_, rfl⟩
  obtain ⟨m, hm⟩ : ∃ m, m = f.length := ⟨_, rfl⟩
  obtain ⟨A2, hA2⟩ : ∃ A2, (if c = 1 then some (⟨lb, lo, none⟩ : Addr) else some ⟨lb, lo + 1, none⟩) = A2 := ⟨_, rfl⟩
  obtain ⟨c2, hc2⟩ : ∃ c2, c - 1 = c2 := ⟨_, rfl⟩
  have hf0 : StrsAt w (.slice A2 m c2) f := by rw [← hA2, ← hc2, hm]; exact tail_at hv hcap
  have hml : len - 1 = m := by omega
  have hbd6 : Below w.heap.size w W6 := hb0.trans (hb6.mono hb0.size)
  have HI := Lib.hid (And.intro hb6 (And.intro hbd6 (And.intro (hz0.below hb6 hz0.lt) (And.intro hf0 (And.intro E (And.intro hl (And.intro hm (And.intro hN (And.intro hz0 hc6)))))))))
  rw [← hlen] at hv hcap ⊢
  have hi1 : (1 : Int) ≤ (len : Int) := by omega
  have hi0 : 0 < len := by omega
  clear hlen hlk hv hl hb0 hz0 hf0 hbd6 E hm hN c0 hc0 hcl hcap
  go_enter Tryz.func25, Tryz.ntmps25
  go_upto_region 1 with fail
  rw [← hW0]
  clear hW0
  go_upto_region 2 with fail
  clear hA2 hml hc2 hi1
  by_cases hw : m = 2
  · have e1 : ((m : Int) == 2) = true := by simp; omega
    have HM := Lib.hid hw; clear hw
    go_wp2_with fail
    refine (check_yes _ _).mono ?_; rintro e w3 ⟨rfl, rfl⟩
    go_wp2_with fail
    refine (kinds_any _).mono ?_; rintro e w4 ⟨rfl, hb4⟩
    go_upto_region 8 with fail
    obtain ⟨W, hW⟩ : ∃ W, W = w4.alloc (.cells #[.string (mk sNone), .string (mk sInvoke), .string (mk sPick), .string (mk sEvict), .string (mk sCrash), .string (mk sOpen), .string (mk sScavenge), .string (mk sBoot)] 92) := ⟨_, rfl⟩
    have HK := Lib.hid (of_kinds hW hb4 HI.out.2.1 HI.out.2.2.1 HI.out.2.2.2.1 HI.out.2.2.2.2.1)
    have hcW : W.cell? ⟨lb, lo, none⟩ = some (.string (mk sEvict)) := by
      have hlt := lt_of_cell HI.out.2.2.2.2.2.2.2.2.2
      rw [hW, World.cell?_alloc_lt _ _ _ (Nat.lt_of_lt_of_le hlt hb4.size), hb4.cell (p := ⟨lb, lo, none⟩) hlt]; exact HI.out.2.2.2.2.2.2.2.2.2
    have hz := HK.out.2.1.cell 0
    have hzf := HK.out.2.1.frozen 0
    have hix : idx sEvict kindsL 0 = 3 := by decide
    rw [← hW]
    clear hW hb4 hc6
    go_region_with (first | (go_at_call 48; refine (index_any (l := kindsL) sEvict (kinds_row HK.out.1.drew) (by decide)).mono ?_; rintro e w5 ⟨rfl, rfl⟩; rw [hix]))
    obtain ⟨X, hX⟩ : ∃ X, X = (W.setCell ⟨w.heap.size, 0, none⟩ (.int .i64 3)).drew := ⟨_, rfl⟩
    have HX := Lib.hid (of_stored hX HK.out.2.1 HI.out.2.2.2.1 HI.out.2.2.2.2.1 HK.out.2.2.2.2.1)
    rw [← hX]
    clear hX hz hzf hcW hix
    obtain ⟨d0, d1, d2, d3, d4, d5, d6, d7, d8, d9⟩ := acCells HX.out.1
    have z0 := HX.out.1.frozen 0
    have z1 := HX.out.1.frozen 1
    have z2 := HX.out.1.frozen 2
    have z3 := HX.out.1.frozen 3
    have z4 := HX.out.1.frozen 4
    have z5 := HX.out.1.frozen 5
    have z6 := HX.out.1.frozen 6
    have z7 := HX.out.1.frozen 7
    have z8 := HX.out.1.frozen 8
    have z9 := HX.out.1.frozen 9
    obtain ⟨x, y, rfl⟩ := lenTwo (l := f) (by have := HI.out.2.2.2.2.2.2.1; have := HM.out; omega)
    have hi2 : 0 < m := by have := HM.out; omega
    have hi3 : 1 < m := by have := HM.out; omega
    have hi4 : (1 : Int) < (m : Int) := by omega
    obtain ⟨xb, xo, rfl, _, cx⟩ := HX.out.2.1.cell (k := 0) (x := x) rfl
    clear cx
    have HS := Lib.hid (two_cells HI.out.2.2.2.1)
    have hq0 : Below w.heap.size w X.drew := HX.out.2.2.2.drew
    have hqb := HX.out.1.drew
    go_upto_region 17 with fail
    clear d0 d1 d2 d3 d4 d5 d6 d7 d8 d9 z0 z1 z2 z3 z4 z5 z6 z7 z8 z9
    cases hax : any64 x with
    | none =>
      have HA := Lib.hid hax; clear hax
      have HQ := Lib.hid (show ofL [sEvict, x, y] = none by rw [ofL_evict, HA.out])
      obtain ⟨c0, c1, _⟩ := HS.out X HX.out.2.2.2
      have q7 : X.cell? ⟨w.heap.size, 7, none⟩ = some (.int .u64 0) := HX.out.1.cell 7
      have p7 := HX.out.1.frozen 7
      have q8 : X.cell? ⟨w.heap.size, 8, none⟩ = some (.int .i64 0) := HX.out.1.cell 8
      have p8 := HX.out.1.frozen 8
      go_region_with (first
        | (go_at_call 23
           refine calls_absurd hF (.int .i64 0) ?_)
        | (go_at_call 47
           refine calls_panics (.int .u64 0) (any64_any x (HI.out.2.2.2.2.2.1 x (by simp)) (HI.out.2.2.2.2.1.next hq0)) ?_ (fun hF => ?_)
           · rintro e w6 ⟨hb6, he⟩
             rw [show any64 x = none from HA.out] at he
             obtain rfl := he
             refine ⟨_, rfl, rfl, hq0.trans (hb6.mono hq0.size), ?_⟩
             rw [HQ.out]))
      all_goals exact hF.out.elim
    | some v1 =>
      have HA := Lib.hid hax; clear hax
      cases hay : whole y 0 1099511627776 with
      | none =>
        have HB := Lib.hid hay; clear hay
        have HQ := Lib.hid (show ofL [sEvict, x, y] = none by rw [ofL_evict, HA.out, HB.out])
        obtain ⟨c0, c1, _⟩ := HS.out X HX.out.2.2.2
        go_region_with (first
          | (go_at_call 47
             with_reducible refine (any64_any x (HI.out.2.2.2.2.2.1 x (by simp)) (HI.out.2.2.2.2.1.next hq0)).mono ?_
             rintro e w6 ⟨hb6, he⟩
             rw [show any64 x = some v1 from HA.out] at he
             obtain rfl := he
             have K6 : Below w.heap.size w w6 := Below.trans hq0 (hb6.mono hq0.size)
             obtain ⟨f0, f1, _⟩ := HS.out w6 K6
             have B6 := hqb.below hb6 hqb.lt
             have q7 : w6.cell? ⟨w.heap.size, 7, none⟩ = some (.int .u64 0) := B6.cell 7
             have p7 := B6.frozen 7
             have q8 : w6.cell? ⟨w.heap.size, 8, none⟩ = some (.int .i64 0) := B6.cell 8
             have p8 := B6.frozen 8)
          | (go_at_call 23
             with_reducible refine calls_panics (.int .i64 0) (whole_any y (HI.out.2.2.2.2.2.1 y (by simp)) 0 1099511627776 (by decide) (by decide) (by decide) (by decide) (HI.out.2.2.2.2.1.next K6)) ?_ (fun hF => ?_)
             · rintro e w7 ⟨hb7, he⟩
               rw [show whole y 0 1099511627776 = none from HB.out] at he
               obtain rfl := he
               refine ⟨_, rfl, rfl, K6.trans (hb7.mono K6.size), ?_⟩
               rw [HQ.out]))
        all_goals exact hF.out.elim
      | some v2 =>
        have HB := Lib.hid hay; clear hay
        have HQ := Lib.hid (show ofL [sEvict, x, y] = some (⟨3, 0, Cl.zero, v1, v2, []⟩, 1) by rw [ofL_evict, HA.out, HB.out])
        go_region_held3 (fun wx => wx.cell? ⟨xb, xo, none⟩ = some (.string (mk x)) ∧ wx.cell? ⟨xb, xo + 1, none⟩ = some (.string (mk y)) ∧ Below w.heap.size w wx)
          (first | (with_reducible exact HS.out _ (by assumption)) | (with_reducible exact HS.out _ (K7.setCell (p := ⟨w.heap.size, 7, none⟩) (Nat.le_refl _) _)) | (with_reducible exact HS.out _ ((K7.setCell (p := ⟨w.heap.size, 7, none⟩) (Nat.le_refl _) _).setCell (p := ⟨w.heap.size, 8, none⟩) (Nat.le_refl _) _)))
          (first
            | (go_at_call 47
               with_reducible refine (any64_any x (HI.out.2.2.2.2.2.1 x (by simp)) (HI.out.2.2.2.2.1.next hq0)).mono ?_
               rintro e w6 ⟨hb6, he⟩
               rw [show any64 x = some v1 from HA.out] at he
               obtain rfl := he
               have K6 : Below w.heap.size w w6 := Below.trans hq0 (hb6.mono hq0.size)
               have B6 := hqb.below hb6 hqb.lt)
            | (go_at_call 23
               with_reducible refine (whole_any y (HI.out.2.2.2.2.2.1 y (by simp)) 0 1099511627776 (by decide) (by decide) (by decide) (by decide) (HI.out.2.2.2.2.1.next K6)).mono ?_
               rintro e w7 ⟨hb7, he⟩
               rw [show whole y 0 1099511627776 = some v2 from HB.out] at he
               obtain rfl := he
               have K7 : Below w.heap.size w w7 := Below.trans K6 (hb7.mono K6.size)
               have B7 := B6.below hb7 B6.lt
               have q7 : w7.cell? ⟨w.heap.size, 7, none⟩ = some (.int .u64 0) := B7.cell 7
               have p7 := B7.frozen 7
               have q8 : w7.cell? ⟨w.heap.size, 8, none⟩ = some (.int .i64 0) := B7.cell 8
               have p8 := B7.frozen 8))
        have H9 := Lib.hid (And.intro (show Blk ((w7.setCell ⟨w.heap.size, 7, none⟩ (.int .u64 v1)).setCell ⟨w.heap.size, 8, none⟩ (.int .i64 v2)) w.heap.size 40 (acC ⟨3, 0, Cl.zero, v1, v2, []⟩ (.slice none 0 0)) from ((B7.set_ 7 (.int .u64 v1)).set_ 8 (.int .i64 v2))) (((K7.setCell (p := ⟨w.heap.size, 7, none⟩) (Nat.le_refl _) (.int .u64 v1)).setCell (p := ⟨w.heap.size, 8, none⟩) (Nat.le_refl _) (.int .i64 v2))))
        obtain ⟨w9, hw9⟩ : ∃ w9, w9 = ((w7.setCell ⟨w.heap.size, 7, none⟩ (.int .u64 v1)).setCell ⟨w.heap.size, 8, none⟩ (.int .i64 v2)) := ⟨_, rfl⟩
        rw [← hw9] at H9 ⊢
        clear hw9 B7 B6 K6 K7 hb6 hb7 q7 p7 q8 p8
        obtain ⟨d0, d1, d2, d3, d4, d5, d6, d7, d8, d9⟩ := acCells H9.out.1
        have z0 := H9.out.1.frozen 0
        have z1 := H9.out.1.frozen 1
        have z2 := H9.out.1.frozen 2
        have z3 := H9.out.1.frozen 3
        have z4 := H9.out.1.frozen 4
        have z5 := H9.out.1.frozen 5
        have z6 := H9.out.1.frozen 6
        have z7 := H9.out.1.frozen 7
        have z8 := H9.out.1.frozen 8
        have z9 := H9.out.1.frozen 9
        go_wp2_with fail
        refine bodyPost_ret (res_of (a := ⟨3, 0, Cl.zero, v1, v2, []⟩) (put10_blk H9.out.1 rfl ⟨3, 0, Cl.zero, v1, v2, []⟩ _) rfl rfl) rfl ⟨put10_below H9.out.2 (Nat.le_refl _) ⟨3, 0, Cl.zero, v1, v2, []⟩ _, ?_⟩
        rw [HQ.out]
        exact ⟨_, rfl, RowR.nil _ _, Fresh.nil _⟩
  · have e1 : ((m : Int) == 2) = false := by simp; omega
    have HQ := Lib.hid (show ofL (sEvict :: f) = none from ofL_evict_no f (by have := HI.out.2.2.2.2.2.2.1; omega))
    clear hw
    go_wp2_with fail
    refine (check_no _ _).mono ?_; rintro e w3 ⟨rfl, rfl⟩
    refine ⟨rfl, HI.out.2.1, ?_⟩
    rw [HQ.out]

end Go.Proofs.YtnnahodajiolmaaGreatDoor.sc
