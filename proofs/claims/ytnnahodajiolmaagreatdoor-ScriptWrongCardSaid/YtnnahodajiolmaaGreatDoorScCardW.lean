/-
  PROVED HERE: what the rows' condition gives (the library's variables: Env), and a world that meets it. Conditions: none.
-/
import Derived.Test.YtnnahodajiolmaaGreatDoorScWorld
import Derived.Test.YtnnahodajiolmaaGreatDoorCards
import Derived.Test.YtnnahodajiolmaaGreatDoorTie
import Derived.WalkKit
import Derived.ProofKit
import Derived.OpenShut
import Derived.Carry
import Derived.LaidMore
import Derived.Lay
import Derived.SevenTiedAt
import Derived.Stop.Joined
import Derived.Deep.DeepHandedRow
import Derived.Lib.LaidTab
import Derived.Shelf.Vars
namespace Go.Proofs.YtnnahodajiolmaaGreatDoor.sc
open Go.ChangeShapes Go.WideShapes Go.ChangeAt Go.RowKit
set_option linter.unusedVariables false

theorem own : ownKnob Tryz.prog.godebug = none := by kernel_rfl
theorem laidOut : laidOutB Tryz.prog = true := by kernel_rfl
theorem t64 : (Tryz.prog.globals[7]?).map (·.type) = some 465 := by kernel_rfl
theorem tP10 : (Tryz.prog.globals[1]?).map (·.type) = some 359 := by kernel_rfl
theorem tSyn : (Tryz.prog.globals[4]?).map (·.type) = some 110 := by kernel_rfl
theorem tRan : (Tryz.prog.globals[5]?).map (·.type) = some 110 := by kernel_rfl

set_option maxRecDepth 100000 in
theorem iface_of_trod {H : Type} {enc : TypeId × Value → H} {w : World} {base : Nat} {sp : Nat → Bool} {fuel : Nat} {cs : List Value} {nm : String} {d : DataW H} {p : List MemPlace}
    (h : DataW.trod enc Tryz.prog w base sp false fuel 110 cs = some (.iface nm d, p)) : ∃ t v, cs = [.iface t v] := by
  cases fuel with
  | zero => simp [DataW.trod] at h
  | succ n =>
    unfold DataW.trod at h
    rw [Tryz.underlying110] at h
    split at h <;> first | exact ⟨_, _, rfl⟩ | simp_all

theorem maxLen_of {W : World} (hs : W.ShapedOpen Tryz.prog) : ∃ m, W.cell? ⟨0, 0, none⟩ = some (.int .i64 m) :=
  cell_of_shapedOpen_int (zero := #[.int .i64 0]) (t := 3) hs (of_decide_eq_true (by kernel_rfl)) (by kernel_rfl) rfl (by kernel_rfl) (by kernel_rfl) Tryz.underlying3
def tab64L : List Int := [0, 1, 56, 2, 57, 49, 28, 3, 61, 58, 42, 50, 38, 29, 17, 4, 62, 47, 59, 36, 45, 43, 51, 22, 53, 39, 33, 30, 24, 18, 12, 5, 63, 55, 48, 27, 60, 41, 37, 16, 46, 35, 44, 21, 52, 32, 23, 11, 54, 26, 40, 15, 34, 20, 31, 10, 25, 14, 19, 9, 13, 8, 7, 6]
theorem tab64D : (Rows.laid_math_bits_deBruijn64tab : DataW Unit) = Lib.tabData .u8 tab64L := by kernel_rfl
theorem pow10D : (Rows.laid_internal_strconv_uint64pow10 : DataW Unit) = Lib.tabData .u64 Go.Lib.pow10Tab := by kernel_rfl
theorem c64 : Tryz.prog.cellsOf 465 = 64 := by kernel_rfl
theorem c20 : Tryz.prog.cellsOf 359 = 20 := by kernel_rfl
theorem cU8 : Tryz.prog.cellsOf 5 = 1 := by kernel_rfl
theorem cU64 : Tryz.prog.cellsOf 34 = 1 := by kernel_rfl

set_option maxRecDepth 100000 in
/-- WHAT THE ROW's LIST GIVES. -/
theorem env_of {W : World} (h : laidMetH Tryz.prog Rows.scriptWrongRow.laid W) (hs : W.ShapedOpen Tryz.prog) : Env W := by
  rw [MakeChecks.laidMetH_plain _ _ _ (by kernel_rfl)] at h
  obtain ⟨ps, ⟨g0, t0, cs0, f0, p0, q0, hg0, ht0, hv0, hd0, ⟨g1, t1, cs1, f1, p1, q1, hg1, ht1, hv1, hd1, ⟨g2, t2, cs2, f2, p2, q2, hg2, ht2, hv2, hd2, ⟨g3, t3, cs3, f3, p3, q3, hg3, ht3, hv3, hd3, ⟨g4, t4, cs4, f4, p4, q4, hg4, ht4, hv4, hd4, ⟨g5, t5, cs5, f5, p5, q5, hg5, ht5, hv5, hd5, _, _⟩, _⟩, _⟩, _⟩, _⟩, _⟩, _, _⟩ := h
  obtain rfl : g1 = 7 := Option.some.inj (hg1.symm.trans (by kernel_rfl))
  obtain rfl : g2 = 1 := Option.some.inj (hg2.symm.trans (by kernel_rfl))
  obtain rfl : g4 = 5 := Option.some.inj (hg4.symm.trans (by kernel_rfl))
  obtain rfl : g5 = 4 := Option.some.inj (hg5.symm.trans (by kernel_rfl))
  obtain rfl := Option.some.inj (t64.symm.trans ht1)
  obtain rfl := Option.some.inj (tP10.symm.trans ht2)
  obtain rfl := Option.some.inj (tRan.symm.trans ht4)
  obtain rfl := Option.some.inj (tSyn.symm.trans ht5)
  rw [tab64D] at hd1
  rw [pow10D] at hd2
  have e1 := Lib.cells_of_tab Tryz.underlying465 Tryz.underlying5 cU8 c64 hd1
  have e2 := Lib.cells_of_tab Tryz.underlying359 Tryz.underlying34 cU64 c20 hd2
  obtain ⟨ta, va, e4⟩ := iface_of_trod hd4
  obtain ⟨tb, vb, e5⟩ := iface_of_trod hd5
  have tab : Go.Lib.TabIs Tryz.prog W pow10 .u64 Go.Lib.pow10Tab := by
    unfold Lib.TabIs
    refine (congrArg (W.var? Tryz.prog) (by kernel_rfl)).trans (hv2.trans ?_)
    rw [← e2]
  have c15 : W.cell? ⟨7, 15, none⟩ = some (.int .u8 4) := by
    rw [World.var?_cell hg1 hv1 15, ← Array.getElem?_toList, e1]; rfl
  have cR : W.cell? ⟨5, 0, none⟩ = some (.iface ta va) := by
    rw [World.var?_cell hg4 hv4 0, ← Array.getElem?_toList, e4]; rfl
  have cS : W.cell? ⟨4, 0, none⟩ = some (.iface tb vb) := by
    rw [World.var?_cell hg5 hv5 0, ← Array.getElem?_toList, e5]; rfl
  have cP : W.cell? ⟨1, 0, none⟩ = some (.int .u64 1) := by
    rw [World.var?_cell hg2 hv2 0, ← Array.getElem?_toList, e2]; rfl
  exact ⟨tab, lt_of_cell cP, maxLen_of hs, ⟨_, _, cS⟩, ⟨_, _, cR⟩, c15⟩

/-- A WORLD FOR THE WITNESS. -/
noncomputable def wit (os : Os) : World := World.laidAll Tryz.prog os Rows.scriptWrongRow.laid
set_option maxRecDepth 100000 in
theorem wit_laid (os : Os) (args : Array Value) : laidMetH Tryz.prog Rows.scriptWrongRow.laid ((wit os).forCall (fun _ _ => 0) ⟨#[], args, []⟩).memory := by
  rw [MakeChecks.laidMetH_plain _ _ _ (by kernel_rfl)]
  exact laidMet_laidAll _ (by kernel_rfl) (by kernel_rfl)
set_option maxRecDepth 100000 in
theorem wit_shaped (os : Os) (args : Array Value) : ((wit os).forCall (fun _ _ => 0) ⟨#[], args, []⟩).Shaped Tryz.prog :=
  World.shaped_of_ZipB (by kernel_rfl) (by kernel_rfl)

end Go.Proofs.YtnnahodajiolmaaGreatDoor.sc
