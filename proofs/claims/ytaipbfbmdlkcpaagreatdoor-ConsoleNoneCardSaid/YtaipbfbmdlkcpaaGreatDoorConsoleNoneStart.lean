/-
  PROVED HERE: where the library's variables hold what their text lays, the memory is as the evaluator's run begins. Conditions: none.
-/
import Derived.Test.YtaipbfbmdlkcpaaGreatDoorConsoleNoneAt1
import Derived.Test.YtaipbfbmdlkcpaaGreatDoorConsoleNoneK3
import Derived.Lib.ItoaNum
import Derived.WalkKit
import Derived.ProofKit
import Derived.OpenShut
import Derived.Carry
import Derived.LaidMore
import Derived.Lay
import Derived.SevenTiedAt
import Derived.Stop.Joined
import Derived.Deep.DeepHandedRow
import Derived.Lib.LaidTab
import Derived.Shelf.Vars
namespace Go.Proofs.YtaipbfbmdlkcpaaGreatDoor.consoleNone
open Go.Lev
set_option linter.unusedVariables false

theorem putAllT_dead {α : Type} (d : α) (b : Nat) : ∀ (l : List (Nat × α)) (t : T α), (∀ p ∈ l, p.1 ≠ b) → t.get d b = d → (putAllT l t).get d b = d
  | [], _, _, h => h
  | p :: l, t, hl, h => by
    refine putAllT_dead d b l (putAt p t) (fun q hq => hl q (List.mem_cons_of_mem _ hq)) ?_
    unfold putAt
    split
    · rename_i t' ht
      rw [T.get_set ht, if_neg (fun e => hl p (List.mem_cons_self ..) e.symm)]
      exact h
    · rfl
theorem row_starts {W : World} {ε : Env} {g t n : Nat} {kk : IntKind} {L : List Int} {tr : T V} {C : Array Value} (hb : W.heap[g]? = some (.cells C t)) (hC : C.toList = L.map (Value.int kk)) (hn : L.length = n)
    (hchk : ((List.range n).all fun i => V.same (tr.get .any i) (.int kk (L.getD i 0))) = true) : ∃ o, W.heap[g]? = some o ∧ obR ε g (.cells t 1 n tr true false) o := by
  have hsz : C.size = n := by rw [← Array.length_toList, hC, List.length_map, hn]
  refine ⟨_, hb, C, (0, 0), rfl, fun i hi => ?_, by omega, fun _ => hsz, (fun e => by cases e), rfl⟩
  have h1 := V.same_eq (List.all_eq_true.1 hchk i (List.mem_range.2 hi))
  refine ⟨.int kk (L.getD i 0), ?_, ?_⟩
  · rw [← Array.getElem?_toList, hC, List.getElem?_map, List.getD, List.getElem?_eq_getElem (by omega)]; rfl
  · rw [h1, VR]
theorem at_of {W : World} (hs : W.ShapedOpen Tryz.prog) (g t : Nat) (hg : g < Tryz.prog.globals.size) (ht : (((begin Tryz.prog (fun _ _ => 0) default).world.heap[g]?).bind Obj.row?).map (·.2) = some t) : ∃ C, W.heap[g]? = some (.cells C t) := by
  obtain ⟨⟨z, t'⟩, hz, rfl⟩ := Option.map_eq_some_iff.1 ht
  obtain ⟨C, h1, _⟩ := hs.1 g z t' hg hz
  exact ⟨C, h1⟩
theorem there_of {W : World} (hs : W.ShapedOpen Tryz.prog) (g : Nat) (hg : g < Tryz.prog.globals.size) (ht : (((begin Tryz.prog (fun _ _ => 0) default).world.heap[g]?).bind Obj.row?).isSome = true) : ∃ o, W.heap[g]? = some o := by
  obtain ⟨⟨z, t'⟩, hz⟩ := Option.isSome_iff_exists.1 ht
  obtain ⟨C, h1, _⟩ := hs.1 g z t' hg hz
  exact ⟨_, h1⟩
theorem var_cells {W : World} {nm : String} {g t : Nat} {C cs : Array Value} (hn : Tryz.prog.globalNamed nm = some g) (hb : W.heap[g]? = some (.cells C t)) (hv : W.var? Tryz.prog nm = some cs) : C = cs := by
  unfold World.var? at hv
  rw [hn, Option.bind_some, hb] at hv
  exact Option.some.inj hv

theorem own : ownKnob Tryz.prog.godebug = none := by kernel_rfl
def asciiL : List Int := (List.range 256).map fun i => if i == 9 || i == 10 || i == 11 || i == 12 || i == 13 || i == 32 then 1 else 0
def tab64L : List Int := [0, 1, 56, 2, 57, 49, 28, 3, 61, 58, 42, 50, 38, 29, 17, 4, 62, 47, 59, 36, 45, 43, 51, 22, 53, 39, 33, 30, 24, 18, 12, 5, 63, 55, 48, 27, 60, 41, 37, 16, 46, 35, 44, 21, 52, 32, 23, 11, 54, 26, 40, 15, 34, 20, 31, 10, 25, 14, 19, 9, 13, 8, 7, 6]
theorem asciiD : (Rows.laid_strings_asciiSpace : DataW Unit) = Lib.tabData .u8 asciiL := by kernel_rfl
theorem tab64D : (Rows.laid_math_bits_deBruijn64tab : DataW Unit) = Lib.tabData .u8 tab64L := by kernel_rfl
theorem pow10D : (Rows.laid_internal_strconv_uint64pow10 : DataW Unit) = Lib.tabData .u64 Go.Lib.pow10Tab := by kernel_rfl
theorem tAsc : (Tryz.prog.globals[0]?).map (·.type) = some 231 := by kernel_rfl
theorem t64 : (Tryz.prog.globals[9]?).map (·.type) = some 478 := by kernel_rfl
theorem tP10 : (Tryz.prog.globals[3]?).map (·.type) = some 341 := by kernel_rfl
theorem c256 : Tryz.prog.cellsOf 231 = 256 := by kernel_rfl
theorem c64 : Tryz.prog.cellsOf 478 = 64 := by kernel_rfl
theorem c20 : Tryz.prog.cellsOf 341 = 20 := by kernel_rfl
theorem cU8 : Tryz.prog.cellsOf 5 = 1 := by kernel_rfl
theorem cU64 : Tryz.prog.cellsOf 49 = 1 := by kernel_rfl
noncomputable def rowTr (g : Nat) : T V := match h0.get g with | .cells _ _ _ cs _ _ => cs | _ => .leaf
set_option maxRecDepth 1000000 in
theorem getAscii : h0.get 0 = .cells 231 1 256 (rowTr 0) true false := by kernel_rfl
set_option maxRecDepth 1000000 in
theorem chkAscii : ((List.range 256).all fun i => V.same ((rowTr 0).get .any i) (.int .u8 ((asciiL : List Int).getD i 0))) = true := by kernel_rfl
set_option maxRecDepth 1000000 in
theorem layAscii : (((begin Tryz.prog (fun _ _ => 0) default).world.heap[0]?).bind Obj.row?).map (·.2) = some 231 := by kernel_rfl
theorem lenAscii : (asciiL : List Int).length = 256 := by simp [asciiL]
set_option maxRecDepth 1000000 in
theorem getPow10 : h0.get 3 = .cells 341 1 20 (rowTr 3) true false := by kernel_rfl
set_option maxRecDepth 1000000 in
theorem chkPow10 : ((List.range 20).all fun i => V.same ((rowTr 3).get .any i) (.int .u64 ((Go.Lib.pow10Tab : List Int).getD i 0))) = true := by kernel_rfl
set_option maxRecDepth 1000000 in
theorem layPow10 : (((begin Tryz.prog (fun _ _ => 0) default).world.heap[3]?).bind Obj.row?).map (·.2) = some 341 := by kernel_rfl
theorem lenPow10 : (Go.Lib.pow10Tab : List Int).length = 20 := by simp [Go.Lib.pow10Tab]
set_option maxRecDepth 1000000 in
theorem getTab64 : h0.get 9 = .cells 478 1 64 (rowTr 9) true false := by kernel_rfl
set_option maxRecDepth 1000000 in
theorem chkTab64 : ((List.range 64).all fun i => V.same ((rowTr 9).get .any i) (.int .u8 ((tab64L : List Int).getD i 0))) = true := by kernel_rfl
set_option maxRecDepth 1000000 in
theorem layTab64 : (((begin Tryz.prog (fun _ _ => 0) default).world.heap[9]?).bind Obj.row?).map (·.2) = some 478 := by kernel_rfl
theorem lenTab64 : (tab64L : List Int).length = 64 := rfl
set_option maxRecDepth 1000000 in
theorem allThere : ((List.range 11).all fun g => (((begin Tryz.prog (fun _ _ => 0) default).world.heap[g]?).bind Obj.row?).isSome) = true := by kernel_rfl
theorem elevenG : Tryz.prog.globals.size = 11 := by kernel_rfl
theorem roIs : h0.ro = 11 := by kernel_rfl
theorem nxIs : h0.nx = 11 := by kernel_rfl
set_option maxRecDepth 1000000 in
theorem deads : ((List.range 11).all fun g => g == 0 || g == 3 || g == 9 || (match h0.get g with | .dead => true | _ => false)) = true := by kernel_rfl
theorem highDead (b : Nat) (h : 11 ≤ b) : h0.get b = .dead := by
  show h0.t.get .dead b = .dead
  unfold h0 mH
  dsimp only
  refine putAllT_dead _ b _ _ ?_ (T.get_full _ _ _)
  intro p hp
  simp only [List.mem_cons, List.not_mem_nil, or_false] at hp
  rcases hp with rfl | rfl | rfl <;> (simp only; omega)
set_option maxRecDepth 100000 in
/-- WHAT THE ROW's LIST GIVES. -/
theorem starts_of {W : World} (h : laidMetH Tryz.prog Rows.consoleNoneRow.laid W) (hs : W.ShapedOpen Tryz.prog) : Starts W h0 := by
  rw [MakeChecks.laidMetH_plain _ _ _ (by kernel_rfl)] at h
  obtain ⟨ps, ⟨g0, t0, cs0, f0, p0, q0, hg0, ht0, hv0, hd0, ⟨g1, t1, cs1, f1, p1, q1, hg1, ht1, hv1, hd1, ⟨g2, t2, cs2, f2, p2, q2, hg2, ht2, hv2, hd2, ⟨g3, t3, cs3, f3, p3, q3, hg3, ht3, hv3, hd3, ⟨g4, t4, cs4, f4, p4, q4, hg4, ht4, hv4, hd4, ⟨g5, t5, cs5, f5, p5, q5, hg5, ht5, hv5, hd5, ⟨g6, t6, cs6, f6, p6, q6, hg6, ht6, hv6, hd6, ⟨g7, t7, cs7, f7, p7, q7, hg7, ht7, hv7, hd7, _, _⟩, _⟩, _⟩, _⟩, _⟩, _⟩, _⟩, _⟩, _, _⟩ := h
  obtain rfl : g7 = 0 := Option.some.inj (hg7.symm.trans (by kernel_rfl))
  obtain rfl := Option.some.inj (tAsc.symm.trans ht7)
  rw [asciiD] at hd7
  have e7 := Lib.cells_of_tab Tryz.underlying231 Tryz.underlying5 cU8 c256 hd7
  obtain ⟨C7, hC7⟩ := at_of hs 0 231 (of_decide_eq_true (by kernel_rfl)) layAscii
  have c7 := var_cells hg7 hC7 hv7
  obtain rfl : g0 = 3 := Option.some.inj (hg0.symm.trans (by kernel_rfl))
  obtain rfl := Option.some.inj (tP10.symm.trans ht0)
  rw [pow10D] at hd0
  have e0 := Lib.cells_of_tab Tryz.underlying341 Tryz.underlying49 cU64 c20 hd0
  obtain ⟨C0, hC0⟩ := at_of hs 3 341 (of_decide_eq_true (by kernel_rfl)) layPow10
  have c0 := var_cells hg0 hC0 hv0
  obtain rfl : g2 = 9 := Option.some.inj (hg2.symm.trans (by kernel_rfl))
  obtain rfl := Option.some.inj (t64.symm.trans ht2)
  rw [tab64D] at hd2
  have e2 := Lib.cells_of_tab Tryz.underlying478 Tryz.underlying5 cU8 c64 hd2
  obtain ⟨C2, hC2⟩ := at_of hs 9 478 (of_decide_eq_true (by kernel_rfl)) layTab64
  have c2 := var_cells hg2 hC2 hv2
  refine ⟨by rw [nxIs, roIs], fun b hb => highDead b (by rw [roIs] at hb; exact hb), fun g hg => ?_⟩
  rw [roIs] at hg
  by_cases a0 : g = 0
  · subst a0
    rw [getAscii]
    exact row_starts hC7 (by rw [c7]; exact e7) lenAscii chkAscii
  by_cases a1 : g = 3
  · subst a1
    rw [getPow10]
    exact row_starts hC0 (by rw [c0]; exact e0) lenPow10 chkPow10
  by_cases a2 : g = 9
  · subst a2
    rw [getTab64]
    exact row_starts hC2 (by rw [c2]; exact e2) lenTab64 chkTab64
  obtain ⟨o, ho⟩ := there_of hs g (by rw [elevenG]; exact hg) (List.all_eq_true.1 allThere g (List.mem_range.2 hg))
  refine ⟨o, ho, ?_⟩
  have hd := List.all_eq_true.1 deads g (List.mem_range.2 hg)
  have b0 : (g == 0) = false := by simpa using a0
  have b1 : (g == 3) = false := by simpa using a1
  have b2 : (g == 9) = false := by simpa using a2
  rw [b0, b1, b2] at hd
  simp only [Bool.false_or] at hd
  split at hd
  · rename_i hx; rw [hx]; trivial
  · cases hd

/-- A WORLD FOR THE WITNESS. -/
noncomputable def wit (os : Os) : World := World.laidAll Tryz.prog os Rows.consoleNoneRow.laid
set_option maxRecDepth 100000 in
theorem wit_laid (os : Os) (args : Array Value) : laidMetH Tryz.prog Rows.consoleNoneRow.laid ((wit os).forCall (fun _ _ => 0) ⟨#[], args, []⟩).memory := by
  rw [MakeChecks.laidMetH_plain _ _ _ (by kernel_rfl)]
  exact laidMet_laidAll _ (by kernel_rfl) (by kernel_rfl)
set_option maxRecDepth 100000 in
theorem wit_shaped (os : Os) (args : Array Value) : ((wit os).forCall (fun _ _ => 0) ⟨#[], args, []⟩).Shaped Tryz.prog :=
  World.shaped_of_ZipB (by kernel_rfl) (by kernel_rfl)
end Go.Proofs.YtaipbfbmdlkcpaaGreatDoor.consoleNone
