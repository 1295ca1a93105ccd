/-
  PROVED HERE: the contracts of OfLine's deferred function (OfLine$1). Conditions: the three variables' blocks.
-/
import Derived.Test.YtbpbkmhipbchbaaGreatDoorScAct
import Derived.Test.YtbpbkmhipbchbaaGreatDoorScOfCall
import Derived.Test.YtbpbkmhipbchbaaGreatDoorScCaught
namespace Go.Proofs.YtbpbkmhipbchbaaGreatDoor.sc
open Go.RowKit
set_option linter.unusedVariables false

/-- The world with act number zero in block g. -/
abbrev zeroAct (w : World) (g : Nat) : World := ((((((((((w.setCell ⟨g, 0, none⟩ (.int .i64 0)).setCell ⟨g, 1, none⟩ (.int .i64 0)).setCell ⟨g, 2, none⟩ (.int .i64 0)).setCell ⟨g, 3, none⟩ (.int .u64 0)).setCell ⟨g, 4, none⟩ (.int .u64 0)).setCell ⟨g, 5, none⟩ (.int .i64 0)).setCell ⟨g, 6, none⟩ (.string ⟨#[]⟩)).setCell ⟨g, 7, none⟩ (.int .u64 0)).setCell ⟨g, 8, none⟩ (.int .i64 0)).setCell ⟨g, 9, none⟩ (.slice none 0 0))
theorem set10 {w : World} {g : Nat} {t : TypeId} {a0 a1 a2 a3 a4 a5 a6 a7 a8 a9 : Value} (h : Blk w g t #[a0, a1, a2, a3, a4, a5, a6, a7, a8, a9]) (b0 b1 b2 b3 b4 b5 b6 b7 b8 b9 : Value) : Blk ((((((((((w.setCell ⟨g, 0, none⟩ b0).setCell ⟨g, 1, none⟩ b1).setCell ⟨g, 2, none⟩ b2).setCell ⟨g, 3, none⟩ b3).setCell ⟨g, 4, none⟩ b4).setCell ⟨g, 5, none⟩ b5).setCell ⟨g, 6, none⟩ b6).setCell ⟨g, 7, none⟩ b7).setCell ⟨g, 8, none⟩ b8).setCell ⟨g, 9, none⟩ b9) g t #[b0, b1, b2, b3, b4, b5, b6, b7, b8, b9] := by
  have h0 : Blk (w.setCell ⟨g, 0, none⟩ b0) g t #[b0, a1, a2, a3, a4, a5, a6, a7, a8, a9] := h.set_ 0 b0
  have h1 : Blk ((w.setCell ⟨g, 0, none⟩ b0).setCell ⟨g, 1, none⟩ b1) g t #[b0, b1, a2, a3, a4, a5, a6, a7, a8, a9] := h0.set_ 1 b1
  have h2 : Blk (((w.setCell ⟨g, 0, none⟩ b0).setCell ⟨g, 1, none⟩ b1).setCell ⟨g, 2, none⟩ b2) g t #[b0, b1, b2, a3, a4, a5, a6, a7, a8, a9] := h1.set_ 2 b2
  have h3 : Blk ((((w.setCell ⟨g, 0, none⟩ b0).setCell ⟨g, 1, none⟩ b1).setCell ⟨g, 2, none⟩ b2).setCell ⟨g, 3, none⟩ b3) g t #[b0, b1, b2, b3, a4, a5, a6, a7, a8, a9] := h2.set_ 3 b3
  have h4 : Blk (((((w.setCell ⟨g, 0, none⟩ b0).setCell ⟨g, 1, none⟩ b1).setCell ⟨g, 2, none⟩ b2).setCell ⟨g, 3, none⟩ b3).setCell ⟨g, 4, none⟩ b4) g t #[b0, b1, b2, b3, b4, a5, a6, a7, a8, a9] := h3.set_ 4 b4
  have h5 : Blk ((((((w.setCell ⟨g, 0, none⟩ b0).setCell ⟨g, 1, none⟩ b1).setCell ⟨g, 2, none⟩ b2).setCell ⟨g, 3, none⟩ b3).setCell ⟨g, 4, none⟩ b4).setCell ⟨g, 5, none⟩ b5) g t #[b0, b1, b2, b3, b4, b5, a6, a7, a8, a9] := h4.set_ 5 b5
  have h6 : Blk (((((((w.setCell ⟨g, 0, none⟩ b0).setCell ⟨g, 1, none⟩ b1).setCell ⟨g, 2, none⟩ b2).setCell ⟨g, 3, none⟩ b3).setCell ⟨g, 4, none⟩ b4).setCell ⟨g, 5, none⟩ b5).setCell ⟨g, 6, none⟩ b6) g t #[b0, b1, b2, b3, b4, b5, b6, a7, a8, a9] := h5.set_ 6 b6
  have h7 : Blk ((((((((w.setCell ⟨g, 0, none⟩ b0).setCell ⟨g, 1, none⟩ b1).setCell ⟨g, 2, none⟩ b2).setCell ⟨g, 3, none⟩ b3).setCell ⟨g, 4, none⟩ b4).setCell ⟨g, 5, none⟩ b5).setCell ⟨g, 6, none⟩ b6).setCell ⟨g, 7, none⟩ b7) g t #[b0, b1, b2, b3, b4, b5, b6, b7, a8, a9] := h6.set_ 7 b7
  have h8 : Blk (((((((((w.setCell ⟨g, 0, none⟩ b0).setCell ⟨g, 1, none⟩ b1).setCell ⟨g, 2, none⟩ b2).setCell ⟨g, 3, none⟩ b3).setCell ⟨g, 4, none⟩ b4).setCell ⟨g, 5, none⟩ b5).setCell ⟨g, 6, none⟩ b6).setCell ⟨g, 7, none⟩ b7).setCell ⟨g, 8, none⟩ b8) g t #[b0, b1, b2, b3, b4, b5, b6, b7, b8, a9] := h7.set_ 8 b8
  have h9 : Blk ((((((((((w.setCell ⟨g, 0, none⟩ b0).setCell ⟨g, 1, none⟩ b1).setCell ⟨g, 2, none⟩ b2).setCell ⟨g, 3, none⟩ b3).setCell ⟨g, 4, none⟩ b4).setCell ⟨g, 5, none⟩ b5).setCell ⟨g, 6, none⟩ b6).setCell ⟨g, 7, none⟩ b7).setCell ⟨g, 8, none⟩ b8).setCell ⟨g, 9, none⟩ b9) g t #[b0, b1, b2, b3, b4, b5, b6, b7, b8, b9] := h8.set_ 9 b9
  exact h9
theorem zeroAct_blk {w : World} {g : Nat} {a : Ac} {v : Value} (h : Blk w g 31 (acC a v)) : Blk (zeroAct w g) g 31 (acC Ac.zero (.slice none 0 0)) := set10 h _ _ _ _ _ _ _ _ _ _
theorem zeroAct_far {w : World} {g b : Nat} {t : TypeId} {cs : Array Value} (h : Blk w b t cs) (hg : b ≠ g) : Blk (zeroAct w g) b t cs := ((((((((((h.far (p := ⟨g, 0, none⟩) hg (.int .i64 0)).far (p := ⟨g, 1, none⟩) hg (.int .i64 0)).far (p := ⟨g, 2, none⟩) hg (.int .i64 0)).far (p := ⟨g, 3, none⟩) hg (.int .u64 0)).far (p := ⟨g, 4, none⟩) hg (.int .u64 0)).far (p := ⟨g, 5, none⟩) hg (.int .i64 0)).far (p := ⟨g, 6, none⟩) hg (.string ⟨#[]⟩)).far (p := ⟨g, 7, none⟩) hg (.int .u64 0)).far (p := ⟨g, 8, none⟩) hg (.int .i64 0)).far (p := ⟨g, 9, none⟩) hg (.slice none 0 0))
theorem zeroAct_below {w : World} {g B : Nat} (hg : B ≤ g) : Below B w (zeroAct w g) := (((((((((((Below.refl B w).setCell (p := ⟨g, 0, none⟩) hg (.int .i64 0)).setCell (p := ⟨g, 1, none⟩) hg (.int .i64 0)).setCell (p := ⟨g, 2, none⟩) hg (.int .i64 0)).setCell (p := ⟨g, 3, none⟩) hg (.int .u64 0)).setCell (p := ⟨g, 4, none⟩) hg (.int .u64 0)).setCell (p := ⟨g, 5, none⟩) hg (.int .i64 0)).setCell (p := ⟨g, 6, none⟩) hg (.string ⟨#[]⟩)).setCell (p := ⟨g, 7, none⟩) hg (.int .u64 0)).setCell (p := ⟨g, 8, none⟩) hg (.int .i64 0)).setCell (p := ⟨g, 9, none⟩) hg (.slice none 0 0))

theorem ofLineFn_ok {w : World} (u : FrameMode) (ge ga gn : Nat) (h : Blk w ge 32 #[.int .i64 0]) :
    CallsD Tryz.prog 27 #[.pointer (some ⟨ge, 0, none⟩), .pointer (some ⟨ga, 0, none⟩), .pointer (some ⟨gn, 0, none⟩)] u w (fun e u' w' => u' = u ∧ (e = .returned (.tuple #[]) ∧ w' = w)) := by
  have d0 : w.cell? ⟨ge, 0, none⟩ = some (.int .i64 0) := h.cell 0
  clear h
  go_enter_d Tryz.func27, Tryz.ntmps27
  go_wp2_with fail
  go_end0
  exact ⟨rfl, rfl⟩

set_option maxRecDepth 100000 in
theorem ofLineFn_bad {w : World} (u : FrameMode) (ge ga gn : Nat) (ev : Int) (hev : ev ≠ 0) (a : Ac) (A : Option Addr) (m c : Nat) (nv : Value) (h : Blk w ge 32 #[.int .i64 ev]) (ha : Blk w ga 31 (acC a (.slice A m c))) (hn : Blk w gn 3 #[nv]) (hne : ga ≠ gn) (hea : ge ≠ ga) (hen : ge ≠ gn) :
    CallsD Tryz.prog 27 #[.pointer (some ⟨ge, 0, none⟩), .pointer (some ⟨ga, 0, none⟩), .pointer (some ⟨gn, 0, none⟩)] u w (fun e u' w' => u' = u ∧ (e = .returned (.tuple #[]) ∧ Blk w' ge 32 #[.int .i64 ev] ∧ Blk w' ga 31 (acC Ac.zero (.slice none 0 0)) ∧ Blk w' gn 3 #[.int .i64 0] ∧ (∀ B, B ≤ ge → B ≤ ga → B ≤ gn → Below B w w'))) := by
  have d0 : w.cell? ⟨ge, 0, none⟩ = some (.int .i64 ev) := h.cell 0
  have e0 : (ev == 0) = false := by simpa using hev
  obtain ⟨f0, f1, f2, f3, f4, f5, f6, f7, f8, f9⟩ := acCells ha
  have p0 := ha.frozen 0
  have p1 := ha.frozen 1
  have p2 := ha.frozen 2
  have p3 := ha.frozen 3
  have p4 := ha.frozen 4
  have p5 := ha.frozen 5
  have p6 := ha.frozen 6
  have p7 := ha.frozen 7
  have p8 := ha.frozen 8
  have p9 := ha.frozen 9
  have q0 : w.cell? ⟨gn, 0, none⟩ = some nv := hn.cell 0
  have q1 := hn.frozen 0
  have hne' : gn ≠ ga := fun h => hne h.symm
  go_enter_d Tryz.func27, Tryz.ntmps27
  go_wp2_with fail
  go_end0
  exact ⟨rfl, (zeroAct_far h hea).far (p := ⟨gn, 0, none⟩) hen _, (zeroAct_blk ha).far (p := ⟨gn, 0, none⟩) hne _, (zeroAct_far hn hne').set_ 0 (.int .i64 0), fun B _ h1 h2 => (zeroAct_below h1).setCell (p := ⟨gn, 0, none⟩) h2 _⟩

end Go.Proofs.YtbpbkmhipbchbaaGreatDoor.sc
