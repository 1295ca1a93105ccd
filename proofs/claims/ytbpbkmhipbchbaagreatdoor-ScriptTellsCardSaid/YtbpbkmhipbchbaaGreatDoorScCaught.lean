/-
  PROVED HERE: the contracts of script's caught, deferred: of a frame that returns, and of one that panics with an Errno. Conditions: the variable's block.
-/
import Derived.Test.YtbpbkmhipbchbaaGreatDoorScMem
import Derived.Defers
import Derived.Recover
namespace Go.Proofs.YtbpbkmhipbchbaaGreatDoor.sc
open Go.RowKit
set_option linter.unusedVariables false

theorem caught_idle (p : Addr) (w : World) :
    CallsD Tryz.prog 28 #[.pointer (some p)] .returning w fun e u' w' => e = .returned (.tuple #[]) ∧ u' = .returning ∧ w' = w := by
  refine callsD_of_wpS Tryz.func28 rfl fun c₀ cs hu => ?_
  simp only [Tryz.ntmps28, List.size_toArray, List.length_cons, List.length_nil, Nat.reduceAdd, Nat.reduceSub, Array.replicate_succ, Array.replicate_zero, List.push_toArray, List.append_toArray, List.nil_append, List.cons_append]
  apply wpS_seq
  apply wpS_region
  simp [wpOpsS, go_sem, recoverD, hu, Exit.thenS]
  refine wpS_of_wp ?_
  go_wp2
  cases c₀
  simp_all [bodyPostS, results, Tryz.results28]

theorem run_assert_errno (ev : Int) (w : World) : (Instr.typeAssert (.iface 32 (.int .i64 ev)) 20 32 true).run Tryz.prog w = .ok (.tuple #[.int .i64 ev, .bool true]) w := by kernel_rfl

set_option maxRecDepth 100000 in
theorem caught_panicking (p : Addr) (x ev : Int) (older : List PanicEntry) (w : World) (hc : w.cell? p = some (.int .i64 x)) (hz : w.frozen? p = false) :
    CallsD Tryz.prog 28 #[.pointer (some p)] (.panicking ({ v := .iface 32 (.int .i64 ev), recovered := false } :: older)) w fun e u' w' =>
      e = .returned (.tuple #[]) ∧ u' = .panicking ({ v := .iface 32 (.int .i64 ev), recovered := true } :: older) ∧ w' = w.setCell p (.int .i64 ev) := by
  refine callsD_of_wpS Tryz.func28 rfl fun c₀ cs hu => ?_
  simp only [Tryz.ntmps28, List.size_toArray, List.length_cons, List.length_nil, Nat.reduceAdd, Nat.reduceSub, Array.replicate_succ, Array.replicate_zero, List.push_toArray, List.append_toArray, List.nil_append, List.cons_append]
  apply wpS_seq
  apply wpS_region
  simp [wpOpsS, go_sem, recoverD, hu, Exit.thenS]
  refine wpS_of_wp ?_
  have hta := run_assert_errno ev w
  generalize hQ : (fun e a' w' => bodyPostS Tryz.prog Tryz.f28 c₀ cs _ e a' _ w') = Q
  have HQ := Lib.hid hQ; clear hQ hu
  go_wp2
  rw [← HQ.out]
  refine ⟨rfl, _, rfl, ?_⟩
  exact ⟨.tuple #[], by simp [results, Tryz.results28, go_sem], rfl, rfl, rfl⟩

end Go.Proofs.YtbpbkmhipbchbaaGreatDoor.sc
