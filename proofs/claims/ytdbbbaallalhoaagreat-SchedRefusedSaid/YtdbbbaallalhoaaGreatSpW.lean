/-
  PROVED HERE: words' bounds; what an iterator's own block leaves. No condition.
-/
import Derived.Test.YtdbbbaallalhoaaGreatMod
import Derived.Test.YtdbbbaallalhoaaGreatRngN
import Derived.Test.YtdbbbaallalhoaaGreatRnd
import Derived.RangeFuncBox
import Derived.Maps.OwnIn
import Derived.Maps.AppendAt
import Derived.LoopTactic
import Derived.Carry
import Derived.StillTailTactics
import Derived.StillTactics
import Derived.BigRegion
import Derived.Sort.CutIn
import Derived.Deep.RegionHeld3
import Derived.Deep.RegionWith
import Derived.Deep.DeepCutAuto
namespace Go.Proofs.YtdbbbaallalhoaaGreat.pm
open Go.RowKit Go.Shelf Go.Proofs.YtdbbbaallalhoaaGreat.rn
set_option linter.unusedVariables false
attribute [local go_sem] Oper.semAt_some

def U64 (x : Int) : Prop := 0 ≤ x ∧ x ≤ 18446744073709551615
theorem addrInfo : (Tryz.prog.info? 105).map (fun i => (i.zero, i.size, i.bytes)) = some (some (.int .u64 0), 1, 8) := by kernel_rfl
theorem Keeps.below {w w' : World} (h : Below w.heap.size w w') : Keeps [] w w' := ⟨h.size, fun i hi _ => h.block i hi, h.os, h.tape, h.output⟩
theorem KeepsOthers.walks {W W' : World} (h : KeepsOthers W W') : KeepsWalks W W' := ⟨h.size, fun k o hk hw => h.same k o hk (Obj.not_cells_of_walk hw)⟩
/-- A block of cells that is not the iterator's own lies on. -/
theorem abd_same {B k : Nat} {nb row : Option Nat} {W W' : World} {o : Obj} (hg : W.grownBy W' row)
    (hr : ∀ r, row = some r → (nb = some r ∧ ∃ o : Obj, W.heap[r]? = some o ∧ o.isCells = true) ∨ (B ≤ r ∧ ∃ o : Obj, W.heap[r]? = some o ∧ o.isCells = false ∧ o.isWalk = false))
    (hk : W.heap[k]? = some o) (ho : o.isCells = true ∨ o.isWalk = true) (hn : nb ≠ some k) : W'.heap[k]? = some o := by
  rw [hg.block k (Array.getElem?_eq_some_iff.1 hk).1 (fun e => ?_)]
  · exact hk
  · rcases hr k e.symm with ⟨h1, _⟩ | ⟨_, q, hq, hc, hw⟩
    · exact hn h1
    · rw [hk] at hq; cases hq
      rcases ho with ho | ho
      · rw [hc] at ho; cases ho
      · rw [hw] at ho; cases ho
theorem abd_below {B n : Nat} {nb row : Option Nat} {w W W' : World} (hg : W.grownBy W' row) (hB : n ≤ B) (hnb : NbOk (B + 2) nb)
    (hr : ∀ r, row = some r → (nb = some r ∧ ∃ o : Obj, W.heap[r]? = some o ∧ o.isCells = true) ∨ (B ≤ r ∧ ∃ o : Obj, W.heap[r]? = some o ∧ o.isCells = false ∧ o.isWalk = false))
    (h : Below n w W) (hn : n ≤ W.heap.size) : Below n w W' := h.grown hg hn fun k e => by
  rcases hr k e with ⟨h1, _⟩ | ⟨h1, _⟩
  · have := hnb k h1; omega
  · omega
theorem Keeps.putObj (w : World) (D : Nat) (o : Obj) : Keeps [D] w (w.putObj D o) :=
  ⟨by simp [World.putObj], fun j _ hj => World.putObj_heap_other (fun e => hj (by simp [e])), rfl, rfl, rfl⟩
theorem results_none' {P : Program} {f : Func} {t : Array Value} {w : World} (h : f.results = #[]) : (results f t).run P w = .ok (.tuple #[]) w := by simp [results, h, go_sem]
theorem setRow_alloc (w : World) (T : TypeId) (Z A : Array Value) : (w.alloc (.cells Z T)).setRow w.heap.size A = w.alloc (.cells A T) := by
  unfold World.setRow World.alloc
  congr 1
  apply Array.ext_getElem?
  intro i
  by_cases h : i = w.heap.size
  · subst h; rw [Array.getElem?_modify, Array.getElem?_push_size, Array.getElem?_push_size]; simp
  · by_cases h2 : i < w.heap.size
    · simp [Array.getElem?_modify, Array.getElem?_push_lt h2, Ne.symm h]
    · have h3 : w.heap.size < i := by omega
      simp [Array.getElem?_modify, Array.getElem?_push, h, Ne.symm h]
end Go.Proofs.YtdbbbaallalhoaaGreat.pm
