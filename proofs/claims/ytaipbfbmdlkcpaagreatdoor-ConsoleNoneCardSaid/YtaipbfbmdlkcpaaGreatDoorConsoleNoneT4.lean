/-
  PROVED HERE: a fact on how the program lays its variables, by the kernel. Conditions: none.
-/
import Derived.Test.YtaipbfbmdlkcpaaGreatDoorConsoleNoneT0
namespace Go.Proofs.YtaipbfbmdlkcpaaGreatDoor.consoleNone
open Go
/-- a place's own number -/
noncomputable def codeP (p : MemPlace) : Nat := match p with | .cell b o => Nat.mul 2 (Nat.add (Nat.mul b 512) o) | .map b => Nat.succ (Nat.mul 2 (Nat.mul b 512))
/-- no place twice: by a number of bits -/
noncomputable def distinctF (l : List MemPlace) : Nat → Bool :=
  List.rec (motive := fun _ => Nat → Bool) (fun _ => true) (fun p _ ih m => match Nat.testBit m (codeP p) with | true => false | false => ih (Nat.lor m (Nat.pow 2 (codeP p)))) l
theorem distinctF_cons (p : MemPlace) (l : List MemPlace) (m : Nat) : distinctF (p :: l) m = match Nat.testBit m (codeP p) with | true => false | false => distinctF l (Nat.lor m (Nat.pow 2 (codeP p))) := rfl
theorem distinctF_nodup : ∀ (l : List MemPlace) (m : Nat), distinctF l m = true → l.Nodup ∧ ∀ p ∈ l, Nat.testBit m (codeP p) = false
  | [], _, _ => ⟨List.nodup_nil, fun p hp => by cases hp⟩
  | p :: l, m, h => by
    rw [distinctF_cons] at h
    split at h
    · cases h
    · rename_i hb
      obtain ⟨h1, h2⟩ := distinctF_nodup l _ h
      have h3 : ∀ q ∈ l, Nat.testBit m (codeP q) = false ∧ codeP q ≠ codeP p := fun q hq => by
        have := h2 q hq
        change Nat.testBit (m ||| 2 ^ codeP p) (codeP q) = false at this
        rw [Nat.testBit_or, Bool.or_eq_false_iff] at this
        refine ⟨this.1, fun e => ?_⟩
        rw [e, Nat.testBit_two_pow_self] at this
        cases this.2
      refine ⟨List.nodup_cons.2 ⟨fun hp => (h3 p hp).2 rfl, h1⟩, fun q hq => ?_⟩
      rcases List.mem_cons.1 hq with rfl | hq
      · exact hb
      · exact (h3 q hq).1
set_option maxRecDepth 1000000 in
theorem tie2b : ∀ os tape, (DataW.laidRun Tryz.prog (varsWorld Tryz.prog 400 (varsId Tryz.prog) os tape).memory 8 (tieL.map (·.1))).map (fun x => distinctF x.2 0) = some true := fun _ _ => by kernel_rfl
end Go.Proofs.YtaipbfbmdlkcpaaGreatDoor.consoleNone
