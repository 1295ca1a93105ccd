/-
  PROVED HERE (plain): what parse says of the wrong texts of ScriptWrong. Conditions: none.
-/
import Derived.Test.YtnnahodajiolmaaGreatDoorScPLaw
namespace Go.Proofs.YtnnahodajiolmaaGreatDoor.sc
open Go.RowKit
set_option linter.unusedVariables false

def wrHead : Bs := [108, 101, 118, 101, 101, 32, 49, 32, 49, 10]
def wrFirst : List Bs := [[], [108, 101, 118, 101, 101, 32, 48, 32, 49, 10], [108, 101, 118, 101, 101, 32, 49, 32, 54, 53, 10], [108, 101, 118, 101, 101, 32, 49, 32, 49], [108, 101, 118, 101, 101, 32, 48, 49, 32, 49, 10], [108, 101, 118, 101, 101, 32, 49, 32, 49, 32, 49, 10]]
def wrNext : List Bs := [[111, 112, 101, 110], [111, 112, 101, 110, 32, 10], [112, 105, 99, 107, 32, 48, 10], [112, 105, 99, 107, 32, 48, 32, 48, 10], [98, 111, 111, 116, 32, 49, 48, 48, 48, 48, 49, 10], [99, 114, 97, 115, 104, 32, 48, 49, 10], [105, 110, 118, 111, 107, 101, 32, 48, 32, 112, 117, 116, 32, 49, 32, 10], [105, 110, 118, 111, 107, 101, 32, 48, 32, 103, 101, 116, 32, 49, 56, 52, 52, 54, 55, 52, 52, 48, 55, 51, 55, 48, 57, 53, 53, 49, 54, 49, 54, 10], [110, 111, 110, 101, 10], [10]]
def wrLong : Bs := [108, 101, 118, 101, 101, 32, 49, 32, 49, 10, 98, 111, 111, 116, 32, 49, 48, 48, 48, 48, 48, 10, 111, 112, 101, 110, 10]
def wrPick : Bs := [108, 101, 118, 101, 101, 32, 49, 32, 49, 10, 112, 105, 99, 107, 32, 49, 32, 50, 10, 112, 105, 99, 107, 32, 49, 32, 51, 10]
def wrBoot : Bs := [108, 101, 118, 101, 101, 32, 49, 32, 49, 10, 98, 111, 111, 116, 32, 48, 10]
theorem wr_first : ∀ t ∈ wrFirst, parseP t = (Sc.zero, 1, 11) := by decide +kernel
theorem wr_next : ∀ t ∈ wrNext, parseP (wrHead ++ t) = (Sc.zero, 2, 11) := by decide +kernel
theorem wr_pick : parseP wrPick = (Sc.zero, 3, 11) := by decide +kernel
theorem wr_boot : parseP wrBoot = (Sc.zero, 2, 11) := by decide +kernel
theorem wr_long : parseP wrLong = (Sc.zero, 3, 10) := by
  have h1 : linesL wrLong = [wrHead, [98, 111, 111, 116, 32, 49, 48, 48, 48, 48, 48, 10], [111, 112, 101, 110, 10]] := by decide +kernel
  have h2 : stepP 0 (Sc.zero, Ac.zero) wrHead = .ok (⟨1, 1, []⟩, Ac.zero) := by kernel_rfl
  have h3 : lineOf [98, 111, 111, 116, 32, 49, 48, 48, 48, 48, 48] = some (⟨7, 0, Cl.zero, 0, 0, []⟩, 100000) := by decide +kernel
  have h4 : lineOf [111, 112, 101, 110] = some (⟨5, 0, Cl.zero, 0, 0, []⟩, 1) := by decide +kernel
  have s2 := stepP_go (k := 1) (st := (⟨1, 1, []⟩, Ac.zero)) (line := [98, 111, 111, 116, 32, 49, 48, 48, 48, 48, 48, 10]) (by decide) (bd := [98, 111, 111, 116, 32, 49, 48, 48, 48, 48, 48]) (by decide +kernel) h3 (by decide +kernel) (by decide)
  have s3 : ∀ m : Nat, m = 100000 → stepP 2 (⟨1, 1, [] ++ List.replicate m ⟨7, 0, Cl.zero, 0, 0, []⟩⟩, ⟨7, 0, Cl.zero, 0, 0, []⟩) [111, 112, 101, 110, 10] = .error 10 := fun m hm =>
    stepP_many (st := (⟨1, 1, [] ++ List.replicate m ⟨7, 0, Cl.zero, 0, 0, []⟩⟩, ⟨7, 0, Cl.zero, 0, 0, []⟩)) (by decide) (bd := [111, 112, 101, 110]) (by decide +kernel) h4 (by rintro (h | ⟨_, h, _⟩) <;> revert h <;> decide +kernel) (by
      show (100000 : Int) - ((([] : List Ac) ++ List.replicate m (⟨7, 0, Cl.zero, 0, 0, []⟩ : Ac)).length : Int) < 1
      rw [List.nil_append, List.length_replicate, hm]; decide)
  rw [parseP, if_neg (by decide), h1, foldP, h2]
  dsimp only
  rw [foldP, s2]
  dsimp only
  rw [foldP, s3 (Int.toNat 100000) (by decide)]
  rfl
theorem wr_few1 : ∀ t ∈ wrFirst, t.length ≤ 100 := by decide +kernel
theorem wr_few2 : ∀ t ∈ wrNext, t.length ≤ 50 ∧ (wrHead ++ t).length ≤ 100 := by decide +kernel
theorem wr_few3 : wrLong.length ≤ 100 ∧ wrPick.length ≤ 100 ∧ wrBoot.length ≤ 100 := by decide +kernel
end Go.Proofs.YtnnahodajiolmaaGreatDoor.sc
