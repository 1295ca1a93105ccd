/-
  No cell of these rows narrows 'for every input' (looked for: loops, veiled, ifaces, maps, wideKeys, modest, calm, conditions, laid).
  DERIVED. THE GIVEN ROWS OF THIS SEAT. 5 by the template 'for every input the law returns true; each argument reads behind the call as it read before'; 0 by the template 'total and deterministic' (their statements: YtelipbpnplcofaaGreatTotals.lean).
  GIVEN WITH THE SEED: the statements are not yours to turn. If you find one false, say at which input.
  Laid BY PROGRAM, IN A SANDBOX (cutbox-rows.mjs): the forced cells as the released guide's own fill.sh prints them over the translation 81d4f70dcca15a9f… (all of the seat's roots in one cut). By AI agents, Wed Nov 11 2026. No macro, syntax, notation, axiom, sorry.
-/
import Derived.Test.YtelipbpnplcofaaGreatChecked
import GoSem.Claim
import GoSem.ClaimJoined
import GoSem.ClaimMapViews
import Derived.JoinedTies
import Derived.KernelRfl
namespace Go.Proofs.YtelipbpnplcofaaGreat
/- THE CELL 'sum', in the pinned program and in every row, IS THE sha256 OF THE DUMP (.gsa) THAT YtelipbpnplcofaaGreatProg.lean LOADS. Nothing in Lean hashes anything: it is a label: what it is worth is what the hold of that sum in a sandbox is worth. -/
noncomputable def Tryz.pinned : Pinned := { name := "ytelipbpnplcofaagreat", sum := "81d4f70dcca15a9f07d83163d94665b050e8a57d48f19e073ad4a0a968b07e53", checked := Tryz.checked }
namespace Rows
def none {H : Type} : Left H := { results := [], args := [] }

/-- 'leveelaw18.ParentNil': WHATEVER THE INPUT: true; the input reads as it did. -/
def parentNilSpec : ChangeSpec := { name := "parentNil", fn := fun _ => fun
  | [] => { results := [.lit (.bool true)], args := [] }
  | _ => none }
def parentNilRow : OpenClaim := { program := "ytelipbpnplcofaagreat", sum := "81d4f70dcca15a9f07d83163d94665b050e8a57d48f19e073ad4a0a968b07e53", func := "levee/leveelaw18.ParentNil", spec := "parentNil", inPlace := ["maps.clone"], unfollowed := true, recurses := true, apart := false }
def ParentNilSaid : Prop := parentNilRow.holds Tryz.pinned (OpenSpec.ofChange parentNilSpec)

/-- ITS FALSE NEIGHBOUR: 'it returns false'. Refute it at one input. -/
def parentNilWrong : ChangeSpec := { name := "parentNil", fn := fun _ => fun
  | [] => { results := [.lit (.bool false)], args := [] }
  | _ => none }
def ParentNilWrongFalsely : Prop := parentNilRow.holds Tryz.pinned (OpenSpec.ofChange parentNilWrong)

/-- 'leveelaw18.ParentArgs': WHATEVER THE INPUT: true; the input reads as it did. -/
def parentArgsSpec : ChangeSpec := { name := "parentArgs", fn := fun _ => fun
  | [d1, d2, d3] => { results := [.lit (.bool true)], args := [d1, d2, d3] }
  | _ => none }
def parentArgsRow : OpenClaim := { program := "ytelipbpnplcofaagreat", sum := "81d4f70dcca15a9f07d83163d94665b050e8a57d48f19e073ad4a0a968b07e53", func := "levee/leveelaw18.ParentArgs", spec := "parentArgs", inPlace := ["maps.clone"], unfollowed := true, recurses := true, apart := false }
def ParentArgsSaid : Prop := parentArgsRow.holds Tryz.pinned (OpenSpec.ofChange parentArgsSpec)

/-- ITS FALSE NEIGHBOUR: 'it returns false'. Refute it at one input. -/
def parentArgsWrong : ChangeSpec := { name := "parentArgs", fn := fun _ => fun
  | [d1, d2, d3] => { results := [.lit (.bool false)], args := [d1, d2, d3] }
  | _ => none }
def ParentArgsWrongFalsely : Prop := parentArgsRow.holds Tryz.pinned (OpenSpec.ofChange parentArgsWrong)

/-- 'leveelaw20.DelNil': WHATEVER THE INPUT: true; the input reads as it did. -/
def delNilSpec : ChangeSpec := { name := "delNil", fn := fun _ => fun
  | [] => { results := [.lit (.bool true)], args := [] }
  | _ => none }
def delNilRow : OpenClaim := { program := "ytelipbpnplcofaagreat", sum := "81d4f70dcca15a9f07d83163d94665b050e8a57d48f19e073ad4a0a968b07e53", func := "levee/leveelaw20.DelNil", spec := "delNil", inPlace := ["maps.clone"], unfollowed := true, recurses := true, apart := false }
def DelNilSaid : Prop := delNilRow.holds Tryz.pinned (OpenSpec.ofChange delNilSpec)

/-- ITS FALSE NEIGHBOUR: 'it returns false'. Refute it at one input. -/
def delNilWrong : ChangeSpec := { name := "delNil", fn := fun _ => fun
  | [] => { results := [.lit (.bool false)], args := [] }
  | _ => none }
def DelNilWrongFalsely : Prop := delNilRow.holds Tryz.pinned (OpenSpec.ofChange delNilWrong)

/-- 'leveelaw19.PutNil': WHATEVER THE INPUT: true; the input reads as it did. -/
def putNilSpec : ChangeSpec := { name := "putNil", fn := fun _ => fun
  | [] => { results := [.lit (.bool true)], args := [] }
  | _ => none }
def putNilRow : OpenClaim := { program := "ytelipbpnplcofaagreat", sum := "81d4f70dcca15a9f07d83163d94665b050e8a57d48f19e073ad4a0a968b07e53", func := "levee/leveelaw19.PutNil", spec := "putNil", inPlace := ["maps.clone"], unfollowed := true, recurses := true, apart := false }
def PutNilSaid : Prop := putNilRow.holds Tryz.pinned (OpenSpec.ofChange putNilSpec)

/-- ITS FALSE NEIGHBOUR: 'it returns false'. Refute it at one input. -/
def putNilWrong : ChangeSpec := { name := "putNil", fn := fun _ => fun
  | [] => { results := [.lit (.bool false)], args := [] }
  | _ => none }
def PutNilWrongFalsely : Prop := putNilRow.holds Tryz.pinned (OpenSpec.ofChange putNilWrong)

/-- 'leveelaw26.SchedNil': WHATEVER THE INPUT: true; the input reads as it did. -/
def schedNilSpec : ChangeSpec := { name := "schedNil", fn := fun _ => fun
  | [] => { results := [.lit (.bool true)], args := [] }
  | _ => none }
def schedNilRow : OpenClaim := { program := "ytelipbpnplcofaagreat", sum := "81d4f70dcca15a9f07d83163d94665b050e8a57d48f19e073ad4a0a968b07e53", func := "levee/leveelaw26.SchedNil", spec := "schedNil", inPlace := ["maps.clone"], unfollowed := true, recurses := true, apart := false }
def SchedNilSaid : Prop := schedNilRow.holds Tryz.pinned (OpenSpec.ofChange schedNilSpec)

/-- ITS FALSE NEIGHBOUR: 'it returns false'. Refute it at one input. -/
def schedNilWrong : ChangeSpec := { name := "schedNil", fn := fun _ => fun
  | [] => { results := [.lit (.bool false)], args := [] }
  | _ => none }
def SchedNilWrongFalsely : Prop := schedNilRow.holds Tryz.pinned (OpenSpec.ofChange schedNilWrong)

/- THE SECOND FORM. 'bulk': how many values and letters a reading holds, each counted each time it is reached (what is shared counts as often as it is met; a slice's spare places count too). A statement '..UptoSaid' is the law's where the arguments, and the package variables that the reading takes, are together of bulk at most 1048576: NARROWER than '..Said'. Prove '..Said' where nothing that the law and all that it calls make is longer than what came in: it says more and counts as full. Else prove '..UptoSaid'. A law counts once. -/
mutual
def uptoBulk {H : Type} : DataW H → Nat
  | .lit (.string bytes) => bytes.length + 1
  | .lit _ => 1
  | .nil => 1
  | .ptr d => uptoBulk d + 1
  | .slice elems spare => uptoBulkAll elems + uptoBulkAll spare + 1
  | .agg parts => uptoBulkAll parts + 1
  | .iface _ d => uptoBulk d + 1
  | .map entries => uptoBulkEntries entries + 1
  | .held _ => 1
def uptoBulkAll {H : Type} : List (DataW H) → Nat
  | [] => 0
  | d :: r => uptoBulk d + uptoBulkAll r
def uptoBulkEntries {H : Type} : List (Lit × DataW H) → Nat
  | [] => 0
  | x :: r => uptoBulkEntry x + uptoBulkEntries r
def uptoBulkEntry {H : Type} : Lit × DataW H → Nat
  | (.string bytes, d) => bytes.length + uptoBulk d + 1
  | (_, d) => uptoBulk d + 1
 end
def uptoSmall : (H : Type) → List (DataW H) → Bool := fun _ ds => decide (uptoBulkAll ds ≤ 1048576)
def OpenSpec.upto (s : _root_.Go.ChangeSpec) : _root_.Go.OpenSpec := { _root_.Go.OpenSpec.ofChange s with cond := some uptoSmall }

/-- 'leveelaw18.ParentNil', WHERE WHAT IT READS IS OF BULK AT MOST 1048576: true; the input reads as it did. -/
def parentNilUptoRow : OpenClaim := { program := "ytelipbpnplcofaagreat", sum := "81d4f70dcca15a9f07d83163d94665b050e8a57d48f19e073ad4a0a968b07e53", func := "levee/leveelaw18.ParentNil", spec := "parentNil", inPlace := ["maps.clone"], unfollowed := true, recurses := true, apart := false, narrowed := true }
def ParentNilUptoSaid : Prop := parentNilUptoRow.holds Tryz.pinned (OpenSpec.upto parentNilSpec)

/-- 'leveelaw18.ParentArgs', WHERE WHAT IT READS IS OF BULK AT MOST 1048576: true; the input reads as it did. -/
def parentArgsUptoRow : OpenClaim := { program := "ytelipbpnplcofaagreat", sum := "81d4f70dcca15a9f07d83163d94665b050e8a57d48f19e073ad4a0a968b07e53", func := "levee/leveelaw18.ParentArgs", spec := "parentArgs", inPlace := ["maps.clone"], unfollowed := true, recurses := true, apart := false, narrowed := true }
def ParentArgsUptoSaid : Prop := parentArgsUptoRow.holds Tryz.pinned (OpenSpec.upto parentArgsSpec)

/-- 'leveelaw20.DelNil', WHERE WHAT IT READS IS OF BULK AT MOST 1048576: true; the input reads as it did. -/
def delNilUptoRow : OpenClaim := { program := "ytelipbpnplcofaagreat", sum := "81d4f70dcca15a9f07d83163d94665b050e8a57d48f19e073ad4a0a968b07e53", func := "levee/leveelaw20.DelNil", spec := "delNil", inPlace := ["maps.clone"], unfollowed := true, recurses := true, apart := false, narrowed := true }
def DelNilUptoSaid : Prop := delNilUptoRow.holds Tryz.pinned (OpenSpec.upto delNilSpec)

/-- 'leveelaw19.PutNil', WHERE WHAT IT READS IS OF BULK AT MOST 1048576: true; the input reads as it did. -/
def putNilUptoRow : OpenClaim := { program := "ytelipbpnplcofaagreat", sum := "81d4f70dcca15a9f07d83163d94665b050e8a57d48f19e073ad4a0a968b07e53", func := "levee/leveelaw19.PutNil", spec := "putNil", inPlace := ["maps.clone"], unfollowed := true, recurses := true, apart := false, narrowed := true }
def PutNilUptoSaid : Prop := putNilUptoRow.holds Tryz.pinned (OpenSpec.upto putNilSpec)

/-- 'leveelaw26.SchedNil', WHERE WHAT IT READS IS OF BULK AT MOST 1048576: true; the input reads as it did. -/
def schedNilUptoRow : OpenClaim := { program := "ytelipbpnplcofaagreat", sum := "81d4f70dcca15a9f07d83163d94665b050e8a57d48f19e073ad4a0a968b07e53", func := "levee/leveelaw26.SchedNil", spec := "schedNil", inPlace := ["maps.clone"], unfollowed := true, recurses := true, apart := false, narrowed := true }
def SchedNilUptoSaid : Prop := schedNilUptoRow.holds Tryz.pinned (OpenSpec.upto schedNilSpec)

end Rows
end Go.Proofs.YtelipbpnplcofaaGreat
