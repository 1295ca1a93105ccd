/-
  No cell of these rows narrows 'for every input' (looked for: loops, veiled, ifaces, maps, wideKeys, modest, calm, conditions, laid).
  DERIVED. THE GIVEN ROWS OF THIS SEAT. 2 by the template 'for every input the law returns true; each argument reads behind the call as it read before'; 0 by the template 'total and deterministic' (their statements: YtfjjiohclokohaaTotals.lean).
  GIVEN WITH THE SEED: the statements are not yours to turn. If you find one false, say at which input.
  Laid BY PROGRAM, IN A SANDBOX (cutbox-rows.mjs): the forced cells as the released guide's own fill.sh prints them over the translation 291df7a7b8a2259b… (all of the seat's roots in one cut). By AI agents, Wed Nov 11 2026. No macro, syntax, notation, axiom, sorry.
-/
import Derived.Test.YtfjjiohclokohaaChecked
import GoSem.Claim
import GoSem.ClaimJoined
import GoSem.ClaimMapViews
import Derived.JoinedTies
import Derived.KernelRfl
namespace Go.Proofs.Ytfjjiohclokohaa
/- THE CELL 'sum', in the pinned program and in every row, IS THE sha256 OF THE DUMP (.gsa) THAT YtfjjiohclokohaaProg.lean LOADS. Nothing in Lean hashes anything: it is a label: what it is worth is what the hold of that sum in a sandbox is worth. -/
noncomputable def Try.pinned : Pinned := { name := "ytfjjiohclokohaa", sum := "291df7a7b8a2259bf32b149e5f9f7c704e74577e4fe9408e9a0532502e8d010a", checked := Try.checked }
namespace Rows
def none {H : Type} : Left H := { results := [], args := [] }

/-- 'leveelaw31.TearCounts': WHATEVER THE INPUT: true; the input reads as it did. -/
def tearCountsSpec : ChangeSpec := { name := "tearCounts", fn := fun _ => fun
  | [d1, d2, d3, d4] => { results := [.lit (.bool true)], args := [d1, d2, d3, d4] }
  | _ => none }
def tearCountsRow : OpenClaim := { program := "ytfjjiohclokohaa", sum := "291df7a7b8a2259bf32b149e5f9f7c704e74577e4fe9408e9a0532502e8d010a", func := "levee/leveelaw31.TearCounts", spec := "tearCounts", inPlace := ["maps.clone"], unfollowed := true, recurses := true, apart := false }
def TearCountsSaid : Prop := tearCountsRow.holds Try.pinned (OpenSpec.ofChange tearCountsSpec)

/-- ITS FALSE NEIGHBOUR: 'it returns false'. Refute it at one input. -/
def tearCountsWrong : ChangeSpec := { name := "tearCounts", fn := fun _ => fun
  | [d1, d2, d3, d4] => { results := [.lit (.bool false)], args := [d1, d2, d3, d4] }
  | _ => none }
def TearCountsWrongFalsely : Prop := tearCountsRow.holds Try.pinned (OpenSpec.ofChange tearCountsWrong)

/-- 'leveelaw31.TearImages': WHATEVER THE INPUT: true; the input reads as it did. -/
def tearImagesSpec : ChangeSpec := { name := "tearImages", fn := fun _ => fun
  | [d1, d2, d3, d4] => { results := [.lit (.bool true)], args := [d1, d2, d3, d4] }
  | _ => none }
def tearImagesRow : OpenClaim := { program := "ytfjjiohclokohaa", sum := "291df7a7b8a2259bf32b149e5f9f7c704e74577e4fe9408e9a0532502e8d010a", func := "levee/leveelaw31.TearImages", spec := "tearImages", inPlace := ["maps.clone"], unfollowed := true, recurses := true, apart := false }
def TearImagesSaid : Prop := tearImagesRow.holds Try.pinned (OpenSpec.ofChange tearImagesSpec)

/-- ITS FALSE NEIGHBOUR: 'it returns false'. Refute it at one input. -/
def tearImagesWrong : ChangeSpec := { name := "tearImages", fn := fun _ => fun
  | [d1, d2, d3, d4] => { results := [.lit (.bool false)], args := [d1, d2, d3, d4] }
  | _ => none }
def TearImagesWrongFalsely : Prop := tearImagesRow.holds Try.pinned (OpenSpec.ofChange tearImagesWrong)

/- THE SECOND FORM. 'bulk': how many values and letters a reading holds, each counted each time it is reached (what is shared counts as often as it is met; a slice's spare places count too). A statement '..UptoSaid' is the law's where the arguments, and the package variables that the reading takes, are together of bulk at most 1048576: NARROWER than '..Said'. Prove '..Said' where nothing that the law and all that it calls make is longer than what came in: it says more and counts as full. Else prove '..UptoSaid'. A law counts once. -/
mutual
def uptoBulk {H : Type} : DataW H → Nat
  | .lit (.string bytes) => bytes.length + 1
  | .lit _ => 1
  | .nil => 1
  | .ptr d => uptoBulk d + 1
  | .slice elems spare => uptoBulkAll elems + uptoBulkAll spare + 1
  | .agg parts => uptoBulkAll parts + 1
  | .iface _ d => uptoBulk d + 1
  | .map entries => uptoBulkEntries entries + 1
  | .held _ => 1
def uptoBulkAll {H : Type} : List (DataW H) → Nat
  | [] => 0
  | d :: r => uptoBulk d + uptoBulkAll r
def uptoBulkEntries {H : Type} : List (Lit × DataW H) → Nat
  | [] => 0
  | x :: r => uptoBulkEntry x + uptoBulkEntries r
def uptoBulkEntry {H : Type} : Lit × DataW H → Nat
  | (.string bytes, d) => bytes.length + uptoBulk d + 1
  | (_, d) => uptoBulk d + 1
 end
def uptoSmall : (H : Type) → List (DataW H) → Bool := fun _ ds => decide (uptoBulkAll ds ≤ 1048576)
def OpenSpec.upto (s : _root_.Go.ChangeSpec) : _root_.Go.OpenSpec := { _root_.Go.OpenSpec.ofChange s with cond := some uptoSmall }

/-- 'leveelaw31.TearCounts', WHERE WHAT IT READS IS OF BULK AT MOST 1048576: true; the input reads as it did. -/
def tearCountsUptoRow : OpenClaim := { program := "ytfjjiohclokohaa", sum := "291df7a7b8a2259bf32b149e5f9f7c704e74577e4fe9408e9a0532502e8d010a", func := "levee/leveelaw31.TearCounts", spec := "tearCounts", inPlace := ["maps.clone"], unfollowed := true, recurses := true, apart := false, narrowed := true }
def TearCountsUptoSaid : Prop := tearCountsUptoRow.holds Try.pinned (OpenSpec.upto tearCountsSpec)

/-- 'leveelaw31.TearImages', WHERE WHAT IT READS IS OF BULK AT MOST 1048576: true; the input reads as it did. -/
def tearImagesUptoRow : OpenClaim := { program := "ytfjjiohclokohaa", sum := "291df7a7b8a2259bf32b149e5f9f7c704e74577e4fe9408e9a0532502e8d010a", func := "levee/leveelaw31.TearImages", spec := "tearImages", inPlace := ["maps.clone"], unfollowed := true, recurses := true, apart := false, narrowed := true }
def TearImagesUptoSaid : Prop := tearImagesUptoRow.holds Try.pinned (OpenSpec.upto tearImagesSpec)

end Rows
end Go.Proofs.Ytfjjiohclokohaa
