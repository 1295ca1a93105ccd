/-
  PROVED HERE: Evict's contract, at a number that is not below 0. Conditions: the receiver is a memory, the address a word's.
-/
import Derived.Test.YtfjjiohclokohaaWf
namespace Go.Proofs.Ytfjjiohclokohaa.pm
open Go.RowKit

set_option maxHeartbeats 400000 in
theorem evict_any {w : World} {b : Nat} {p : Pl} {M : Mod} (h : IsMem w b p M) (hw : WF M) (a : Int) (h0 : 0 ≤ a) (h1 : a / 8 < M.view.length) (h8 : a % 8 = 0) (n : Nat) (hn : n ≤ 4611686018427387904) :
    Calls Try.prog 17 #[.pointer (some ⟨b, 0, none⟩), .int .u64 a, .int .i64 n] w fun e w' =>
      e = .returned (.tuple #[.int .i64 (min n (M.pendK (a - a % 64)) : Nat), .int .i64 0]) ∧ ∃ p', IsMem w' b p' (M.last (a - a % 64) (min n (M.pendK (a - a % 64)))) ∧ Keeps (p.foot b) w w' ∧ ∀ i ∈ p'.foot b, i ∈ p.foot b ∨ w.heap.size ≤ i := by
  have hat : atE M.view.length a = 0 := by unfold atE; rw [if_neg (by omega)]
  have hpos := hw.pos
  have hsmall := hw.small
  have hs2 : M.image.length ≤ 131072 := by rw [hw.len]; exact hsmall
  have H8 := Lib.hid h8; clear h8
  go_enter Try.func17, Try.ntmps17
  go_wp2_with fail
  refine (at_any h.blkAt hpos hsmall a h0 (by omega)).mono ?_; rintro e w' ⟨rfl, rfl⟩
  rw [hat]
  clear hat
  go_wp2_with fail
  refine (begin_any a _ h0 (by omega)).mono ?_; rintro e w' ⟨rfl, rfl⟩
  go_wp2_with fail
  refine (last_any h hw.putsIn hw.marksIn hs2 (a - a % 64) n hn).mono ?_
  rintro e w' ⟨rfl, hpost⟩
  have HP := Lib.hid hpost; clear hpost
  generalize hg : min n (M.pendK (a - a % 64)) = r at *
  have HG := Lib.hid hg; clear hg
  go_wp2_with fail
  go_ret2
  exact ⟨by rw [HG.out]; rfl, by rw [HG.out]; exact HP.out⟩
end Go.Proofs.Ytfjjiohclokohaa.pm
