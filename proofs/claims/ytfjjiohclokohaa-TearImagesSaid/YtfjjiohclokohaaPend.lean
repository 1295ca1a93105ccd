/-
  PROVED HERE: Pending's contract. Conditions: the receiver is a memory.
-/
import Derived.Test.YtfjjiohclokohaaFlush
namespace Go.Proofs.Ytfjjiohclokohaa.pm
open Go.RowKit

def Mod.pend (M : Mod) (a : Int) : Nat := ((get M.lines (a - a % 64)).getD noLine).puts.length


theorem field_line (w : World) (sv : Value) (marks : List Int) : (Instr.field 75 (.agg (lineArr sv marks)) 0).run Try.prog w = .ok sv w := by
  have hl := run_underlying Try.underlying75 w
  simp [Instr.field, hl, part, isAgg, asAgg, lineArr]

set_option maxRecDepth 100000 in
set_option maxHeartbeats 400000 in
theorem pending_any {w : World} {b : Nat} {p : Pl} {M : Mod} (h : IsMem w b p M) (hn : 0 < M.view.length) (hn2 : M.view.length ≤ 131072)
    (a : Int) (h0 : 0 ≤ a) (h1 : a / 8 < M.view.length) (h8 : a % 8 = 0) :
    Calls Try.prog 24 #[.pointer (some ⟨b, 0, none⟩), .int .u64 a] w fun e w' => e = .returned (.int .i64 (M.pend a)) ∧ w' = w.drew := by
  have hat : atE M.view.length a = 0 := by unfold atE; rw [if_neg (by omega)]
  have d2 := h.blkAt.cells.2.2.1
  obtain ⟨sv, marks, puts, hget, hgetM, hmk, hrow, hblk⟩ := line_of h.lines (a - a % 64)
  have hlk : (Instr.lookup 64 (.map (some p.mb)) (.int .u64 (a - a % 64)) false).run Try.prog w.drew = .ok (.agg (lineArr sv marks)) w.drew := by
    rw [← hget]; exact run_lookup_u64 (w := w.drew) (h.map.same rfl) Try.underlying64 Try.underlying48 (lineZero _) _
  have hlen : ∃ ao cp, sv = .slice ao puts.length cp := by
    obtain ⟨_, ⟨rfl, h2⟩ | ⟨g, off, cap, cur, rfl, _⟩⟩ := hrow
    · exact ⟨none, 0, by rw [h2]⟩
    · exact ⟨_, _, rfl⟩
  obtain ⟨ao, cp, rfl⟩ := hlen
  have hfd := field_line w.drew (.slice ao puts.length cp) marks
  have hp : M.pend a = puts.length := by unfold Mod.pend; rw [hgetM]
  have HP := Lib.hid hp; clear hp hgetM hget
  have H8 := Lib.hid h8; clear h8
  have HM := Lib.hid hmk; clear hmk
  go_enter Try.func24, Try.ntmps24
  go_wp2_with (go_at_call 37; refine (at_any h.blkAt hn hn2 a h0 (by omega)).mono ?_; rintro e w' ⟨rfl, rfl⟩; rw [hat])
  refine wp_region_still_lit (by kernel_rfl) (by kernel_rfl) ?_
  still_step
  still_step
  still_step
  still_step
  still_step
  still_call ((begin_any _ _ h0 (by omega)).mono fun _ _ h => ⟨h.1, h.2.symm⟩)
  still_step
  still_step
  still_step
  still_step
  refine wpStill_nil ?_
  go_wp2
  go_ret
  exact ⟨by rw [HP.out]; rfl, rfl⟩
end Go.Proofs.Ytfjjiohclokohaa.pm
