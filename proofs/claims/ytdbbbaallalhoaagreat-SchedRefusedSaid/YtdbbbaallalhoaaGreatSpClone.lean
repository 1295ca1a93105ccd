/-
  PROVED HERE: the contracts of slices.Clone at uint64, api.Put and int: a new slice of the same cells (nil of nil). Conditions: what is read is few.
-/
import Derived.Test.YtdbbbaallalhoaaGreatSpBytes
import Derived.WalkSpells
namespace Go.Proofs.YtdbbbaallalhoaaGreat.pm
open Go.RowKit

theorem u64Info : (Tryz.prog.info? 26).map (fun i => (i.zero, i.size, i.bytes)) = some (some (.int .u64 0), 1, 8) := by kernel_rfl
theorem intInfo : (Tryz.prog.info? 3).map (fun i => (i.zero, i.size, i.bytes)) = some (some (.int .i64 0), 1, 8) := by kernel_rfl

/-- What Clone leaves: nothing that was is turned; the copy lies in new memory. -/
def ClonePost (T : TypeId) (sz : Nat) (w : World) (v : Value) (n : Nat) (xs : List Value) (e : Ending) (w' : World) : Prop :=
  ∃ v', e = .returned v' ∧ RowAt w' T sz v' n xs ∧ Keeps [] w w' ∧ (∀ g, v'.ownBlock = some g → w.heap.size ≤ g) ∧ (v = .slice none 0 0 → v' = .slice none 0 0) ∧ (∀ a m c, v = .slice (some a) m c → ∃ g off cap, v' = .slice (some ⟨g, off, none⟩) n cap)

set_option maxRecDepth 100000 in
set_option maxHeartbeats 400000 in
theorem cloneU64_any {w : World} {v : Value} {n : Nat} {xs : List Value} (h : Reads w v n xs) (hl : xs.length = n * 1) (h1 : ∀ u ∈ xs, u.oneCell' = true) (hn : n ≤ 4194304) :
    Calls Tryz.prog 39 #[v] w (ClonePost 26 1 w v n xs) := by
  obtain ⟨i0, hi0, hz0, hz1, hz2⟩ := info_parts u64Info
  rcases h with ⟨rfl, rfl, rfl⟩ | ⟨a, cap, rfl, ha, hc⟩
  · have hq := fun w => Lib.run_eql_slice_nil (P := Tryz.prog) w 22 _ none 0 0 0 0 Tryz.underlying22
    go_enter Tryz.func39, Tryz.ntmps39
    go_wp2_with fail
    go_ret
    exact ⟨.slice none 0 0, rfl, RowAt.nil w _ _, Keeps.refl _ _, fun g hg => by simp [Value.ownBlock] at hg, fun _ => rfl, fun a m c e => by cases e⟩
  · have hq := fun w => Lib.run_eql_slice_nil (P := Tryz.prog) w 22 _ (some a) n cap 0 0 Tryz.underlying22
    have hA : ∀ o, Reads (w.alloc o) (.slice (some a) n cap) n xs := fun o => .inr ⟨a, cap, rfl, ha, fun j u hj => by
      have hx := hc j u hj
      rw [World.cell?_of_block ((MapKept.heap_alloc w o).2 _ (World.block_lt_of_cell? _ _ hx))]; exact hx⟩
    have HAL := Lib.hid hA; clear hA hc
    have HL := Lib.hid hl; clear hl
    have H1 := Lib.hid h1; clear h1
    go_enter Tryz.func39, Tryz.ntmps39
    go_wp2_with (at_builtin; refine wpList_append_row _ rfl _ _ 22 rfl 26 i0 (.int .u64 0) 1 8 Tryz.underlying22 hi0 hz0 hz1 hz2 rfl (.slice (some ⟨w.heap.size, 0, none⟩) 0 0) (.slice (some a) n cap) rfl rfl 0 [] ⟨by simp, .inr ⟨w.heap.size, 0, 0, #[], rfl, alloc_new (w := w), Nat.le_refl _, Nat.zero_le _, by simp, by simp⟩⟩ n xs (HAL.out _) HL.out H1.out (by unfold maxLen; omega) (by omega) ?_)
    intro v' w1 hrow hgr hblk hsl
    have hsl2 : ∃ g off cp, v' = .slice (some ⟨g, off, none⟩) n cp := by
      obtain ⟨_, ⟨e, h0⟩ | ⟨g, off, cap', cur, e, _⟩⟩ := hrow
      · exfalso
        rcases hblk with h2 | ⟨g, h2, _⟩
        · rw [e] at h2; simp [Value.ownBlock] at h2
        · rw [e] at h2; simp [Value.ownBlock] at h2
      · exact ⟨g, off, cap', by rw [e]⟩
    have R := Lib.hid (And.intro hrow (And.intro hgr (And.intro hblk hsl2))); clear hrow hgr hblk hsl hsl2
    go_wp2_with fail
    go_ret
    obtain ⟨hrow, hgr, hblk, hsl2⟩ := R.out
    refine ⟨v', rfl, by simpa using hrow, ?_, ?_, (fun e => by cases e), fun _ _ _ _ => hsl2⟩
    · exact (Keeps.alloc w _).trans (Keeps.grown hgr) (fun i hi => .inr (by simp [Value.ownBlock] at hi; omega))
    · intro g hg
      rcases hblk with h2 | ⟨g2, h2, h3⟩
      · rw [h2] at hg; simp [Value.ownBlock] at hg; omega
      · rw [h2] at hg; cases hg; omega
end Go.Proofs.YtdbbbaallalhoaaGreat.pm
