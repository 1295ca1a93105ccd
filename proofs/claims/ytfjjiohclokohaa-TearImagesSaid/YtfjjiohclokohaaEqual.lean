/-
  PROVED HERE: the contracts of slices.Equal at uint64 and api.Put, where both slices hold the same: true. Conditions: the slices are read, and few.
-/
import Derived.Test.YtfjjiohclokohaaCopy
namespace Go.Proofs.Ytfjjiohclokohaa.pm
open Go.RowKit

set_option maxRecDepth 100000 in
set_option maxHeartbeats 1000000 in
theorem equalU64_same {w : World} {v v' : Value} {xs : List Int} (h : Reads w v xs.length (xs.map (Value.int .u64))) (h' : Reads w v' xs.length (xs.map (Value.int .u64))) (hn : xs.length ≤ 131072) :
    Calls Try.prog 32 #[v, v'] w fun e w' => e = .returned (.bool true) ∧ Keeps [] w w' ∧ w'.heap = w.heap := by
  have sh : ∀ {v : Value}, Reads w v xs.length (xs.map (Value.int .u64)) → ∃ ao cp, v = .slice ao xs.length cp := by
    rintro v (⟨rfl, h2, _⟩ | ⟨a, cap, rfl, _⟩)
    · exact ⟨none, 0, by rw [h2]⟩
    · exact ⟨_, _, rfl⟩
  obtain ⟨ao, cp, rfl⟩ := sh h
  obtain ⟨ao', cp', rfl⟩ := sh h'
  clear sh
  have rd : ∀ {ao : Option Addr} {cp : Nat} {wr : World}, Reads w (.slice ao xs.length cp) xs.length (xs.map (Value.int .u64)) → wr.heap = w.heap → ∀ (j : Nat) (x : Int), xs[j]? = some x → ∃ b off, ao = some ⟨b, off, none⟩ ∧ wr.cell? ⟨b, off + j, none⟩ = some (.int .u64 x) := by
    intro ao cp wr hr hh j x hx
    rcases hr with ⟨e, h2, _⟩ | ⟨a, cap, e, ha, hc⟩
    · have := (List.getElem?_eq_some_iff.1 hx).1; omega
    · obtain ⟨b, off, sp⟩ := a
      cases ha
      exact ⟨b, off, (Value.slice.inj e).1, by rw [World.cell?_of_block (w := w) (by rw [hh])]; exact hc j _ (by simp [hx])⟩
  have H := Lib.hid h; clear h
  have H' := Lib.hid h'; clear h'
  go_enter Try.func32, Try.ntmps32
  go_wp2_with fail
  go_loopw [5, 13] (fun _ s13 wr => ∃ j : Nat, j ≤ xs.length ∧ s13 = .int .i64 j ∧ wr.heap = w.heap ∧ Keeps [] w wr) (fun _ s13 _ => xs.length - (intOf s13).toNat)
  case atStart => exact ⟨0, Nat.zero_le _, rfl, rfl, Keeps.refl _ _⟩
  case round =>
    obtain ⟨j, hj, rfl, hh, hk⟩ := hrel
    by_cases hlt : j < xs.length
    · obtain ⟨x, hx⟩ : ∃ x, xs[j]? = some x := ⟨_, List.getElem?_eq_getElem hlt⟩
      obtain ⟨b, off, rfl, c1⟩ := rd H.out hh j x hx
      obtain ⟨b', off', rfl, c2⟩ := rd H'.out hh j x hx
      have HHH := Lib.hid hh; clear hh
      have HX := Lib.hid hx; clear hx
      have c1' : wr.drew.cell? ⟨b, off + j, none⟩ = some (.int .u64 x) := c1
      have c2' : wr.drew.cell? ⟨b', off' + j, none⟩ = some (.int .u64 x) := c2
      go_wp2_with fail
      refine wp_region_still_lit (by kernel_rfl) (by kernel_rfl) ?_
      iterate 9 still_step
      refine wpStill_nil ?_
      go_wp2_with fail
      go_roundw
      case rel => exact ⟨j + 1, by omega, by go_num, HHH.out, hk.trans (Keeps.drew wr) (by simp)⟩
      case measure => simp [intOf]; omega
    · have HHH := Lib.hid hh; clear hh
      go_wp2_with fail
      go_ret
      exact ⟨rfl, hk, HHH.out⟩

set_option maxRecDepth 100000 in
set_option maxHeartbeats 1000000 in
theorem equalPut_same {w : World} {v v' : Value} {xs : List (Int × Int)} (h : Reads w v xs.length (flat xs)) (h' : Reads w v' xs.length (flat xs)) (hn : xs.length ≤ 1000000) :
    Calls Try.prog 35 #[v, v'] w fun e w' => e = .returned (.bool true) ∧ Keeps [] w w' ∧ w'.heap = w.heap := by
  have sh : ∀ {v : Value}, Reads w v xs.length (flat xs) → ∃ ao cp, v = .slice ao xs.length cp := by
    rintro v (⟨rfl, h2, _⟩ | ⟨a, cap, rfl, _⟩)
    · exact ⟨none, 0, by rw [h2]⟩
    · exact ⟨_, _, rfl⟩
  obtain ⟨ao, cp, rfl⟩ := sh h
  obtain ⟨ao', cp', rfl⟩ := sh h'
  clear sh
  have rd : ∀ {ao : Option Addr} {cp : Nat} {wr : World}, Reads w (.slice ao xs.length cp) xs.length (flat xs) → wr.heap = w.heap → ∀ (j : Nat) (x : Int × Int), xs[j]? = some x → ∃ b off, ao = some ⟨b, off, none⟩ ∧ (wr.cell? ⟨b, off + j * 2, none⟩ = some (.int .u64 x.1) ∧ wr.cell? ⟨b, off + j * 2 + 1, none⟩ = some (.int .u64 x.2)) := by
    intro ao cp wr hr hh j x hx
    rcases hr with ⟨e, h2, _⟩ | ⟨a, cap, e, ha, hc⟩
    · have := (List.getElem?_eq_some_iff.1 hx).1; omega
    · obtain ⟨b, off, sp⟩ := a
      cases ha
      exact ⟨b, off, (Value.slice.inj e).1, by
        have hf := flat_get xs j x hx
        have same : ∀ i, wr.cell? ⟨b, i, none⟩ = w.cell? ⟨b, i, none⟩ := fun i => World.cell?_of_block (by rw [hh])
        refine ⟨?_, ?_⟩
        · rw [same, Nat.mul_comm]; exact hc _ _ hf.1
        · rw [same, Nat.mul_comm, Nat.add_assoc]; exact hc _ _ hf.2⟩
  have H := Lib.hid h; clear h
  have H' := Lib.hid h'; clear h'
  go_enter Try.func35, Try.ntmps35
  go_wp2_with fail
  go_loopw [5, 13] (fun _ s13 wr => ∃ j : Nat, j ≤ xs.length ∧ s13 = .int .i64 j ∧ wr.heap = w.heap ∧ Keeps [] w wr) (fun _ s13 _ => xs.length - (intOf s13).toNat)
  case atStart => exact ⟨0, Nat.zero_le _, rfl, rfl, Keeps.refl _ _⟩
  case round =>
    obtain ⟨j, hj, rfl, hh, hk⟩ := hrel
    by_cases hlt : j < xs.length
    · obtain ⟨x, hx⟩ : ∃ x, xs[j]? = some x := ⟨_, List.getElem?_eq_getElem hlt⟩
      obtain ⟨b, off, rfl, c1, d1⟩ := rd H.out hh j x hx
      obtain ⟨b', off', rfl, c2, d2⟩ := rd H'.out hh j x hx
      have HHH := Lib.hid hh; clear hh
      have HX := Lib.hid hx; clear hx
      go_wp2_with fail
      refine wp_region_still_lit (by kernel_rfl) (by kernel_rfl) ?_
      iterate 9 still_step
      refine wpStill_nil ?_
      go_wp2_with fail
      go_roundw
      case rel => exact ⟨j + 1, by omega, by go_num, HHH.out, hk.trans (Keeps.drew wr) (by simp)⟩
      case measure => simp [intOf]; omega
    · have HHH := Lib.hid hh; clear hh
      go_wp2_with fail
      go_ret
      exact ⟨rfl, hk, HHH.out⟩
end Go.Proofs.Ytfjjiohclokohaa.pm
