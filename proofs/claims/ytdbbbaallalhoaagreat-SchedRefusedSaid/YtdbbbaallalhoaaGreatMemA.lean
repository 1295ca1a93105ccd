/-
  PROVED HERE: words on blocks of memory, and the contracts of the small functions of package pmem (there, at, begin, client, may, Size). Conditions: the receiver is a memory as 'MemAt' says, or nil.
-/
import Derived.Test.YtdbbbaallalhoaaGreatChecked
import Derived.WalkKit
import Derived.Lib.Hide
import Derived.IntWalk
import Derived.RowKit3
namespace Go.Proofs.YtdbbbaallalhoaaGreat.pm
open Go.RowKit

/-! ### one block -/
section
variable {w : World} {b i : Nat} {C : Array Value} {T : TypeId} {v : Value} {o : Obj}

theorem cell_of (h : w.heap[b]? = some (.cells C T (0, 0))) (hv : C[i]? = some v) : w.cell? ⟨b, i, none⟩ = some v := by
  simp [World.cell?, h, hv]
theorem free_of (h : w.heap[b]? = some (.cells C T (0, 0))) : w.frozen? ⟨b, i, none⟩ = false := by
  simp only [World.frozen?, h]; simp
theorem lt_of (h : w.heap[b]? = some o) : b < w.heap.size := (Array.getElem?_eq_some_iff.1 h).1
theorem set_same (h : w.heap[b]? = some (.cells C T (0, 0))) : (w.setCell ⟨b, i, none⟩ v).heap[b]? = some (.cells (C.setIfInBounds i v) T (0, 0)) := by
  simp [World.setCell, Array.getElem?_modify, h]
theorem set_other {b' : Nat} (hne : b ≠ b') : (w.setCell ⟨b, i, none⟩ v).heap[b']? = w.heap[b']? := by
  simp [World.setCell, Array.getElem?_modify, hne]
theorem alloc_new : (w.alloc o).heap[w.heap.size]? = some o := (MapKept.heap_alloc w _).1
theorem alloc_old {o' : Obj} (h : w.heap[b]? = some o') : (w.alloc o).heap[b]? = some o' := by
  have := lt_of h
  unfold World.alloc; rw [Array.getElem?_push_lt this]; rw [Array.getElem?_eq_getElem this] at h; exact h
end

theorem cell_set_ne {w : World} {b b' i j : Nat} {v : Value} (h : b ≠ b') : (w.setCell ⟨b, i, none⟩ v).cell? ⟨b', j, none⟩ = w.cell? ⟨b', j, none⟩ :=
  World.cell?_setCell_other _ _ _ _ (fun e => h (congrArg Addr.block e))
theorem cell_set_off {w : World} {b b' i j : Nat} {v : Value} (h : i ≠ j) : (w.setCell ⟨b, i, none⟩ v).cell? ⟨b', j, none⟩ = w.cell? ⟨b', j, none⟩ :=
  World.cell?_setCell_other _ _ _ _ (fun e => h (congrArg Addr.off e))

/-- A memory's own block: the two slices, the map's block, what was done. -/
def MemAt (w : World) (b : Nat) (vs is : Value) (mb : Nat) (s0 s1 s2 s3 : Int) : Prop :=
  w.heap[b]? = some (.cells #[vs, is, .map (some mb), .int .u64 s0, .int .u64 s1, .int .u64 s2, .int .u64 s3] 100 (0, 0))

section
variable {w : World} {b mb : Nat} {vs is : Value} {s0 s1 s2 s3 : Int}
theorem MemAt.cells (h : MemAt w b vs is mb s0 s1 s2 s3) : w.cell? ⟨b, 0, none⟩ = some vs ∧ w.cell? ⟨b, 1, none⟩ = some is ∧ w.cell? ⟨b, 2, none⟩ = some (.map (some mb))
    ∧ w.cell? ⟨b, 3, none⟩ = some (.int .u64 s0) ∧ w.cell? ⟨b, 4, none⟩ = some (.int .u64 s1) ∧ w.cell? ⟨b, 5, none⟩ = some (.int .u64 s2) ∧ w.cell? ⟨b, 6, none⟩ = some (.int .u64 s3) :=
  ⟨cell_of h rfl, cell_of h rfl, cell_of h rfl, cell_of h rfl, cell_of h rfl, cell_of h rfl, cell_of h rfl⟩
theorem MemAt.free (h : MemAt w b vs is mb s0 s1 s2 s3) (i : Nat) : w.frozen? ⟨b, i, none⟩ = false := free_of h
end

variable {w : World} {b mb n cap : Nat} {va : Addr} {is : Value} {s0 s1 s2 s3 : Int}

theorem there_nil (w : World) : Calls Tryz.prog 30 #[.pointer none] w fun e w' => e = .returned (.bool false) ∧ w = w' := by
  go_enter Tryz.func30, Tryz.ntmps30
  go_wp2
  go_ret
  exact ⟨rfl, rfl⟩

theorem there_yes (h : MemAt w b (.slice (some va) n cap) is mb s0 s1 s2 s3) (hn : 0 < n) :
    Calls Tryz.prog 30 #[.pointer (some ⟨b, 0, none⟩)] w fun e w' => e = .returned (.bool true) ∧ w = w' := by
  obtain ⟨c0, _⟩ := h.cells
  have hb : decide ((n : Int) > 0) = true := by simp; omega
  go_enter Tryz.func30, Tryz.ntmps30
  go_wp2
  go_ret
  exact ⟨rfl, rfl⟩

theorem begin_any (a : Int) (w : World) (h0 : 0 ≤ a) (h1 : a ≤ 18446744073709551615) :
    Calls Tryz.prog 219 #[.int .u64 a] w fun e w' => e = .returned (.int .u64 (a - a % 64)) ∧ w = w' := by
  go_enter Tryz.func219, Tryz.ntmps219
  go_wp2
  go_ret
  exact ⟨rfl, rfl⟩

/-- why a client's number is none -/
def cliE (c : Int) : Int := if c < 0 ∨ 64 < c then 2 else 0
theorem client_any (c : Int) (w : World) :
    Calls Tryz.prog 243 #[.int .i64 c] w fun e w' => e = .returned (.int .i64 (cliE c)) ∧ w = w' := by
  by_cases a : c < 0
  · have H := Lib.hid (show cliE c = 2 by unfold cliE; rw [if_pos (Or.inl a)])
    go_enter Tryz.func243, Tryz.ntmps243
    go_wp2
    go_ret
    exact ⟨by rw [H.out]; rfl, rfl⟩
  · by_cases b : 64 < c
    · have H := Lib.hid (show cliE c = 2 by unfold cliE; rw [if_pos (Or.inr b)])
      go_enter Tryz.func243, Tryz.ntmps243
      go_wp2
      go_ret
      exact ⟨by rw [H.out]; rfl, rfl⟩
    · have H := Lib.hid (show cliE c = 0 by unfold cliE; rw [if_neg (by omega)])
      go_enter Tryz.func243, Tryz.ntmps243
      go_wp2
      go_ret
      exact ⟨by rw [H.out]; rfl, rfl⟩

/-- why an address is no word's, of a memory of n words -/
def atE (n : Nat) (a : Int) : Int := if a % 8 ≠ 0 ∨ (n : Int) ≤ a / 8 then 3 else 0

theorem at_nil (a : Int) (w : World) : Calls Tryz.prog 175 #[.pointer none, .int .u64 a] w fun e w' => e = .returned (.int .i64 1) ∧ w = w' := by
  go_enter Tryz.func175, Tryz.ntmps175
  go_wp2_with (go_at_call 30; refine (there_nil _).mono ?_; rintro e w' ⟨rfl, rfl⟩)
  go_ret
  exact ⟨rfl, rfl⟩

theorem at_any (h : MemAt w b (.slice (some va) n cap) is mb s0 s1 s2 s3) (hn : 0 < n) (hn2 : n ≤ 131072) (a : Int) (h0 : 0 ≤ a) (h1 : a ≤ 18446744073709551615) :
    Calls Tryz.prog 175 #[.pointer (some ⟨b, 0, none⟩), .int .u64 a] w fun e w' => e = .returned (.int .i64 (atE n a)) ∧ w = w' := by
  obtain ⟨c0, _⟩ := h.cells
  by_cases p : a % 8 = 0
  · have p1 : (a % 8 == 0) = true := by simpa using p
    have p2 : (a % 8 != 0) = false := by simpa using p
    by_cases q : (n : Int) ≤ a / 8
    · have H := Lib.hid (show atE n a = 3 by unfold atE; rw [if_pos (Or.inr q)])
      have H' := Lib.hid p; clear p
      go_enter Tryz.func175, Tryz.ntmps175
      go_wp2_with (go_at_call 30; refine (there_yes h hn).mono ?_; rintro e w' ⟨rfl, rfl⟩)
      go_ret
      exact ⟨by rw [H.out]; rfl, rfl⟩
    · have H := Lib.hid (show atE n a = 0 by unfold atE; rw [if_neg (by omega)])
      have H' := Lib.hid p; clear p
      go_enter Tryz.func175, Tryz.ntmps175
      go_wp2_with (go_at_call 30; refine (there_yes h hn).mono ?_; rintro e w' ⟨rfl, rfl⟩)
      go_ret
      exact ⟨by rw [H.out]; rfl, rfl⟩
  · have p1 : (a % 8 == 0) = false := by simpa using p
    have p2 : (a % 8 != 0) = true := by simpa using p
    have H := Lib.hid (show atE n a = 3 by unfold atE; rw [if_pos (Or.inl p)])
    have H' := Lib.hid p; clear p
    go_enter Tryz.func175, Tryz.ntmps175
    go_wp2_with (go_at_call 30; refine (there_yes h hn).mono ?_; rintro e w' ⟨rfl, rfl⟩)
    go_ret
    exact ⟨by rw [H.out]; rfl, rfl⟩

theorem may_yes (k : Int) (w : World) (h0 : 64 ≤ k) (h1 : k ≤ 1048576) (h2 : k % 64 = 0) :
    Calls Tryz.prog 37 #[.int .i64 k] w fun e w' => e = .returned (.bool true) ∧ w = w' := by
  have p1 : (k % 64 == 0) = true := by simpa using h2
  have H' := Lib.hid h2; clear h2
  go_enter Tryz.func37, Tryz.ntmps37
  go_wp2
  go_ret
  exact ⟨rfl, rfl⟩

theorem size_any (h : MemAt w b (.slice (some va) n cap) is mb s0 s1 s2 s3) (hn : 0 < n) (hn2 : n ≤ 131072) :
    Calls Tryz.prog 51 #[.pointer (some ⟨b, 0, none⟩)] w fun e w' => e = .returned (.int .i64 (8 * n)) ∧ w = w' := by
  obtain ⟨c0, _⟩ := h.cells
  go_enter Tryz.func51, Tryz.ntmps51
  go_wp2_with (go_at_call 30; refine (there_yes h hn).mono ?_; rintro e w' ⟨rfl, rfl⟩)
  go_ret
  exact ⟨rfl, rfl⟩

theorem size_nil (w : World) : Calls Tryz.prog 51 #[.pointer none] w fun e w' => e = .returned (.int .i64 0) ∧ w = w' := by
  go_enter Tryz.func51, Tryz.ntmps51
  go_wp2_with (go_at_call 30; refine (there_nil _).mono ?_; rintro e w' ⟨rfl, rfl⟩)
  go_ret
  exact ⟨rfl, rfl⟩


end Go.Proofs.YtdbbbaallalhoaaGreat.pm
