/-
  PROVED HERE: sched's Invoke: a client that there is not, one that is busy, a call that may not be: its error, and nothing is turned; else the client has a machine, and the history one entry more. Conditions: the table lies as named.
-/
import Derived.Test.YtdbbbaallalhoaaGreatSiE
namespace Go.Proofs.YtdbbbaallalhoaaGreat.si
open Go.RowKit Go.Proofs.YtdbbbaallalhoaaGreat.pm Go.Proofs.YtdbbbaallalhoaaGreat.ar Go.Proofs.YtdbbbaallalhoaaGreat.bt Go.Proofs.YtdbbbaallalhoaaGreat.sl Go.Proofs.YtdbbbaallalhoaaGreat.rn
set_option linter.unusedVariables false
attribute [-go_sem] Builtin.append_ Instr.buildSlice Instr.build

/-- A table of two clients, with a history of n entries. -/
structure Tab (W : World) (tb stb cb : Nat) (m0 m1 : Value) (i0 i1 : Int) (hv : Value) (n : Nat) (xs : List Value) : Prop where
  blk : W.heap[tb]? = some (.cells (tbArr stb (.slice (some ⟨cb, 0, none⟩) 2 2) hv n) 83 (0, 0))
  cl : W.heap[cb]? = some (.cells #[m0, .int .i64 i0, m1, .int .i64 i1] 80 (0, 0))
  hist : RowAt W 72 11 hv n xs
  few : n ≤ 100
section
variable {W W' : World} {tb stb cb n : Nat} {m0 m1 : Value} {i0 i1 : Int} {hv : Value} {xs : List Value}
theorem Tab.keeps (h : Tab W tb stb cb m0 m1 i0 i1 hv n xs) (hk : Keeps [] W W') : Tab W' tb stb cb m0 m1 i0 i1 hv n xs :=
  ⟨(hk.block tb (lt_of h.blk) (by simp)).trans h.blk, (hk.block cb (lt_of h.cl) (by simp)).trans h.cl, h.hist.same fun q hq => hk.block q (h.hist.lt hq) (by simp), h.few⟩
theorem Tab.cells (h : Tab W tb stb cb m0 m1 i0 i1 hv n xs) : W.cell? ⟨tb, 0, none⟩ = some (.pointer (some ⟨stb, 0, none⟩)) ∧ W.cell? ⟨tb, 1, none⟩ = some (.slice (some ⟨cb, 0, none⟩) 2 2) ∧ W.cell? ⟨tb, 2, none⟩ = some hv ∧ W.cell? ⟨tb, 3, none⟩ = some (.int .i64 n) :=
  ⟨cell_of h.blk rfl, cell_of h.blk rfl, cell_of h.blk rfl, cell_of h.blk rfl⟩

set_option maxRecDepth 100000 in
set_option maxHeartbeats 1000000 in
theorem invoke_noc (h : Tab W tb stb cb m0 m1 i0 i1 hv n xs) (c op k hi l : Int) (v : ByteArray) (hc : ¬ (0 ≤ c ∧ c < 2)) :
    Calls Tryz.prog 6 #[.pointer (some ⟨tb, 0, none⟩), .int .i64 c, .agg (caArr op k hi l v)] W fun e w' => e = .returned (.int .i64 12) ∧ Keeps [] W w' := by
  obtain ⟨W1, hW1⟩ : ∃ W1, W1 = W.alloc (.cells (caArr op k hi l v) 28) := ⟨_, rfl⟩
  have hk1 : Keeps [] W W1 := by rw [hW1]; exact Keeps.alloc _ _
  have h1 := h.keeps hk1
  obtain ⟨c0, c1, c2, c3⟩ := h1.cells
  have HH := Lib.hid (has_no c0 c1 c (by omega))
  have HK := Lib.hid hk1
  have hal : W.alloc (.cells (caArr op k hi l v) 28) = W1 := hW1.symm
  unfold caArr at hal ⊢
  clear h h1 hk1 hW1 hc
  go_enter Tryz.func6, Tryz.ntmps6
  go_wp2_with fail
  refine HH.out.mono ?_
  rintro e w1 ⟨rfl, rfl⟩
  go_wp2_with fail
  go_ret
  exact ⟨rfl, HK.out⟩
set_option maxRecDepth 100000 in
set_option maxHeartbeats 1000000 in
theorem invoke_busy {T : TypeId} {p : Value} (h : Tab W tb stb cb (.iface T p) m1 i0 i1 hv n xs) (op k hi l : Int) (v : ByteArray) :
    Calls Tryz.prog 6 #[.pointer (some ⟨tb, 0, none⟩), .int .i64 (0 : Nat), .agg (caArr op k hi l v)] W fun e w' => e = .returned (.int .i64 13) ∧ Keeps [] W w' := by
  obtain ⟨W1, hW1⟩ : ∃ W1, W1 = W.alloc (.cells (caArr op k hi l v) 28) := ⟨_, rfl⟩
  have hk1 : Keeps [] W W1 := by rw [hW1]; exact Keeps.alloc _ _
  have h1 := h.keeps hk1
  obtain ⟨c0, c1, c2, c3⟩ := h1.cells
  have HH := Lib.hid (has_yes c0 c1 0 (by omega))
  have d0 : W1.cell? ⟨cb, 0, none⟩ = some (.iface T p) := cell_of h1.cl rfl
  have HK := Lib.hid hk1
  have hal : W.alloc (.cells (caArr op k hi l v) 28) = W1 := hW1.symm
  unfold caArr at hal ⊢
  clear h h1 hk1 hW1
  go_enter Tryz.func6, Tryz.ntmps6
  go_wp2_with fail
  refine HH.out.mono ?_
  rintro e w1 ⟨rfl, rfl⟩
  go_wp2_with fail
  go_ret
  exact ⟨rfl, HK.out⟩
set_option maxRecDepth 100000 in
set_option maxHeartbeats 1000000 in
theorem invoke_bad (h : Tab W tb stb cb m0 .nilIface i0 i1 hv n xs) (op k hi l : Int) (v : ByteArray) (hm : mayE op k hi l v ≠ 0) :
    Calls Tryz.prog 6 #[.pointer (some ⟨tb, 0, none⟩), .int .i64 (1 : Nat), .agg (caArr op k hi l v)] W fun e w' => e = .returned (.int .i64 (mayE op k hi l v)) ∧ Keeps [] W w' := by
  obtain ⟨W1, hW1⟩ : ∃ W1, W1 = W.alloc (.cells (caArr op k hi l v) 28) := ⟨_, rfl⟩
  have hk1 : Keeps [] W W1 := by rw [hW1]; exact Keeps.alloc _ _
  have h1 := h.keeps hk1
  obtain ⟨c0, c1, c2, c3⟩ := h1.cells
  have hb1 : W1.heap[W.heap.size]? = some (.cells (caArr op k hi l v) 28 (0, 0)) := by rw [hW1]; exact alloc_new
  have HH := Lib.hid (has_yes c0 c1 1 (by omega))
  have d0 : W1.cell? ⟨cb, 2, none⟩ = some .nilIface := cell_of h1.cl rfl
  have k0 : W1.cell? ⟨W.heap.size, 0, none⟩ = some (.int .i64 op) := cell_of hb1 rfl
  have k1 : W1.cell? ⟨W.heap.size, 1, none⟩ = some (.int .u64 k) := cell_of hb1 rfl
  have k2 : W1.cell? ⟨W.heap.size, 2, none⟩ = some (.int .u64 hi) := cell_of hb1 rfl
  have k3 : W1.cell? ⟨W.heap.size, 3, none⟩ = some (.int .i64 l) := cell_of hb1 rfl
  have k4 : W1.cell? ⟨W.heap.size, 4, none⟩ = some (.string v) := cell_of hb1 rfl
  have HM := Lib.hid (may_any op k hi l v W1)
  have HK := Lib.hid hk1
  have hal : W.alloc (.cells (caArr op k hi l v) 28) = W1 := hW1.symm
  obtain ⟨x, hx⟩ : ∃ x, x = mayE op k hi l v := ⟨_, rfl⟩
  rw [← hx] at HM hm ⊢
  have b0 : (x == 0) = false := by simpa using hm
  have b1 : (x != 0) = true := by simpa using hm
  unfold caArr at hal HM ⊢
  clear h h1 hk1 hW1 hb1 hx hm
  go_enter Tryz.func6, Tryz.ntmps6
  go_wp2_with fail
  refine HH.out.mono ?_
  rintro e w1 ⟨rfl, rfl⟩
  go_wp2_with fail
  refine HM.out.mono ?_
  rintro e w2 ⟨rfl, hk2⟩
  have HK2 := Lib.hid hk2; clear hk2
  go_wp2_with fail
  go_ret
  exact ⟨rfl, HK.out.trans HK2.out (by simp)⟩

/-- An entry of the history. -/
def dnL (c op k hi l : Int) (v : ByteArray) (begun : Int) : List Value := [.int .i64 c, .int .i64 op, .int .u64 k, .int .u64 hi, .int .i64 l, .string v, .int .i64 begun, .int .i64 (-1), .int .i64 0, .string ByteArray.empty, .slice none 0 0]
def InvP (W : World) (tb stb cb j : Nat) (cs : Array Value) (n : Nat) (hv : Value) (xs : List Value) (c op k hi l : Int) (v : ByteArray) (e : Ending) (w' : World) : Prop :=
  ∃ T b hv', e = .returned (.int .i64 0) ∧ w'.heap[tb]? = some (.cells (tbArr stb (.slice (some ⟨cb, 0, none⟩) 2 2) hv' (n + 1 : Nat)) 83 (0, 0)) ∧ w'.heap[cb]? = some (.cells ((cs.setIfInBounds (j * 2) (.iface T (.pointer (some ⟨b, 0, none⟩)))).setIfInBounds (j * 2 + 1) (.int .i64 n)) 80 (0, 0))
    ∧ RowAt w' 72 11 hv' (n + 1) (xs ++ dnL c op k hi l v n) ∧ Keeps (tb :: cb :: hv.ownBlock.toList) W w' ∧ (hv'.ownBlock = hv.ownBlock ∨ ∃ q, hv'.ownBlock = some q ∧ W.heap.size ≤ q)
end
set_option maxRecDepth 1000000 in
theorem built_client (T : TypeId) (b n : Nat) : Tryz.prog.built 80 [(0, .iface T (.pointer (some ⟨b, 0, none⟩))), (1, .int .i64 n)] = some #[.iface T (.pointer (some ⟨b, 0, none⟩)), .int .i64 n] := by kernel_rfl
set_option maxRecDepth 1000000 in
theorem built_done (c op k hi l n : Int) (v : ByteArray) : Tryz.prog.built 72 [(0, .int .i64 c), (1, .agg (caArr op k hi l v)), (2, .int .i64 n), (3, .int .i64 (-1))] = some (dnL c op k hi l v n).toArray := by kernel_rfl
theorem zero_mk (w : World) : (zeroValue 85).run Tryz.prog w = .ok .nilFunc w := by kernel_rfl
end Go.Proofs.YtdbbbaallalhoaaGreat.si
