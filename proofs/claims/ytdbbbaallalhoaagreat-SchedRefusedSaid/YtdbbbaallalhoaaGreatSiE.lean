/-
  PROVED HERE: the closures that make a call's machine (makes), the table of them, has, and sched's Invoke. Conditions: the tables lie as named.
-/
import Derived.Test.YtdbbbaallalhoaaGreatSiD
import Derived.Test.YtdbbbaallalhoaaGreatSiC
import Derived.Test.YtdbbbaallalhoaaGreatArF
import Derived.Test.YtdbbbaallalhoaaGreatMapI
namespace Go.Proofs.YtdbbbaallalhoaaGreat.si
open Go.RowKit Go.Proofs.YtdbbbaallalhoaaGreat.pm Go.Proofs.YtdbbbaallalhoaaGreat.ar Go.Proofs.YtdbbbaallalhoaaGreat.bt Go.Proofs.YtdbbbaallalhoaaGreat.sl Go.Proofs.YtdbbbaallalhoaaGreat.rn
set_option linter.unusedVariables false
attribute [-go_sem] Builtin.append_ Instr.buildSlice Instr.build

/-- A machine behind an interface. -/
def MkP (T : TypeId) (w : World) (e : Ending) (w' : World) : Prop := ∃ b, e = .returned (.iface T (.pointer (some ⟨b, 0, none⟩))) ∧ Keeps [] w w'
set_option maxRecDepth 100000 in
set_option maxHeartbeats 1000000 in
theorem mk1_any {w : World} {tbx cbx tb : Nat} {s : Option Addr} {c : Int} (op ky h l : Int) (v : ByteArray) (h1 : w.cell? ⟨tbx, 0, none⟩ = some (.pointer (some ⟨tb, 0, none⟩))) (h2 : w.cell? ⟨tb, 0, none⟩ = some (.pointer s)) (h3 : w.cell? ⟨cbx, 0, none⟩ = some (.int .i64 c)) :
    Calls Tryz.prog 60 #[.agg (caArr op ky h l v), .pointer (some ⟨tbx, 0, none⟩), .pointer (some ⟨cbx, 0, none⟩)] w (MkP 145 w) := by
  obtain ⟨W1, hW1⟩ : ∃ W1, W1 = w.alloc (.cells (caArr op ky h l v) 28) := ⟨_, rfl⟩
  have hk1 : Keeps [] w W1 := by rw [hW1]; exact Keeps.alloc _ _
  have hb1 : W1.heap[w.heap.size]? = some (.cells (caArr op ky h l v) 28 (0, 0)) := by rw [hW1]; exact alloc_new
  have g1 : W1.cell? ⟨tbx, 0, none⟩ = some (.pointer (some ⟨tb, 0, none⟩)) := by rw [World.cell?_of_block (hk1.block tbx (World.block_lt_of_cell? _ _ h1) (by simp))]; exact h1
  have g2 : W1.cell? ⟨tb, 0, none⟩ = some (.pointer s) := by rw [World.cell?_of_block (hk1.block tb (World.block_lt_of_cell? _ _ h2) (by simp))]; exact h2
  have g3 : W1.cell? ⟨cbx, 0, none⟩ = some (.int .i64 c) := by rw [World.cell?_of_block (hk1.block cbx (World.block_lt_of_cell? _ _ h3) (by simp))]; exact h3
  have k1 : W1.cell? ⟨w.heap.size, 1, none⟩ = some (.int .u64 ky) := cell_of hb1 rfl
  have k2 : W1.cell? ⟨w.heap.size, 2, none⟩ = some (.int .u64 h) := cell_of hb1 rfl
  have k3 : W1.cell? ⟨w.heap.size, 3, none⟩ = some (.int .i64 l) := cell_of hb1 rfl
  have k4 : W1.cell? ⟨w.heap.size, 4, none⟩ = some (.string v) := cell_of hb1 rfl
  have HN := Lib.hid (putNew_any s c ky v W1.drew)
  have HK := Lib.hid hk1
  have hal : w.alloc (.cells (caArr op ky h l v) 28) = W1 := hW1.symm
  unfold caArr at hal ⊢
  clear h1 h2 h3 hb1 hk1 hW1
  go_enter Tryz.func60, Tryz.ntmps60
  go_wp2_with fail
  refine wp_region_still_tail 9 (by kernel_rfl) (by kernel_rfl) ?_
  simp only [List.take_succ_cons, List.take_zero, List.drop_succ_cons, List.drop_zero]
  refine wpStill_hide (fun KK hKK => ?_)
  iterate 9 still_step
  refine wpStill_nil (hKK _ ?_)
  clear hKK KK
  have hdr : ({ W1 with drawn := W1.drawn + 1 } : World) = W1.drew := rfl
  rw [hdr]
  clear hdr
  go_wp2_with fail
  refine HN.out.mono ?_
  rintro e w2 ⟨b, rfl, hk2⟩
  have HK2 := Lib.hid hk2; clear hk2
  go_wp2_with fail
  go_ret
  exact ⟨b, rfl, (HK.out.trans (Keeps.drew _) (by simp)).trans HK2.out (by simp)⟩
set_option maxRecDepth 100000 in
set_option maxHeartbeats 1000000 in
theorem mk2_any {w : World} {tbx cbx tb : Nat} {s : Option Addr} {c : Int} (op ky h l : Int) (v : ByteArray) (h1 : w.cell? ⟨tbx, 0, none⟩ = some (.pointer (some ⟨tb, 0, none⟩))) (h2 : w.cell? ⟨tb, 0, none⟩ = some (.pointer s)) (h3 : w.cell? ⟨cbx, 0, none⟩ = some (.int .i64 c)) :
    Calls Tryz.prog 62 #[.agg (caArr op ky h l v), .pointer (some ⟨tbx, 0, none⟩), .pointer (some ⟨cbx, 0, none⟩)] w (MkP 147 w) := by
  obtain ⟨W1, hW1⟩ : ∃ W1, W1 = w.alloc (.cells (caArr op ky h l v) 28) := ⟨_, rfl⟩
  have hk1 : Keeps [] w W1 := by rw [hW1]; exact Keeps.alloc _ _
  have hb1 : W1.heap[w.heap.size]? = some (.cells (caArr op ky h l v) 28 (0, 0)) := by rw [hW1]; exact alloc_new
  have g1 : W1.cell? ⟨tbx, 0, none⟩ = some (.pointer (some ⟨tb, 0, none⟩)) := by rw [World.cell?_of_block (hk1.block tbx (World.block_lt_of_cell? _ _ h1) (by simp))]; exact h1
  have g2 : W1.cell? ⟨tb, 0, none⟩ = some (.pointer s) := by rw [World.cell?_of_block (hk1.block tb (World.block_lt_of_cell? _ _ h2) (by simp))]; exact h2
  have g3 : W1.cell? ⟨cbx, 0, none⟩ = some (.int .i64 c) := by rw [World.cell?_of_block (hk1.block cbx (World.block_lt_of_cell? _ _ h3) (by simp))]; exact h3
  have k1 : W1.cell? ⟨w.heap.size, 1, none⟩ = some (.int .u64 ky) := cell_of hb1 rfl
  have k2 : W1.cell? ⟨w.heap.size, 2, none⟩ = some (.int .u64 h) := cell_of hb1 rfl
  have k3 : W1.cell? ⟨w.heap.size, 3, none⟩ = some (.int .i64 l) := cell_of hb1 rfl
  have k4 : W1.cell? ⟨w.heap.size, 4, none⟩ = some (.string v) := cell_of hb1 rfl
  have HN := Lib.hid (getNew_any s c ky W1.drew)
  have HK := Lib.hid hk1
  have hal : w.alloc (.cells (caArr op ky h l v) 28) = W1 := hW1.symm
  unfold caArr at hal ⊢
  clear h1 h2 h3 hb1 hk1 hW1
  go_enter Tryz.func62, Tryz.ntmps62
  go_wp2_with fail
  refine wp_region_still_tail 7 (by kernel_rfl) (by kernel_rfl) ?_
  simp only [List.take_succ_cons, List.take_zero, List.drop_succ_cons, List.drop_zero]
  refine wpStill_hide (fun KK hKK => ?_)
  iterate 7 still_step
  refine wpStill_nil (hKK _ ?_)
  clear hKK KK
  have hdr : ({ W1 with drawn := W1.drawn + 1 } : World) = W1.drew := rfl
  rw [hdr]
  clear hdr
  go_wp2_with fail
  refine HN.out.mono ?_
  rintro e w2 ⟨b, rfl, hk2⟩
  have HK2 := Lib.hid hk2; clear hk2
  go_wp2_with fail
  go_ret
  exact ⟨b, rfl, (HK.out.trans (Keeps.drew _) (by simp)).trans HK2.out (by simp)⟩
set_option maxRecDepth 100000 in
set_option maxHeartbeats 1000000 in
theorem mk3_any {w : World} {tbx cbx tb : Nat} {s : Option Addr} {c : Int} (op ky h l : Int) (v : ByteArray) (h1 : w.cell? ⟨tbx, 0, none⟩ = some (.pointer (some ⟨tb, 0, none⟩))) (h2 : w.cell? ⟨tb, 0, none⟩ = some (.pointer s)) (h3 : w.cell? ⟨cbx, 0, none⟩ = some (.int .i64 c)) :
    Calls Tryz.prog 64 #[.agg (caArr op ky h l v), .pointer (some ⟨tbx, 0, none⟩), .pointer (some ⟨cbx, 0, none⟩)] w (MkP 149 w) := by
  obtain ⟨W1, hW1⟩ : ∃ W1, W1 = w.alloc (.cells (caArr op ky h l v) 28) := ⟨_, rfl⟩
  have hk1 : Keeps [] w W1 := by rw [hW1]; exact Keeps.alloc _ _
  have hb1 : W1.heap[w.heap.size]? = some (.cells (caArr op ky h l v) 28 (0, 0)) := by rw [hW1]; exact alloc_new
  have g1 : W1.cell? ⟨tbx, 0, none⟩ = some (.pointer (some ⟨tb, 0, none⟩)) := by rw [World.cell?_of_block (hk1.block tbx (World.block_lt_of_cell? _ _ h1) (by simp))]; exact h1
  have g2 : W1.cell? ⟨tb, 0, none⟩ = some (.pointer s) := by rw [World.cell?_of_block (hk1.block tb (World.block_lt_of_cell? _ _ h2) (by simp))]; exact h2
  have g3 : W1.cell? ⟨cbx, 0, none⟩ = some (.int .i64 c) := by rw [World.cell?_of_block (hk1.block cbx (World.block_lt_of_cell? _ _ h3) (by simp))]; exact h3
  have k1 : W1.cell? ⟨w.heap.size, 1, none⟩ = some (.int .u64 ky) := cell_of hb1 rfl
  have k2 : W1.cell? ⟨w.heap.size, 2, none⟩ = some (.int .u64 h) := cell_of hb1 rfl
  have k3 : W1.cell? ⟨w.heap.size, 3, none⟩ = some (.int .i64 l) := cell_of hb1 rfl
  have k4 : W1.cell? ⟨w.heap.size, 4, none⟩ = some (.string v) := cell_of hb1 rfl
  have HN := Lib.hid (delNew_any s c ky W1.drew)
  have HK := Lib.hid hk1
  have hal : w.alloc (.cells (caArr op ky h l v) 28) = W1 := hW1.symm
  unfold caArr at hal ⊢
  clear h1 h2 h3 hb1 hk1 hW1
  go_enter Tryz.func64, Tryz.ntmps64
  go_wp2_with fail
  refine wp_region_still_tail 7 (by kernel_rfl) (by kernel_rfl) ?_
  simp only [List.take_succ_cons, List.take_zero, List.drop_succ_cons, List.drop_zero]
  refine wpStill_hide (fun KK hKK => ?_)
  iterate 7 still_step
  refine wpStill_nil (hKK _ ?_)
  clear hKK KK
  have hdr : ({ W1 with drawn := W1.drawn + 1 } : World) = W1.drew := rfl
  rw [hdr]
  clear hdr
  go_wp2_with fail
  refine HN.out.mono ?_
  rintro e w2 ⟨b, rfl, hk2⟩
  have HK2 := Lib.hid hk2; clear hk2
  go_wp2_with fail
  go_ret
  exact ⟨b, rfl, (HK.out.trans (Keeps.drew _) (by simp)).trans HK2.out (by simp)⟩
set_option maxRecDepth 100000 in
set_option maxHeartbeats 1000000 in
theorem mk4_any {w : World} {tbx cbx tb : Nat} {s : Option Addr} {c : Int} (op ky h l : Int) (v : ByteArray) (h1 : w.cell? ⟨tbx, 0, none⟩ = some (.pointer (some ⟨tb, 0, none⟩))) (h2 : w.cell? ⟨tb, 0, none⟩ = some (.pointer s)) (h3 : w.cell? ⟨cbx, 0, none⟩ = some (.int .i64 c)) :
    Calls Tryz.prog 66 #[.agg (caArr op ky h l v), .pointer (some ⟨tbx, 0, none⟩), .pointer (some ⟨cbx, 0, none⟩)] w (MkP 151 w) := by
  obtain ⟨W1, hW1⟩ : ∃ W1, W1 = w.alloc (.cells (caArr op ky h l v) 28) := ⟨_, rfl⟩
  have hk1 : Keeps [] w W1 := by rw [hW1]; exact Keeps.alloc _ _
  have hb1 : W1.heap[w.heap.size]? = some (.cells (caArr op ky h l v) 28 (0, 0)) := by rw [hW1]; exact alloc_new
  have g1 : W1.cell? ⟨tbx, 0, none⟩ = some (.pointer (some ⟨tb, 0, none⟩)) := by rw [World.cell?_of_block (hk1.block tbx (World.block_lt_of_cell? _ _ h1) (by simp))]; exact h1
  have g2 : W1.cell? ⟨tb, 0, none⟩ = some (.pointer s) := by rw [World.cell?_of_block (hk1.block tb (World.block_lt_of_cell? _ _ h2) (by simp))]; exact h2
  have g3 : W1.cell? ⟨cbx, 0, none⟩ = some (.int .i64 c) := by rw [World.cell?_of_block (hk1.block cbx (World.block_lt_of_cell? _ _ h3) (by simp))]; exact h3
  have k1 : W1.cell? ⟨w.heap.size, 1, none⟩ = some (.int .u64 ky) := cell_of hb1 rfl
  have k2 : W1.cell? ⟨w.heap.size, 2, none⟩ = some (.int .u64 h) := cell_of hb1 rfl
  have k3 : W1.cell? ⟨w.heap.size, 3, none⟩ = some (.int .i64 l) := cell_of hb1 rfl
  have k4 : W1.cell? ⟨w.heap.size, 4, none⟩ = some (.string v) := cell_of hb1 rfl
  have HN := Lib.hid (scanNew_any s c ky h l W1.drew)
  have HK := Lib.hid hk1
  have hal : w.alloc (.cells (caArr op ky h l v) 28) = W1 := hW1.symm
  unfold caArr at hal ⊢
  clear h1 h2 h3 hb1 hk1 hW1
  go_enter Tryz.func66, Tryz.ntmps66
  go_wp2_with fail
  refine wp_region_still_tail 11 (by kernel_rfl) (by kernel_rfl) ?_
  simp only [List.take_succ_cons, List.take_zero, List.drop_succ_cons, List.drop_zero]
  refine wpStill_hide (fun KK hKK => ?_)
  iterate 11 still_step
  refine wpStill_nil (hKK _ ?_)
  clear hKK KK
  have hdr : ({ W1 with drawn := W1.drawn + 1 } : World) = W1.drew := rfl
  rw [hdr]
  clear hdr
  go_wp2_with fail
  refine HN.out.mono ?_
  rintro e w2 ⟨b, rfl, hk2⟩
  have HK2 := Lib.hid hk2; clear hk2
  go_wp2_with fail
  go_ret
  exact ⟨b, rfl, (HK.out.trans (Keeps.drew _) (by simp)).trans HK2.out (by simp)⟩

theorem tthere_any {w : World} {tb : Nat} {a : Addr} (h : w.cell? ⟨tb, 0, none⟩ = some (.pointer (some a))) : Calls Tryz.prog 27 #[.pointer (some ⟨tb, 0, none⟩)] w fun e w' => e = .returned (.bool true) ∧ w = w' := by
  go_enter Tryz.func27, Tryz.ntmps27
  go_wp2
  go_ret
  exact ⟨rfl, rfl⟩
theorem has_yes {w : World} {tb : Nat} {a : Addr} {ao : Option Addr} {n cp : Nat} (h : w.cell? ⟨tb, 0, none⟩ = some (.pointer (some a))) (h2 : w.cell? ⟨tb, 1, none⟩ = some (.slice ao n cp)) (c : Nat) (hc : c < n) : Calls Tryz.prog 23 #[.pointer (some ⟨tb, 0, none⟩), .int .i64 c] w fun e w' => e = .returned (.int .i64 0) ∧ w = w' := by
  have HT := Lib.hid (tthere_any h)
  have n1 : ¬ (c : Int) < 0 := by omega
  have n2 : ¬ n ≤ c := by omega
  have n3 : decide (n ≤ c) = false := by simp; omega
  go_enter Tryz.func23, Tryz.ntmps23
  go_wp2_with fail
  refine HT.out.mono ?_
  rintro e w1 ⟨rfl, rfl⟩
  go_wp2_with fail
  go_ret
  exact ⟨rfl, rfl⟩
theorem has_no {w : World} {tb : Nat} {a : Addr} {ao : Option Addr} {n cp : Nat} (h : w.cell? ⟨tb, 0, none⟩ = some (.pointer (some a))) (h2 : w.cell? ⟨tb, 1, none⟩ = some (.slice ao n cp)) (c : Int) (hc : ¬ (0 ≤ c ∧ c < n)) : Calls Tryz.prog 23 #[.pointer (some ⟨tb, 0, none⟩), .int .i64 c] w fun e w' => e = .returned (.int .i64 12) ∧ w = w' := by
  have HT := Lib.hid (tthere_any h)
  by_cases n1 : c < 0
  · go_enter Tryz.func23, Tryz.ntmps23
    go_wp2_with fail
    refine HT.out.mono ?_
    rintro e w1 ⟨rfl, rfl⟩
    go_wp2_with fail
    go_ret
    exact ⟨rfl, rfl⟩
  · have n2 : (n : Int) ≤ c := by omega
    go_enter Tryz.func23, Tryz.ntmps23
    go_wp2_with fail
    refine HT.out.mono ?_
    rintro e w1 ⟨rfl, rfl⟩
    go_wp2_with fail
    go_ret
    exact ⟨rfl, rfl⟩

/-- The table of makers. -/
def mkL (tbx cbx : Nat) : List (Int × Value) := [(1, .func (.func 60) #[] #[.pointer (some ⟨tbx, 0, none⟩), .pointer (some ⟨cbx, 0, none⟩)]), (2, .func (.func 62) #[] #[.pointer (some ⟨tbx, 0, none⟩), .pointer (some ⟨cbx, 0, none⟩)]), (3, .func (.func 64) #[] #[.pointer (some ⟨tbx, 0, none⟩), .pointer (some ⟨cbx, 0, none⟩)]), (4, .func (.func 66) #[] #[.pointer (some ⟨tbx, 0, none⟩), .pointer (some ⟨cbx, 0, none⟩)])]
def MakesP (w : World) (tb : Nat) (c : Int) (e : Ending) (w' : World) : Prop := ∃ mb tbx cbx, e = .returned (.map (some mb)) ∧ mi.MapIs w' mb (mkL tbx cbx) ∧ Boxed w' tbx 35 (.pointer (some ⟨tb, 0, none⟩)) ∧ Boxed w' cbx 3 (.int .i64 c) ∧ Keeps [] w w'
set_option maxRecDepth 100000 in
set_option maxHeartbeats 1000000 in
theorem makes_any (tb : Nat) (c : Int) (w : World) : Calls Tryz.prog 25 #[.pointer (some ⟨tb, 0, none⟩), .int .i64 c] w (MakesP w tb c) := by
  have hmm := @run_makeMap Tryz.prog
  obtain ⟨W1, hW1⟩ : ∃ W1, W1 = w.alloc (.cells #[.pointer (some ⟨tb, 0, none⟩)] 35) := ⟨_, rfl⟩
  obtain ⟨W2, hW2⟩ : ∃ W2, W2 = W1.alloc (.cells #[.int .i64 c] 3) := ⟨_, rfl⟩
  obtain ⟨W3, hW3⟩ : ∃ W3, W3 = W2.alloc (.map #[] 0) := ⟨_, rfl⟩
  have s1 : W1.heap.size = w.heap.size + 1 := by rw [hW1]; simp
  have s2 : W2.heap.size = w.heap.size + 1 + 1 := by rw [hW2]; simp [s1]
  obtain ⟨mb, hmb⟩ : ∃ mb, mb = w.heap.size + 1 + 1 := ⟨_, rfl⟩
  obtain ⟨tbx, htbx⟩ : ∃ tbx, tbx = w.heap.size := ⟨_, rfl⟩
  obtain ⟨cbx, hcbx⟩ : ∃ cbx, cbx = w.heap.size + 1 := ⟨_, rfl⟩
  have b1 : Boxed W3 tbx 35 (.pointer (some ⟨tb, 0, none⟩)) := by rw [hW3, hW2, htbx]; refine alloc_old (alloc_old ?_); rw [hW1]; exact alloc_new
  have b2 : Boxed W3 cbx 3 (.int .i64 c) := by rw [hW3, hcbx, ← s1]; refine alloc_old ?_; rw [hW2]; exact alloc_new
  have m3 : mi.MapIs W3 mb [] := by
    have : W3.heap[mb]? = some (.map #[] 0) := by rw [hW3, hmb, ← s2]; exact alloc_new
    exact ⟨#[], 0, this, by simp [mi.Ents], by simp, by simp⟩
  have hk3 : Keeps [] w W3 := by rw [hW3, hW2, hW1]; exact ((Keeps.alloc w _).trans (Keeps.alloc _ _) (by simp)).trans (Keeps.alloc _ _) (by simp)
  obtain ⟨e4, k4, u4, m4⟩ := mi.run_update_i64 (P := Tryz.prog) (T := 86) (K := 25) m3 Tryz.underlying86 Tryz.underlying25 1 (.func (.func 60) #[] #[.pointer (some ⟨tbx, 0, none⟩), .pointer (some ⟨cbx, 0, none⟩)])
  obtain ⟨W4, hW4⟩ : ∃ W4, W4 = putB W3 mb (.map e4 k4) := ⟨_, rfl⟩
  rw [← hW4] at u4 m4
  obtain ⟨e5, k5, u5, m5⟩ := mi.run_update_i64 (P := Tryz.prog) (T := 86) (K := 25) m4 Tryz.underlying86 Tryz.underlying25 2 (.func (.func 62) #[] #[.pointer (some ⟨tbx, 0, none⟩), .pointer (some ⟨cbx, 0, none⟩)])
  obtain ⟨W5, hW5⟩ : ∃ W5, W5 = putB W4 mb (.map e5 k5) := ⟨_, rfl⟩
  rw [← hW5] at u5 m5
  obtain ⟨e6, k6, u6, m6⟩ := mi.run_update_i64 (P := Tryz.prog) (T := 86) (K := 25) m5 Tryz.underlying86 Tryz.underlying25 3 (.func (.func 64) #[] #[.pointer (some ⟨tbx, 0, none⟩), .pointer (some ⟨cbx, 0, none⟩)])
  obtain ⟨W6, hW6⟩ : ∃ W6, W6 = putB W5 mb (.map e6 k6) := ⟨_, rfl⟩
  rw [← hW6] at u6 m6
  obtain ⟨e7, k7, u7, m7⟩ := mi.run_update_i64 (P := Tryz.prog) (T := 86) (K := 25) m6 Tryz.underlying86 Tryz.underlying25 4 (.func (.func 66) #[] #[.pointer (some ⟨tbx, 0, none⟩), .pointer (some ⟨cbx, 0, none⟩)])
  obtain ⟨W7, hW7⟩ : ∃ W7, W7 = putB W6 mb (.map e7 k7) := ⟨_, rfl⟩
  rw [← hW7] at u7 m7
  have hk7 : Keeps [mb] W3 W7 := by
    rw [hW7, hW6, hW5, hW4]
    exact (((Keeps.putB W3 mb _).trans (Keeps.putB _ mb _) (fun i hi => .inl hi)).trans (Keeps.putB _ mb _) (fun i hi => .inl hi)).trans (Keeps.putB _ mb _) (fun i hi => .inl hi)
  have hfin : MakesP w tb c (.returned (.map (some mb))) W7 := by
    refine ⟨mb, tbx, cbx, rfl, m7, (hk7.block tbx b1.lt (by simp; omega)).trans b1, (hk7.block cbx b2.lt (by simp; omega)).trans b2, hk3.trans hk7 (fun i hi => .inr (by simp at hi; omega))⟩
  have HF := Lib.hid hfin
  have a1 : w.alloc (.cells #[.pointer (some ⟨tb, 0, none⟩)] 35) = W1 := hW1.symm
  have a2 : W1.alloc (.cells #[.int .i64 c] 3) = W2 := hW2.symm
  have a3 : W2.alloc (.map #[] 0) = W3 := hW3.symm
  clear hW1 hW2 hW3 b1 b2 m3 hk3 m4 m5 m6 m7 hW4 hW5 hW6 hW7 hk7 hfin
  rw [htbx, hcbx] at u4 u5 u6 u7
  rw [hmb] at u4 u5 u6 u7 HF
  clear hmb htbx hcbx
  go_enter Tryz.func25, Tryz.ntmps25
  go_wp2_with fail
  go_ret
  exact HF.out
end Go.Proofs.YtdbbbaallalhoaaGreat.si
