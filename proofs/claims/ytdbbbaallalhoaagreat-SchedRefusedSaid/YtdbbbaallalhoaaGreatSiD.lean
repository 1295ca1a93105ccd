/-
  PROVED HERE: machines are made (walk.New, get.New, put.New, del.New, scan.New): each lies in new memory; nothing that was there is turned. No condition.
-/
import Derived.Test.YtdbbbaallalhoaaGreatSiA
import Derived.Laws.EntriesVeiled
namespace Go.Proofs.YtdbbbaallalhoaaGreat.si
open Go.RowKit Go.Proofs.YtdbbbaallalhoaaGreat.pm Go.Proofs.YtdbbbaallalhoaaGreat.ar Go.Proofs.YtdbbbaallalhoaaGreat.bt Go.Proofs.YtdbbbaallalhoaaGreat.sl Go.Proofs.YtdbbbaallalhoaaGreat.rn
set_option linter.unusedVariables false
attribute [-go_sem] Builtin.append_ Instr.buildSlice Instr.build

/-- A new machine. -/
def NewP (w : World) (e : Ending) (w' : World) : Prop := ∃ b, e = .returned (.pointer (some ⟨b, 0, none⟩)) ∧ Keeps [] w w'

set_option maxRecDepth 1000000 in
theorem built_walk (s : Option Addr) (c k l : Int) : (Tryz.prog.built 238 [(0, .pointer s), (1, .int .i64 c), (2, .int .u64 k), (3, .int .i64 l)]).map (fun C => C.size) = some 34 := by kernel_rfl
set_option maxRecDepth 1000000 in
theorem built_get (s : Option Addr) (c k : Int) : (Tryz.prog.built 191 [(0, .pointer s), (1, .int .i64 c), (2, .int .u64 k)]).map (fun C => (C.size, C[0]?, C[1]?, C[2]?)) = some (34, some (.pointer s), some (.int .i64 c), some (.int .u64 k)) := by kernel_rfl
set_option maxRecDepth 1000000 in
theorem built_resp (x : Int) : Tryz.prog.built 70 [(0, .int .i64 x)] = some #[.int .i64 x, .string ByteArray.empty, .slice none 0 0] := by kernel_rfl
set_option maxRecDepth 1000000 in
theorem built_put (s : Option Addr) (c k x : Int) (v : ByteArray) : (Tryz.prog.built 187 [(0, .pointer s), (1, .int .i64 c), (2, .int .u64 k), (3, .string v), (13, .agg #[.int .i64 x, .string ByteArray.empty, .slice none 0 0])]).map (fun C => C.size) = some 16 := by kernel_rfl
set_option maxRecDepth 1000000 in
theorem built_del (s : Option Addr) (c k x : Int) : (Tryz.prog.built 197 [(0, .pointer s), (1, .int .i64 c), (2, .int .u64 k), (9, .agg #[.int .i64 x, .string ByteArray.empty, .slice none 0 0])]).map (fun C => C.size) = some 13 := by kernel_rfl
set_option maxRecDepth 1000000 in
theorem built_scan (s : Option Addr) (c k h l : Int) : (Tryz.prog.built 204 [(0, .pointer s), (1, .int .i64 c), (2, .int .u64 k), (3, .int .u64 h), (4, .int .i64 l)]).map (fun C => (C.size, C[0]?, C[1]?, C[2]?)) = some (38, some (.pointer s), some (.int .i64 c), some (.int .u64 k)) := by kernel_rfl
set_option maxRecDepth 1000000 in
theorem built_under (wb gb : Nat) : Tryz.prog.built 195 [(0, .iface 179 (.pointer (some ⟨wb, 0, none⟩))), (1, .func (.func 91) #[.pointer (some ⟨gb, 0, none⟩)] #[])] = some #[.iface 179 (.pointer (some ⟨wb, 0, none⟩)), .func (.func 91) #[.pointer (some ⟨gb, 0, none⟩)] #[]] := by kernel_rfl
theorem built_of {T : TypeId} {l : List (Nat × Value)} {α : Type} {f : Array Value → α} {x : α} (h : (Tryz.prog.built T l).map f = some x) : ∃ C, Tryz.prog.built T l = some C ∧ f C = x := by
  cases hc : Tryz.prog.built T l with
  | none => rw [hc] at h; cases h
  | some C => rw [hc] at h; exact ⟨C, rfl, Option.some.inj h⟩
set_option maxHeartbeats 1000000 in
theorem walkNew_any (s : Option Addr) (c k l : Int) (w : World) : Calls Tryz.prog 90 #[.pointer s, .int .i64 c, .int .u64 k, .int .i64 l] w (NewP w) := by
  obtain ⟨C, hC, hsz⟩ := built_of (built_walk s c k l)
  have hbd : ∀ wx, (Instr.build 238 #[(0, .pointer s), (1, .int .i64 c), (2, .int .u64 k), (3, .int .i64 l)]).run Tryz.prog wx = .ok (.agg C) wx := fun wx => run_build wx _ _ _ hC
  obtain ⟨W1, hW1⟩ : ∃ W1, W1 = w.alloc (.cells C 238) := ⟨_, rfl⟩
  have hb : W1.heap[w.heap.size]? = some (.cells C 238 (0, 0)) := by rw [hW1]; exact alloc_new
  obtain ⟨o, ho⟩ : ∃ o, C[31]? = some o := ⟨_, Array.getElem?_eq_getElem (by rw [hsz]; omega)⟩
  have c31 := cell_of hb ho
  have f31 := free_of (i := 31) hb
  have hal : w.alloc (.cells C 238) = W1 := hW1.symm
  have HK := Lib.hid (show Keeps [] w W1 by rw [hW1]; exact Keeps.alloc _ _)
  clear hC hsz hb ho hW1
  go_enter Tryz.func90, Tryz.ntmps90
  go_wp2_with fail
  go_ret
  exact ⟨_, rfl, HK.out.trans (Keeps.setCell W1 _ _ _) (fun i hi => .inr (by simp at hi; omega))⟩
set_option maxHeartbeats 1000000 in
theorem putNew_any (s : Option Addr) (c k : Int) (v : ByteArray) (w : World) : Calls Tryz.prog 61 #[.pointer s, .int .i64 c, .int .u64 k, .string v] w (NewP w) := by
  obtain ⟨C, hC, hsz⟩ := built_of (built_put s c k 7 v)
  have hbr : ∀ wx, (Instr.build 70 #[(0, .int .i64 7)]).run Tryz.prog wx = .ok (.agg #[.int .i64 7, .string ByteArray.empty, .slice none 0 0]) wx := fun wx => run_build wx _ _ _ (built_resp 7)
  have hbd : ∀ wx, (Instr.build 187 #[(0, .pointer s), (1, .int .i64 c), (2, .int .u64 k), (3, .string v), (13, .agg #[.int .i64 7, .string ByteArray.empty, .slice none 0 0])]).run Tryz.prog wx = .ok (.agg C) wx := fun wx => run_build wx _ _ _ hC
  obtain ⟨W1, hW1⟩ : ∃ W1, W1 = w.alloc (.cells C 187) := ⟨_, rfl⟩
  have hb : W1.heap[w.heap.size]? = some (.cells C 187 (0, 0)) := by rw [hW1]; exact alloc_new
  obtain ⟨o, ho⟩ : ∃ o, C[10]? = some o := ⟨_, Array.getElem?_eq_getElem (by rw [hsz]; omega)⟩
  have c31 := cell_of hb ho
  have f31 := free_of (i := 10) hb
  have hal : w.alloc (.cells C 187) = W1 := hW1.symm
  have HK := Lib.hid (show Keeps [] w W1 by rw [hW1]; exact Keeps.alloc _ _)
  clear hC hsz hb ho hW1
  go_enter Tryz.func61, Tryz.ntmps61
  go_wp2_with fail
  go_ret
  exact ⟨_, rfl, HK.out.trans (Keeps.setCell W1 _ _ _) (fun i hi => .inr (by simp at hi; omega))⟩
set_option maxHeartbeats 1000000 in
theorem delNew_any (s : Option Addr) (c k : Int) (w : World) : Calls Tryz.prog 65 #[.pointer s, .int .i64 c, .int .u64 k] w (NewP w) := by
  obtain ⟨C, hC, hsz⟩ := built_of (built_del s c k 7)
  have hbr : ∀ wx, (Instr.build 70 #[(0, .int .i64 7)]).run Tryz.prog wx = .ok (.agg #[.int .i64 7, .string ByteArray.empty, .slice none 0 0]) wx := fun wx => run_build wx _ _ _ (built_resp 7)
  have hbd : ∀ wx, (Instr.build 197 #[(0, .pointer s), (1, .int .i64 c), (2, .int .u64 k), (9, .agg #[.int .i64 7, .string ByteArray.empty, .slice none 0 0])]).run Tryz.prog wx = .ok (.agg C) wx := fun wx => run_build wx _ _ _ hC
  obtain ⟨W1, hW1⟩ : ∃ W1, W1 = w.alloc (.cells C 197) := ⟨_, rfl⟩
  have hb : W1.heap[w.heap.size]? = some (.cells C 197 (0, 0)) := by rw [hW1]; exact alloc_new
  have hal : w.alloc (.cells C 197) = W1 := hW1.symm
  have HWk := Lib.hid (walkNew_any s c k 0 W1)
  have HK := Lib.hid (show Keeps [] w W1 by rw [hW1]; exact Keeps.alloc _ _)
  have HB := Lib.hid (And.intro hb hsz)
  clear hC hsz hb hW1
  go_enter Tryz.func65, Tryz.ntmps65
  go_wp2_with fail
  refine HWk.out.mono ?_
  rintro e w2 ⟨wb, rfl, hk2⟩
  obtain ⟨hb, hsz⟩ := HB.out
  have hb2 : w2.heap[w.heap.size]? = some (.cells C 197 (0, 0)) := (hk2.block _ (lt_of hb) (by simp)).trans hb
  obtain ⟨o3, ho3⟩ : ∃ o, C[3]? = some o := ⟨_, Array.getElem?_eq_getElem (by rw [hsz]; omega)⟩
  obtain ⟨o6, ho6⟩ : ∃ o, C[6]? = some o := ⟨_, Array.getElem?_eq_getElem (by rw [hsz]; omega)⟩
  obtain ⟨o7, ho7⟩ : ∃ o, C[7]? = some o := ⟨_, Array.getElem?_eq_getElem (by rw [hsz]; omega)⟩
  have c3 := cell_of hb2 ho3
  have c6 := cell_of hb2 ho6
  have c7 := cell_of hb2 ho7
  have f3 := free_of (i := 3) hb2
  have f6 := free_of (i := 6) hb2
  have f7 := free_of (i := 7) hb2
  have HK2 := Lib.hid (And.intro (HK.out.trans hk2 (by simp)) (show w.heap.size < w2.heap.size from lt_of hb2))
  have hbu : ∀ wx, (Instr.build 195 #[(0, .iface 179 (.pointer (some ⟨wb, 0, none⟩))), (1, .func (.func 91) #[.pointer (some ⟨w.heap.size, 0, none⟩)] #[])]).run Tryz.prog wx = .ok (.agg #[.iface 179 (.pointer (some ⟨wb, 0, none⟩)), .func (.func 91) #[.pointer (some ⟨w.heap.size, 0, none⟩)] #[]]) wx := fun wx => run_build wx _ _ _ (built_under wb w.heap.size)
  clear hb hsz hb2 ho3 ho6 ho7 hk2
  go_wp2_with fail
  go_ret
  exact ⟨_, rfl, ((HK2.out.1.trans (Keeps.setCell w2 _ 3 _) (fun i hi => .inr (by simp at hi; omega))).trans (Keeps.setCell _ _ 6 _) (fun i hi => .inr (by simp at hi; omega))).trans (Keeps.setCell _ _ 7 _) (fun i hi => .inr (by simp at hi; omega))⟩
theorem t_cell1 {W w3 : World} (hk : Keeps [] (W.drew.alloc (.cells #[.pointer none] 179)) w3) : w3.cell? ⟨W.heap.size, 0, none⟩ = some (.pointer none) ∧ w3.frozen? ⟨W.heap.size, 0, none⟩ = false := by
  have h := alloc_new (w := W.drew) (o := .cells #[.pointer none] 179)
  have h2 := (hk.block _ (lt_of h) (by simp)).trans h
  exact ⟨cell_of h2 rfl, free_of h2⟩
theorem t_cell2 {W w3 : World} (hk : Keeps [] (W.alloc (.cells #[.pointer none] 179)).drew w3) : w3.cell? ⟨W.heap.size, 0, none⟩ = some (.pointer none) ∧ w3.frozen? ⟨W.heap.size, 0, none⟩ = false := by
  have h := alloc_new (w := W) (o := .cells #[.pointer none] 179)
  have h2 := (hk.block _ (lt_of h) (by simp)).trans h
  exact ⟨cell_of h2 rfl, free_of h2⟩
theorem t_box {W w3 : World} {v : Value} (hk : Keeps [] (W.alloc (.cells #[.pointer none] 179)).drew w3) : Boxed (w3.setCell ⟨W.heap.size, 0, none⟩ v) W.heap.size 179 v := by
  have h := alloc_new (w := W) (o := .cells #[.pointer none] 179)
  have h2 := (hk.block _ (lt_of h) (by simp)).trans h
  have := set_same (i := 0) (v := v) h2
  exact this
theorem walkNew_A (s : Option Addr) (c k : Int) (W : World) : Calls Tryz.prog 90 #[.pointer s, .int .i64 c, .int .u64 k, .int .i64 0] (W.alloc (.cells #[.pointer none] 179)).drew fun e w' => NewP (W.alloc (.cells #[.pointer none] 179)).drew e w' ∧ w'.cell? ⟨W.heap.size, 0, none⟩ = some (.pointer none) ∧ w'.frozen? ⟨W.heap.size, 0, none⟩ = false :=
  (walkNew_any s c k 0 _).mono fun e w' h => by
    obtain ⟨b, h1, hk⟩ := h
    exact ⟨⟨b, h1, hk⟩, t_cell2 hk⟩
set_option maxHeartbeats 1000000 in
theorem getTo_any {w : World} {b : Nat} {C : Array Value} (hb : w.heap[b]? = some (.cells C 191 (0, 0))) (hsz : C.size = 34) (T : TypeId) (p : Value) (fn : Fn) (q r : Array Value) : Calls Tryz.prog 111 #[.pointer (some ⟨b, 0, none⟩), .iface T p, .func fn q r] w fun e w' => e = .returned (.tuple #[]) ∧ Keeps [b] w w' := by
  obtain ⟨o3, ho3⟩ : ∃ o, C[3]? = some o := ⟨_, Array.getElem?_eq_getElem (by rw [hsz]; omega)⟩
  obtain ⟨o4, ho4⟩ : ∃ o, C[4]? = some o := ⟨_, Array.getElem?_eq_getElem (by rw [hsz]; omega)⟩
  have c3 := cell_of hb ho3
  have c4 := cell_of hb ho4
  have f3 := free_of (i := 3) hb
  have f4 := free_of (i := 4) hb
  clear hb hsz ho3 ho4
  go_enter Tryz.func111, Tryz.ntmps111
  go_wp2_with fail
  go_end0
  exact ⟨rfl, (Keeps.setCell w b _ _).trans (Keeps.setCell _ b _ _) (fun i hi => .inl hi)⟩
set_option maxHeartbeats 1000000 in
theorem scanTo_any {w : World} {b : Nat} {C : Array Value} (hb : w.heap[b]? = some (.cells C 204 (0, 0))) (hsz : C.size = 38) (T : TypeId) (p : Value) (fn : Fn) (q r : Array Value) : Calls Tryz.prog 119 #[.pointer (some ⟨b, 0, none⟩), .iface T p, .func fn q r] w fun e w' => e = .returned (.tuple #[]) ∧ Keeps [b] w w' := by
  obtain ⟨o3, ho3⟩ : ∃ o, C[5]? = some o := ⟨_, Array.getElem?_eq_getElem (by rw [hsz]; omega)⟩
  obtain ⟨o4, ho4⟩ : ∃ o, C[6]? = some o := ⟨_, Array.getElem?_eq_getElem (by rw [hsz]; omega)⟩
  have c3 := cell_of hb ho3
  have c4 := cell_of hb ho4
  have f3 := free_of (i := 5) hb
  have f4 := free_of (i := 6) hb
  clear hb hsz ho3 ho4
  go_enter Tryz.func119, Tryz.ntmps119
  go_wp2_with fail
  go_end0
  exact ⟨rfl, (Keeps.setCell w b _ _).trans (Keeps.setCell _ b _ _) (fun i hi => .inl hi)⟩
set_option maxRecDepth 100000 in
set_option maxHeartbeats 2000000 in
theorem getWalk_any {w : World} {b : Nat} {C : Array Value} {s : Option Addr} {c k : Int} (hb : w.heap[b]? = some (.cells C 191 (0, 0))) (hsz : C.size = 34) (h0 : C[0]? = some (.pointer s)) (h1 : C[1]? = some (.int .i64 c)) (h2 : C[2]? = some (.int .u64 k)) :
    Calls Tryz.prog 89 #[.pointer (some ⟨b, 0, none⟩)] w fun e w' => e = .returned (.tuple #[]) ∧ Keeps [b] w w' := by
  obtain ⟨W1, hW1⟩ : ∃ W1, W1 = w.alloc (.cells #[.pointer (some ⟨b, 0, none⟩)] 147) := ⟨_, rfl⟩
  have hk1 : Keeps [] w W1 := by rw [hW1]; exact Keeps.alloc _ _
  have hbx : Boxed W1 w.heap.size 147 (.pointer (some ⟨b, 0, none⟩)) := by rw [hW1]; exact alloc_new
  have hb1 : W1.heap[b]? = some (.cells C 191 (0, 0)) := (hk1.block b (lt_of hb) (by simp)).trans hb
  have hcs : ∀ wx, Keeps [] W1 wx → wx.cell? ⟨w.heap.size, 0, none⟩ = some (.pointer (some ⟨b, 0, none⟩)) ∧ wx.cell? ⟨b, 0, none⟩ = some (.pointer s) ∧ wx.cell? ⟨b, 1, none⟩ = some (.int .i64 c) ∧ wx.cell? ⟨b, 2, none⟩ = some (.int .u64 k) := fun wx hk => by
    have g1 := (hk.block b (lt_of hb1) (by simp)).trans hb1
    exact ⟨(show Boxed wx w.heap.size _ _ from (hk.block _ hbx.lt (by simp)).trans hbx).cell, cell_of g1 h0, cell_of g1 h1, cell_of g1 h2⟩
  obtain ⟨d0, d1, d2, d3⟩ := hcs W1 (Keeps.refl _ _)
  obtain ⟨e0, e1, e2, e3⟩ := hcs (W1.drew.alloc (.cells #[.pointer none] 179)) ((Keeps.drew _).trans (Keeps.alloc _ _) (by simp))
  obtain ⟨f0, f1, f2, f3⟩ := hcs (W1.alloc (.cells #[.pointer none] 179)) (Keeps.alloc _ _)
  have HWA := Lib.hid (walkNew_A s c k W1)
  have HWB := Lib.hid (walkNew_any s c k 0 W1.drew)
  have hal : w.alloc (.cells #[.pointer (some ⟨b, 0, none⟩)] 147) = W1 := hW1.symm
  have HB := Lib.hid (And.intro hb1 (And.intro hk1 (And.intro hbx hsz)))
  have HCs := Lib.hid hcs
  clear hb hsz h0 h1 h2 hW1 hk1 hbx hb1 hcs
  go_enter Tryz.func89, Tryz.ntmps89
  go_upto_region 1 with fail
  go_cut [2] from 3 to 15 (fun s2 wx => ∃ tb wb, s2 = .pointer (some ⟨tb, 0, none⟩) ∧ Boxed wx tb 179 (.pointer (some ⟨wb, 0, none⟩)) ∧ Keeps [] W1 wx)
  case first =>
    refine wp_normal ?_
    have hk0 : Keeps [] W1 W1.drew := Keeps.drew W1
    have hk00 : Keeps [] W1 (W1.alloc (.cells #[.pointer none] 179)).drew := (Keeps.alloc _ _).trans (Keeps.drew _) (by simp)
    have HCk := Lib.hid (fun wx (hk : Keeps [] W1 wx) => (⟨(HCs.out wx hk).1, (HCs.out wx hk).2.1, (HCs.out wx hk).2.2.1, (HCs.out wx hk).2.2.2, hk⟩ : wx.cell? ⟨w.heap.size, 0, none⟩ = some (.pointer (some ⟨b, 0, none⟩)) ∧ wx.cell? ⟨b, 0, none⟩ = some (.pointer s) ∧ wx.cell? ⟨b, 1, none⟩ = some (.int .i64 c) ∧ wx.cell? ⟨b, 2, none⟩ = some (.int .u64 k) ∧ Keeps [] W1 wx))
    go_region_held3 (fun wx => wx.cell? ⟨w.heap.size, 0, none⟩ = some (.pointer (some ⟨b, 0, none⟩)) ∧ wx.cell? ⟨b, 0, none⟩ = some (.pointer s) ∧ wx.cell? ⟨b, 1, none⟩ = some (.int .i64 c) ∧ wx.cell? ⟨b, 2, none⟩ = some (.int .u64 k) ∧ Keeps [] W1 wx)
      (first | exact HCk.out _ (by assumption) | exact HCk.out _ (Keeps.trans (by assumption) (Keeps.alloc _ _) (by simp)) | exact HCk.out _ (Keeps.trans (by assumption) (Keeps.drew _) (by simp)) | exact HCk.out _ (Keeps.trans (by assumption) (Keeps.setCell _ _ _ _) (fun i hi => .inr (by simp at hi; omega))) | exact HCk.out _ (Keeps.trans (Keeps.trans (by assumption) (Keeps.alloc _ _) (by simp)) (Keeps.setCell _ _ _ _) (fun i hi => .inr (by simp at hi; omega))))
      (first
        | (go_at_call 90; ((with_reducible refine (walkNew_A s c k W1).mono ?_); rintro e w3 ⟨⟨wb, rfl, hk3⟩, gq1, gq2⟩; have K3 : Keeps [] W1 w3 := Keeps.trans hk00 hk3 (by simp); have s3 := K3.size))
        | (go_at_call 90; ((with_reducible refine (walkNew_any s c k 0 _).mono ?_); rintro e w3 ⟨wb, rfl, hk3⟩; have K3 : Keeps [] W1 w3 := Keeps.trans hk0 hk3 (by simp); have s3 := K3.size)))
    all_goals
      simp only [onlyNormal]
      go_wp2_with fail
      go_meet
      first
        | exact ⟨w3.heap.size, wb, rfl, alloc_new, K3.trans (Keeps.alloc _ _) (by simp)⟩
        | exact ⟨W1.heap.size, wb, rfl, t_box hk3, K3.trans (Keeps.setCell _ _ _ _) (fun i hi => .inr (by simp at hi; omega))⟩
  case rest =>
  obtain ⟨tb, wb, rfl, ht, hk⟩ := hcut
  obtain ⟨g0, g1, g2, g3⟩ := HCs.out wc hk
  have gt := ht.cell
  have HT := Lib.hid (getTo_any (w := wc) ((hk.block b (lt_of HB.out.1) (by simp)).trans HB.out.1) HB.out.2.2.2 179 (.pointer (some ⟨wb, 0, none⟩)) (.func 112) #[] #[.pointer (some ⟨w.heap.size, 0, none⟩), .pointer (some ⟨tb, 0, none⟩)])
  have HK := Lib.hid hk; clear hk ht
  go_wp2_with fail
  refine HT.out.mono ?_
  rintro e w4 ⟨rfl, hk4⟩
  have HK4 := Lib.hid hk4; clear hk4
  go_wp2_with fail
  go_end0
  exact ⟨rfl, ((HB.out.2.1.trans HK.out (by simp)).mono (by simp)).trans HK4.out (fun i hi => .inl hi)⟩
set_option maxRecDepth 100000 in
set_option maxHeartbeats 2000000 in
theorem scanWalk_any {w : World} {b : Nat} {C : Array Value} {s : Option Addr} {c k : Int} (hb : w.heap[b]? = some (.cells C 204 (0, 0))) (hsz : C.size = 38) (h0 : C[0]? = some (.pointer s)) (h1 : C[1]? = some (.int .i64 c)) (h2 : C[2]? = some (.int .u64 k)) :
    Calls Tryz.prog 92 #[.pointer (some ⟨b, 0, none⟩)] w fun e w' => e = .returned (.tuple #[]) ∧ Keeps [b] w w' := by
  obtain ⟨W1, hW1⟩ : ∃ W1, W1 = w.alloc (.cells #[.pointer (some ⟨b, 0, none⟩)] 151) := ⟨_, rfl⟩
  have hk1 : Keeps [] w W1 := by rw [hW1]; exact Keeps.alloc _ _
  have hbx : Boxed W1 w.heap.size 151 (.pointer (some ⟨b, 0, none⟩)) := by rw [hW1]; exact alloc_new
  have hb1 : W1.heap[b]? = some (.cells C 204 (0, 0)) := (hk1.block b (lt_of hb) (by simp)).trans hb
  have hcs : ∀ wx, Keeps [] W1 wx → wx.cell? ⟨w.heap.size, 0, none⟩ = some (.pointer (some ⟨b, 0, none⟩)) ∧ wx.cell? ⟨b, 0, none⟩ = some (.pointer s) ∧ wx.cell? ⟨b, 1, none⟩ = some (.int .i64 c) ∧ wx.cell? ⟨b, 2, none⟩ = some (.int .u64 k) := fun wx hk => by
    have g1 := (hk.block b (lt_of hb1) (by simp)).trans hb1
    exact ⟨(show Boxed wx w.heap.size _ _ from (hk.block _ hbx.lt (by simp)).trans hbx).cell, cell_of g1 h0, cell_of g1 h1, cell_of g1 h2⟩
  obtain ⟨d0, d1, d2, d3⟩ := hcs W1 (Keeps.refl _ _)
  obtain ⟨e0, e1, e2, e3⟩ := hcs (W1.drew.alloc (.cells #[.pointer none] 179)) ((Keeps.drew _).trans (Keeps.alloc _ _) (by simp))
  obtain ⟨f0, f1, f2, f3⟩ := hcs (W1.alloc (.cells #[.pointer none] 179)) (Keeps.alloc _ _)
  have HWA := Lib.hid (walkNew_A s c k W1)
  have HWB := Lib.hid (walkNew_any s c k 0 W1.drew)
  have hal : w.alloc (.cells #[.pointer (some ⟨b, 0, none⟩)] 151) = W1 := hW1.symm
  have HB := Lib.hid (And.intro hb1 (And.intro hk1 (And.intro hbx hsz)))
  have HCs := Lib.hid hcs
  clear hb hsz h0 h1 h2 hW1 hk1 hbx hb1 hcs
  go_enter Tryz.func92, Tryz.ntmps92
  go_upto_region 1 with fail
  go_cut [2] from 3 to 15 (fun s2 wx => ∃ tb wb, s2 = .pointer (some ⟨tb, 0, none⟩) ∧ Boxed wx tb 179 (.pointer (some ⟨wb, 0, none⟩)) ∧ Keeps [] W1 wx)
  case first =>
    refine wp_normal ?_
    have hk0 : Keeps [] W1 W1.drew := Keeps.drew W1
    have hk00 : Keeps [] W1 (W1.alloc (.cells #[.pointer none] 179)).drew := (Keeps.alloc _ _).trans (Keeps.drew _) (by simp)
    have HCk := Lib.hid (fun wx (hk : Keeps [] W1 wx) => (⟨(HCs.out wx hk).1, (HCs.out wx hk).2.1, (HCs.out wx hk).2.2.1, (HCs.out wx hk).2.2.2, hk⟩ : wx.cell? ⟨w.heap.size, 0, none⟩ = some (.pointer (some ⟨b, 0, none⟩)) ∧ wx.cell? ⟨b, 0, none⟩ = some (.pointer s) ∧ wx.cell? ⟨b, 1, none⟩ = some (.int .i64 c) ∧ wx.cell? ⟨b, 2, none⟩ = some (.int .u64 k) ∧ Keeps [] W1 wx))
    go_region_held3 (fun wx => wx.cell? ⟨w.heap.size, 0, none⟩ = some (.pointer (some ⟨b, 0, none⟩)) ∧ wx.cell? ⟨b, 0, none⟩ = some (.pointer s) ∧ wx.cell? ⟨b, 1, none⟩ = some (.int .i64 c) ∧ wx.cell? ⟨b, 2, none⟩ = some (.int .u64 k) ∧ Keeps [] W1 wx)
      (first | exact HCk.out _ (by assumption) | exact HCk.out _ (Keeps.trans (by assumption) (Keeps.alloc _ _) (by simp)) | exact HCk.out _ (Keeps.trans (by assumption) (Keeps.drew _) (by simp)) | exact HCk.out _ (Keeps.trans (by assumption) (Keeps.setCell _ _ _ _) (fun i hi => .inr (by simp at hi; omega))) | exact HCk.out _ (Keeps.trans (Keeps.trans (by assumption) (Keeps.alloc _ _) (by simp)) (Keeps.setCell _ _ _ _) (fun i hi => .inr (by simp at hi; omega))))
      (first
        | (go_at_call 90; ((with_reducible refine (walkNew_A s c k W1).mono ?_); rintro e w3 ⟨⟨wb, rfl, hk3⟩, gq1, gq2⟩; have K3 : Keeps [] W1 w3 := Keeps.trans hk00 hk3 (by simp); have s3 := K3.size))
        | (go_at_call 90; ((with_reducible refine (walkNew_any s c k 0 _).mono ?_); rintro e w3 ⟨wb, rfl, hk3⟩; have K3 : Keeps [] W1 w3 := Keeps.trans hk0 hk3 (by simp); have s3 := K3.size)))
    all_goals
      simp only [onlyNormal]
      go_wp2_with fail
      go_meet
      first
        | exact ⟨w3.heap.size, wb, rfl, alloc_new, K3.trans (Keeps.alloc _ _) (by simp)⟩
        | exact ⟨W1.heap.size, wb, rfl, t_box hk3, K3.trans (Keeps.setCell _ _ _ _) (fun i hi => .inr (by simp at hi; omega))⟩
  case rest =>
  obtain ⟨tb, wb, rfl, ht, hk⟩ := hcut
  obtain ⟨g0, g1, g2, g3⟩ := HCs.out wc hk
  have gt := ht.cell
  have HT := Lib.hid (scanTo_any (w := wc) ((hk.block b (lt_of HB.out.1) (by simp)).trans HB.out.1) HB.out.2.2.2 179 (.pointer (some ⟨wb, 0, none⟩)) (.func 120) #[] #[.pointer (some ⟨w.heap.size, 0, none⟩), .pointer (some ⟨tb, 0, none⟩)])
  have HK := Lib.hid hk; clear hk ht
  go_wp2_with fail
  refine HT.out.mono ?_
  rintro e w4 ⟨rfl, hk4⟩
  have HK4 := Lib.hid hk4; clear hk4
  go_wp2_with fail
  go_end0
  exact ⟨rfl, ((HB.out.2.1.trans HK.out (by simp)).mono (by simp)).trans HK4.out (fun i hi => .inl hi)⟩

set_option maxHeartbeats 1000000 in
theorem getNew_any (s : Option Addr) (c k : Int) (w : World) : Calls Tryz.prog 63 #[.pointer s, .int .i64 c, .int .u64 k] w (NewP w) := by
  obtain ⟨C, hC, hf⟩ := built_of (built_get s c k)
  simp only [Prod.mk.injEq] at hf
  obtain ⟨hsz, h0, h1, h2⟩ := hf
  have hbd : ∀ wx, (Instr.build 191 #[(0, .pointer s), (1, .int .i64 c), (2, .int .u64 k)]).run Tryz.prog wx = .ok (.agg C) wx := fun wx => run_build wx _ _ _ hC
  obtain ⟨W1, hW1⟩ : ∃ W1, W1 = w.alloc (.cells C 191) := ⟨_, rfl⟩
  have hb : W1.heap[w.heap.size]? = some (.cells C 191 (0, 0)) := by rw [hW1]; exact alloc_new
  have HWk := Lib.hid (getWalk_any hb hsz h0 h1 h2)
  have HK := Lib.hid (show Keeps [] w W1 by rw [hW1]; exact Keeps.alloc _ _)
  have hal : w.alloc (.cells C 191) = W1 := hW1.symm
  clear hC hsz h0 h1 h2 hb hW1
  go_enter Tryz.func63, Tryz.ntmps63
  go_wp2_with fail
  refine HWk.out.mono ?_
  rintro e w2 ⟨rfl, hk2⟩
  have HK2 := Lib.hid hk2; clear hk2
  go_wp2_with fail
  go_ret
  exact ⟨_, rfl, HK.out.trans HK2.out (fun i hi => .inr (by simp at hi; omega))⟩
set_option maxHeartbeats 1000000 in
theorem scanNew_any (s : Option Addr) (c k h l : Int) (w : World) : Calls Tryz.prog 67 #[.pointer s, .int .i64 c, .int .u64 k, .int .u64 h, .int .i64 l] w (NewP w) := by
  obtain ⟨C, hC, hf⟩ := built_of (built_scan s c k h l)
  simp only [Prod.mk.injEq] at hf
  obtain ⟨hsz, h0, h1, h2⟩ := hf
  have hbd : ∀ wx, (Instr.build 204 #[(0, .pointer s), (1, .int .i64 c), (2, .int .u64 k), (3, .int .u64 h), (4, .int .i64 l)]).run Tryz.prog wx = .ok (.agg C) wx := fun wx => run_build wx _ _ _ hC
  obtain ⟨W1, hW1⟩ : ∃ W1, W1 = w.alloc (.cells C 204) := ⟨_, rfl⟩
  have hb : W1.heap[w.heap.size]? = some (.cells C 204 (0, 0)) := by rw [hW1]; exact alloc_new
  have HWk := Lib.hid (scanWalk_any hb hsz h0 h1 h2)
  have HK := Lib.hid (show Keeps [] w W1 by rw [hW1]; exact Keeps.alloc _ _)
  have hal : w.alloc (.cells C 204) = W1 := hW1.symm
  clear hC hsz h0 h1 h2 hb hW1
  go_enter Tryz.func67, Tryz.ntmps67
  go_wp2_with fail
  refine HWk.out.mono ?_
  rintro e w2 ⟨rfl, hk2⟩
  have HK2 := Lib.hid hk2; clear hk2
  go_wp2_with fail
  go_ret
  exact ⟨_, rfl, HK.out.trans HK2.out (fun i hi => .inr (by simp at hi; omega))⟩
end Go.Proofs.YtdbbbaallalhoaaGreat.si
