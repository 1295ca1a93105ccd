/-
  PROVED HERE: the contracts of script's call and words: the words of a call, and of so many acts. Conditions: numbers that fit, a value of at most 100000 bytes, a kind from 1 to 7 and, of an invocation, an operation from 1 to 4.
-/
import Derived.Test.YtnnahodajiolmaaGreatDoorScRead
import Derived.Deep.RegionHeld3
import Derived.Deep.DeepCutAuto
namespace Go.Proofs.YtnnahodajiolmaaGreatDoor.sc
open Go.RowKit
set_option linter.unusedVariables false

def I64 (n : Int) : Prop := -9223372036854775808 ≤ n ∧ n ≤ 9223372036854775807
def U64 (n : Int) : Prop := 0 ≤ n ∧ n < 18446744073709551616
/-- A call's numbers fit; its value is short. -/
structure ClOk (c : Cl) : Prop where
  op : I64 c.op
  key : U64 c.key
  hi : U64 c.hi
  lim : I64 c.lim
  val : c.val.length ≤ 100000
structure AcOk (a : Ac) : Prop where
  kind : I64 a.kind
  client : I64 a.client
  call : ClOk a.call
  at_ : U64 a.at_
  n : I64 a.n
  few : a.keep.length ≤ 100000
  keep : ∀ k ∈ a.keep, I64 k

def clC (c : Cl) : Array Value := #[.int .i64 c.op, .int .u64 c.key, .int .u64 c.hi, .int .i64 c.lim, .string (mk c.val)]
def acC (a : Ac) (kv : Value) : Array Value := #[.int .i64 a.kind, .int .i64 a.client, .int .i64 a.call.op, .int .u64 a.call.key, .int .u64 a.call.hi, .int .i64 a.call.lim, .string (mk a.call.val), .int .u64 a.at_, .int .i64 a.n, kv]
/-- A slice of the call's own that holds these words. -/
def StrsPost (w : World) (l : List Bs) (e : Ending) (w' : World) : Prop :=
  ∃ v, e = .returned v ∧ w'.ownsRow w.heap.size 9 1 v l.length (strs l) ∧ Below w.heap.size w w'

theorem clCells {w : World} {b : Nat} {c : Cl} (hb : Blk w b 36 (clC c)) :
    w.cell? ⟨b, 0, none⟩ = some (.int .i64 c.op) ∧ w.cell? ⟨b, 1, none⟩ = some (.int .u64 c.key) ∧ w.cell? ⟨b, 2, none⟩ = some (.int .u64 c.hi) ∧ w.cell? ⟨b, 3, none⟩ = some (.int .i64 c.lim) ∧ w.cell? ⟨b, 4, none⟩ = some (.string (mk c.val)) :=
  ⟨hb.cell 0, hb.cell 1, hb.cell 2, hb.cell 3, hb.cell 4⟩
theorem numU64_int {w : World} (n : Int) (h : U64 n) (E : Env w) :
    Calls Tryz.prog 37 #[.int .u64 n] w fun e w' => e = .returned (.string (mk (num n))) ∧ Below w.heap.size w w' := by
  obtain ⟨u, rfl⟩ : ∃ u : Nat, n = u := ⟨n.toNat, by have := h.1; omega⟩
  exact numU64_any u (by have := h.2; omega) E
theorem numAddr_int {w : World} (n : Int) (h : U64 n) (E : Env w) :
    Calls Tryz.prog 72 #[.int .u64 n] w fun e w' => e = .returned (.string (mk (num n))) ∧ Below w.heap.size w w' := by
  obtain ⟨u, rfl⟩ : ∃ u : Nat, n = u := ⟨n.toNat, by have := h.1; omega⟩
  exact numAddr_any u (by have := h.2; omega) E

theorem ops_at1 (W : World) : (Instr.index 165 (.agg #[.string (mk sNone), .string (mk sPut), .string (mk sGet), .string (mk sDelete), .string (mk sScan)]) (.int .i64 1)).run Tryz.prog W = .ok (.string (mk sPut)) W := by kernel_rfl
theorem ops_at2 (W : World) : (Instr.index 165 (.agg #[.string (mk sNone), .string (mk sPut), .string (mk sGet), .string (mk sDelete), .string (mk sScan)]) (.int .i64 2)).run Tryz.prog W = .ok (.string (mk sGet)) W := by kernel_rfl
theorem ops_at3 (W : World) : (Instr.index 165 (.agg #[.string (mk sNone), .string (mk sPut), .string (mk sGet), .string (mk sDelete), .string (mk sScan)]) (.int .i64 3)).run Tryz.prog W = .ok (.string (mk sDelete)) W := by kernel_rfl
theorem ops_at4 (W : World) : (Instr.index 165 (.agg #[.string (mk sNone), .string (mk sPut), .string (mk sGet), .string (mk sDelete), .string (mk sScan)]) (.int .i64 4)).run Tryz.prog W = .ok (.string (mk sScan)) W := by kernel_rfl
theorem kinds_at1 (W : World) : (Instr.index 92 (.agg #[.string (mk sNone), .string (mk sInvoke), .string (mk sPick), .string (mk sEvict), .string (mk sCrash), .string (mk sOpen), .string (mk sScavenge), .string (mk sBoot)]) (.int .i64 1)).run Tryz.prog W = .ok (.string (mk sInvoke)) W := by kernel_rfl
theorem kinds_at2 (W : World) : (Instr.index 92 (.agg #[.string (mk sNone), .string (mk sInvoke), .string (mk sPick), .string (mk sEvict), .string (mk sCrash), .string (mk sOpen), .string (mk sScavenge), .string (mk sBoot)]) (.int .i64 2)).run Tryz.prog W = .ok (.string (mk sPick)) W := by kernel_rfl
theorem kinds_at3 (W : World) : (Instr.index 92 (.agg #[.string (mk sNone), .string (mk sInvoke), .string (mk sPick), .string (mk sEvict), .string (mk sCrash), .string (mk sOpen), .string (mk sScavenge), .string (mk sBoot)]) (.int .i64 3)).run Tryz.prog W = .ok (.string (mk sEvict)) W := by kernel_rfl
theorem kinds_at4 (W : World) : (Instr.index 92 (.agg #[.string (mk sNone), .string (mk sInvoke), .string (mk sPick), .string (mk sEvict), .string (mk sCrash), .string (mk sOpen), .string (mk sScavenge), .string (mk sBoot)]) (.int .i64 4)).run Tryz.prog W = .ok (.string (mk sCrash)) W := by kernel_rfl
theorem kinds_at5 (W : World) : (Instr.index 92 (.agg #[.string (mk sNone), .string (mk sInvoke), .string (mk sPick), .string (mk sEvict), .string (mk sCrash), .string (mk sOpen), .string (mk sScavenge), .string (mk sBoot)]) (.int .i64 5)).run Tryz.prog W = .ok (.string (mk sOpen)) W := by kernel_rfl
theorem kinds_at6 (W : World) : (Instr.index 92 (.agg #[.string (mk sNone), .string (mk sInvoke), .string (mk sPick), .string (mk sEvict), .string (mk sCrash), .string (mk sOpen), .string (mk sScavenge), .string (mk sBoot)]) (.int .i64 6)).run Tryz.prog W = .ok (.string (mk sScavenge)) W := by kernel_rfl
theorem kinds_at7 (W : World) : (Instr.index 92 (.agg #[.string (mk sNone), .string (mk sInvoke), .string (mk sPick), .string (mk sEvict), .string (mk sCrash), .string (mk sOpen), .string (mk sScavenge), .string (mk sBoot)]) (.int .i64 7)).run Tryz.prog W = .ok (.string (mk sBoot)) W := by kernel_rfl

theorem pickStep2 {w6 w7 w : World} {o : Obj} {g : Nat} {cs : Array Value} {v v7 : Value} {t : TypeId} (hb : Blk w6 g t cs) (G : Grew w.heap.size v (w6.alloc o) v7 w7) (hne : v.ownBlock ≠ some g) (hW : Below w.heap.size w w6) :
    Blk w7 g t cs ∧ Below w.heap.size w w7 :=
  ⟨(hb.alloc o).grew G hne, (hW.alloc hW.size o).trans G.below⟩

/-! GEN call -/
set_option maxHeartbeats 3200000 in
set_option maxRecDepth 100000 in
theorem call_put {w : World} (key hi lim : Int) (val : Bs) (O : ClOk ⟨1, key, hi, lim, val⟩) (E : Env w) :
    Calls Tryz.prog 71 #[.agg (clC ⟨1, key, hi, lim, val⟩)] w (StrsPost w [sPut, num key, digits val]) := by
  have hA := (Below.refl w.heap.size w).alloc (Nat.le_refl _) (.cells (clC ⟨1, key, hi, lim, val⟩) 36)
  have hN := Blk.new w 36 (clC ⟨1, key, hi, lim, val⟩)
  obtain ⟨W, hW⟩ : ∃ W, W = w.alloc (.cells (clC ⟨1, key, hi, lim, val⟩) 36) := ⟨_, rfl⟩
  rw [← hW] at hA hN
  have HF := Lib.hid (And.intro hN (And.intro hA (E.next hA))); clear hN hA
  have hS : ∀ wx, Below W.heap.size W wx → (wx.cell? ⟨w.heap.size, 0, none⟩ = some (.int .i64 1) ∧ wx.cell? ⟨w.heap.size, 1, none⟩ = some (.int .u64 key) ∧ Below W.heap.size W wx) := fun wx hk => by
    obtain ⟨d0, d1, _⟩ := clCells (HF.out.1.below hk HF.out.1.lt)
    exact ⟨d0, d1, hk⟩
  have HS := Lib.hid hS; clear hS
  have hk0 : Below W.heap.size W W.drew := (Below.refl _ _).drew
  have hix := ops_at1
  go_enter Tryz.func71, Tryz.ntmps71
  go_upto_region 1 with fail
  rw [← hW]
  clear hW
  go_region_held3 (fun wx => wx.cell? ⟨w.heap.size, 0, none⟩ = some (.int .i64 1) ∧ wx.cell? ⟨w.heap.size, 1, none⟩ = some (.int .u64 key) ∧ Below W.heap.size W wx)
    (first | exact HS.out _ (by assumption) | exact HS.out _ (Below.alloc (by assumption) (Below.size (by assumption)) _))
    (first
      | (go_at_call 78; refine (ops_any _).mono ?_; rintro e w3 ⟨rfl, hb3⟩; have K3 : Below W.heap.size W w3 := Below.trans (by assumption) (hb3.mono (Below.size (by assumption))))
      | (go_at_call 37; refine (numU64_int key O.key (HF.out.2.2.next (by assumption))).mono ?_; rintro e w4 ⟨rfl, hb4⟩; have K4 : Below W.heap.size W w4 := Below.trans (by assumption) (hb4.mono (Below.size (by assumption)))))
  all_goals
    rename_i hHeld; clear hHeld
    have KX := Lib.hid K4
    have HW4 := Lib.hid K4.size
    clear hk0 hb3 hb4 K3 K4 hix
    obtain ⟨X, hX⟩ : ∃ X, X = w4.alloc (.cells #[.string (mk sPut), .string (mk (num key))] 9) := ⟨_, rfl⟩
    have hown : X.ownsRow w.heap.size 9 1 (.slice (some ⟨w4.heap.size, 0, none⟩) 2 2) 2 (strs [sPut, num key]) := by
      rw [hX]; exact own_lit w4 [sPut, num key] (Nat.le_trans HF.out.2.1.size KX.out.size) (by simp)
    have hWX : Below W.heap.size W X := by rw [hX]; exact KX.out.alloc KX.out.size _
    rw [← hX]
    clear hX
    have HX := Lib.hid (And.intro hown hWX); clear hown hWX KX
    obtain ⟨d0, d1, d2, d3, d4⟩ := clCells (HF.out.1.below HX.out.2 HF.out.1.lt)
    have OV := Lib.hid O.val
    go_wp2_with fail
    refine (digits_any val (Nat.le_trans OV.out (by simp)) (HF.out.2.2.next HX.out.2)).mono ?_; rintro e w6 ⟨rfl, hb6⟩
    go_wp2_with (at_builtin; refine wpList_app_strs rfl _ _ rfl w.heap.size _ 2 _ rfl (own_next (own_next HX.out.1 hb6) (Below.alloc (Below.refl _ _) (Nat.le_refl _) _)) _ [digits val] rfl (lit_strs w6 [digits val] (by simp)) (by simp) ?hbase ?_)
    case hbase => have := HX.out.2.size; have := HF.out.2.1.size; have := hb6.size; simp; omega
    intro v' w7 o7 G7
    have HL := Lib.hid (And.intro o7 (HF.out.2.1.trans ((((HX.out.2.trans (hb6.mono HX.out.2.size)).alloc (Nat.le_trans HX.out.2.size hb6.size) _).mono HF.out.2.1.size).trans G7.below)))
    clear o7 G7
    go_wp2_with fail
    go_ret
    exact ⟨_, rfl, HL.out.1, HL.out.2⟩

set_option maxHeartbeats 3200000 in
set_option maxRecDepth 100000 in
theorem call_get {w : World} (key hi lim : Int) (val : Bs) (O : ClOk ⟨2, key, hi, lim, val⟩) (E : Env w) :
    Calls Tryz.prog 71 #[.agg (clC ⟨2, key, hi, lim, val⟩)] w (StrsPost w [sGet, num key]) := by
  have hA := (Below.refl w.heap.size w).alloc (Nat.le_refl _) (.cells (clC ⟨2, key, hi, lim, val⟩) 36)
  have hN := Blk.new w 36 (clC ⟨2, key, hi, lim, val⟩)
  obtain ⟨W, hW⟩ : ∃ W, W = w.alloc (.cells (clC ⟨2, key, hi, lim, val⟩) 36) := ⟨_, rfl⟩
  rw [← hW] at hA hN
  have HF := Lib.hid (And.intro hN (And.intro hA (E.next hA))); clear hN hA
  have hS : ∀ wx, Below W.heap.size W wx → (wx.cell? ⟨w.heap.size, 0, none⟩ = some (.int .i64 2) ∧ wx.cell? ⟨w.heap.size, 1, none⟩ = some (.int .u64 key) ∧ Below W.heap.size W wx) := fun wx hk => by
    obtain ⟨d0, d1, _⟩ := clCells (HF.out.1.below hk HF.out.1.lt)
    exact ⟨d0, d1, hk⟩
  have HS := Lib.hid hS; clear hS
  have hk0 : Below W.heap.size W W.drew := (Below.refl _ _).drew
  have hix := ops_at2
  go_enter Tryz.func71, Tryz.ntmps71
  go_upto_region 1 with fail
  rw [← hW]
  clear hW
  go_region_held3 (fun wx => wx.cell? ⟨w.heap.size, 0, none⟩ = some (.int .i64 2) ∧ wx.cell? ⟨w.heap.size, 1, none⟩ = some (.int .u64 key) ∧ Below W.heap.size W wx)
    (first | exact HS.out _ (by assumption) | exact HS.out _ (Below.alloc (by assumption) (Below.size (by assumption)) _))
    (first
      | (go_at_call 78; refine (ops_any _).mono ?_; rintro e w3 ⟨rfl, hb3⟩; have K3 : Below W.heap.size W w3 := Below.trans (by assumption) (hb3.mono (Below.size (by assumption))))
      | (go_at_call 37; refine (numU64_int key O.key (HF.out.2.2.next (by assumption))).mono ?_; rintro e w4 ⟨rfl, hb4⟩; have K4 : Below W.heap.size W w4 := Below.trans (by assumption) (hb4.mono (Below.size (by assumption)))))
  all_goals
    rename_i hHeld; clear hHeld
    have KX := Lib.hid K4
    have HW4 := Lib.hid K4.size
    clear hk0 hb3 hb4 K3 K4 hix
    obtain ⟨X, hX⟩ : ∃ X, X = w4.alloc (.cells #[.string (mk sGet), .string (mk (num key))] 9) := ⟨_, rfl⟩
    have hown : X.ownsRow w.heap.size 9 1 (.slice (some ⟨w4.heap.size, 0, none⟩) 2 2) 2 (strs [sGet, num key]) := by
      rw [hX]; exact own_lit w4 [sGet, num key] (Nat.le_trans HF.out.2.1.size KX.out.size) (by simp)
    have hWX : Below W.heap.size W X := by rw [hX]; exact KX.out.alloc KX.out.size _
    rw [← hX]
    clear hX
    have HX := Lib.hid (And.intro hown hWX); clear hown hWX KX
    obtain ⟨d0, d1, d2, d3, d4⟩ := clCells (HF.out.1.below HX.out.2 HF.out.1.lt)
    go_wp2_with fail
    go_ret
    exact ⟨_, rfl, HX.out.1, HF.out.2.1.trans (HX.out.2.mono HF.out.2.1.size)⟩

set_option maxHeartbeats 3200000 in
set_option maxRecDepth 100000 in
theorem call_del {w : World} (key hi lim : Int) (val : Bs) (O : ClOk ⟨3, key, hi, lim, val⟩) (E : Env w) :
    Calls Tryz.prog 71 #[.agg (clC ⟨3, key, hi, lim, val⟩)] w (StrsPost w [sDelete, num key]) := by
  have hA := (Below.refl w.heap.size w).alloc (Nat.le_refl _) (.cells (clC ⟨3, key, hi, lim, val⟩) 36)
  have hN := Blk.new w 36 (clC ⟨3, key, hi, lim, val⟩)
  obtain ⟨W, hW⟩ : ∃ W, W = w.alloc (.cells (clC ⟨3, key, hi, lim, val⟩) 36) := ⟨_, rfl⟩
  rw [← hW] at hA hN
  have HF := Lib.hid (And.intro hN (And.intro hA (E.next hA))); clear hN hA
  have hS : ∀ wx, Below W.heap.size W wx → (wx.cell? ⟨w.heap.size, 0, none⟩ = some (.int .i64 3) ∧ wx.cell? ⟨w.heap.size, 1, none⟩ = some (.int .u64 key) ∧ Below W.heap.size W wx) := fun wx hk => by
    obtain ⟨d0, d1, _⟩ := clCells (HF.out.1.below hk HF.out.1.lt)
    exact ⟨d0, d1, hk⟩
  have HS := Lib.hid hS; clear hS
  have hk0 : Below W.heap.size W W.drew := (Below.refl _ _).drew
  have hix := ops_at3
  go_enter Tryz.func71, Tryz.ntmps71
  go_upto_region 1 with fail
  rw [← hW]
  clear hW
  go_region_held3 (fun wx => wx.cell? ⟨w.heap.size, 0, none⟩ = some (.int .i64 3) ∧ wx.cell? ⟨w.heap.size, 1, none⟩ = some (.int .u64 key) ∧ Below W.heap.size W wx)
    (first | exact HS.out _ (by assumption) | exact HS.out _ (Below.alloc (by assumption) (Below.size (by assumption)) _))
    (first
      | (go_at_call 78; refine (ops_any _).mono ?_; rintro e w3 ⟨rfl, hb3⟩; have K3 : Below W.heap.size W w3 := Below.trans (by assumption) (hb3.mono (Below.size (by assumption))))
      | (go_at_call 37; refine (numU64_int key O.key (HF.out.2.2.next (by assumption))).mono ?_; rintro e w4 ⟨rfl, hb4⟩; have K4 : Below W.heap.size W w4 := Below.trans (by assumption) (hb4.mono (Below.size (by assumption)))))
  all_goals
    rename_i hHeld; clear hHeld
    have KX := Lib.hid K4
    have HW4 := Lib.hid K4.size
    clear hk0 hb3 hb4 K3 K4 hix
    obtain ⟨X, hX⟩ : ∃ X, X = w4.alloc (.cells #[.string (mk sDelete), .string (mk (num key))] 9) := ⟨_, rfl⟩
    have hown : X.ownsRow w.heap.size 9 1 (.slice (some ⟨w4.heap.size, 0, none⟩) 2 2) 2 (strs [sDelete, num key]) := by
      rw [hX]; exact own_lit w4 [sDelete, num key] (Nat.le_trans HF.out.2.1.size KX.out.size) (by simp)
    have hWX : Below W.heap.size W X := by rw [hX]; exact KX.out.alloc KX.out.size _
    rw [← hX]
    clear hX
    have HX := Lib.hid (And.intro hown hWX); clear hown hWX KX
    obtain ⟨d0, d1, d2, d3, d4⟩ := clCells (HF.out.1.below HX.out.2 HF.out.1.lt)
    go_wp2_with fail
    go_ret
    exact ⟨_, rfl, HX.out.1, HF.out.2.1.trans (HX.out.2.mono HF.out.2.1.size)⟩

set_option maxHeartbeats 3200000 in
set_option maxRecDepth 100000 in
theorem call_scan {w : World} (key hi lim : Int) (val : Bs) (O : ClOk ⟨4, key, hi, lim, val⟩) (E : Env w) :
    Calls Tryz.prog 71 #[.agg (clC ⟨4, key, hi, lim, val⟩)] w (StrsPost w [sScan, num key, num hi, num lim]) := by
  have hA := (Below.refl w.heap.size w).alloc (Nat.le_refl _) (.cells (clC ⟨4, key, hi, lim, val⟩) 36)
  have hN := Blk.new w 36 (clC ⟨4, key, hi, lim, val⟩)
  obtain ⟨W, hW⟩ : ∃ W, W = w.alloc (.cells (clC ⟨4, key, hi, lim, val⟩) 36) := ⟨_, rfl⟩
  rw [← hW] at hA hN
  have HF := Lib.hid (And.intro hN (And.intro hA (E.next hA))); clear hN hA
  have hS : ∀ wx, Below W.heap.size W wx → (wx.cell? ⟨w.heap.size, 0, none⟩ = some (.int .i64 4) ∧ wx.cell? ⟨w.heap.size, 1, none⟩ = some (.int .u64 key) ∧ Below W.heap.size W wx) := fun wx hk => by
    obtain ⟨d0, d1, _⟩ := clCells (HF.out.1.below hk HF.out.1.lt)
    exact ⟨d0, d1, hk⟩
  have HS := Lib.hid hS; clear hS
  have hk0 : Below W.heap.size W W.drew := (Below.refl _ _).drew
  have HNE := Lib.hid (show w.heap.size < W.heap.size from HF.out.1.lt)
  have hix := ops_at4
  go_enter Tryz.func71, Tryz.ntmps71
  go_upto_region 1 with fail
  rw [← hW]
  clear hW
  go_region_held3 (fun wx => wx.cell? ⟨w.heap.size, 0, none⟩ = some (.int .i64 4) ∧ wx.cell? ⟨w.heap.size, 1, none⟩ = some (.int .u64 key) ∧ Below W.heap.size W wx)
    (first | exact HS.out _ (by assumption) | exact HS.out _ (Below.alloc (by assumption) (Below.size (by assumption)) _))
    (first
      | (go_at_call 78; refine (ops_any _).mono ?_; rintro e w3 ⟨rfl, hb3⟩; have K3 : Below W.heap.size W w3 := Below.trans (by assumption) (hb3.mono (Below.size (by assumption))))
      | (go_at_call 37; refine (numU64_int key O.key (HF.out.2.2.next (by assumption))).mono ?_; rintro e w4 ⟨rfl, hb4⟩; have K4 : Below W.heap.size W w4 := Below.trans (by assumption) (hb4.mono (Below.size (by assumption)))))
  all_goals
    rename_i hHeld; clear hHeld
    have KX := Lib.hid K4
    have HW4 := Lib.hid K4.size
    clear hk0 hb3 hb4 K3 K4 hix
    obtain ⟨X, hX⟩ : ∃ X, X = w4.alloc (.cells #[.string (mk sScan), .string (mk (num key))] 9) := ⟨_, rfl⟩
    have hown : X.ownsRow w.heap.size 9 1 (.slice (some ⟨w4.heap.size, 0, none⟩) 2 2) 2 (strs [sScan, num key]) := by
      rw [hX]; exact own_lit w4 [sScan, num key] (Nat.le_trans HF.out.2.1.size KX.out.size) (by simp)
    have hWX : Below W.heap.size W X := by rw [hX]; exact KX.out.alloc KX.out.size _
    rw [← hX]
    clear hX
    have HX := Lib.hid (And.intro hown hWX); clear hown hWX KX
    obtain ⟨d0, d1, d2, d3, d4⟩ := clCells (HF.out.1.below HX.out.2 HF.out.1.lt)
    go_upto_region 6 with fail
    clear d0 d1 d2 d3 d4
    have hS2 : ∀ wx, Blk wx w.heap.size 36 (clC ⟨4, key, hi, lim, val⟩) ∧ Below w.heap.size w wx → (wx.cell? ⟨w.heap.size, 2, none⟩ = some (.int .u64 hi) ∧ wx.cell? ⟨w.heap.size, 3, none⟩ = some (.int .i64 lim) ∧ Blk wx w.heap.size 36 (clC ⟨4, key, hi, lim, val⟩) ∧ Below w.heap.size w wx) := fun wx hk => by
      obtain ⟨_, _, d2, d3, _⟩ := clCells hk.1
      exact ⟨d2, d3, hk⟩
    have HS2 := Lib.hid hS2; clear hS2
    have hS3 : ∀ wx, Below X.heap.size X wx → Blk wx w.heap.size 36 (clC ⟨4, key, hi, lim, val⟩) ∧ Below w.heap.size w wx := fun wx hk =>
      ⟨HF.out.1.below (HX.out.2.trans (hk.mono HX.out.2.size)) HF.out.1.lt, HF.out.2.1.trans ((HX.out.2.trans (hk.mono HX.out.2.size)).mono HF.out.2.1.size)⟩
    have HS3 := Lib.hid hS3; clear hS3
    have hk1 : Below X.heap.size X X.drew := (Below.refl _ _).drew
    have EX := Lib.hid (HF.out.2.2.next HX.out.2)
    have hne : (Value.slice (some ⟨w4.heap.size, 0, none⟩) 2 2).ownBlock ≠ some w.heap.size := by
      intro e
      have e' : w4.heap.size = w.heap.size := by simpa [Value.ownBlock] using e
      have := HNE.out; have := HW4.out; omega
    have HNE2 := Lib.hid hne; clear hne
    go_region_held3 (fun wx => wx.cell? ⟨w.heap.size, 2, none⟩ = some (.int .u64 hi) ∧ wx.cell? ⟨w.heap.size, 3, none⟩ = some (.int .i64 lim) ∧ Blk wx w.heap.size 36 (clC ⟨4, key, hi, lim, val⟩) ∧ Below w.heap.size w wx)
      (first | exact HS2.out _ (by assumption) | exact HS2.out _ (HS3.out _ (by assumption)) | exact HS2.out _ (HS3.out _ (Below.alloc (by assumption) (Below.size (by assumption)) _)))
      (first
        | (go_at_call 37; refine (numU64_int hi O.hi (EX.out.next (by assumption))).mono ?_; rintro e w8 ⟨rfl, hb8⟩; have K8 : Below X.heap.size X w8 := Below.trans (by assumption) (hb8.mono (Below.size (by assumption))))
        | (go_at_call 32; refine (numInt_any lim O.lim.1 O.lim.2 (EX.out.next (by assumption))).mono ?_; rintro e w8 ⟨rfl, hb8⟩; have K8 : Below X.heap.size X w8 := Below.trans (by assumption) (hb8.mono (Below.size (by assumption))))
        | ((with_reducible refine step_app_strs rfl _ _ rfl w.heap.size (.slice (some ⟨w4.heap.size, 0, none⟩) 2 2) 2 [sScan, num key] ?_ ?_ (.slice (some ⟨w8.heap.size, 0, none⟩) 2 2) [num hi, num lim] ?_ ?_ ?_ ?_ ?_)
           · rfl
           · exact own_next HX.out.1 (K8.alloc K8.size _)
           · rfl
           · exact lit_strs w8 [num hi, num lim] (by simp)
           · simp
           · exact Nat.le_trans (HS3.out _ K8).2.size (by simp)
           intro v9 w9 o9 G9; have K9 : Blk w9 w.heap.size 36 (clC ⟨4, key, hi, lim, val⟩) ∧ Below w.heap.size w w9 := pickStep2 (HS3.out _ K8).1 G9 HNE2.out (HS3.out _ K8).2))
    rename_i hHeld; clear hHeld
    have HL := Lib.hid (And.intro o9 K9.2); clear o9 K9 G9
    go_wp2_with fail
    go_ret
    exact ⟨_, rfl, HL.out.1, HL.out.2⟩

/-! END call -/
end Go.Proofs.YtnnahodajiolmaaGreatDoor.sc
