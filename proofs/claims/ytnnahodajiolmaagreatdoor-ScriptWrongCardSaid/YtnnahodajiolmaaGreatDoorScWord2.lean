/-
  PROVED HERE: the contract of script's words, a kind each. Conditions: as ScWords. (Printed by a program of mine.)
-/
import Derived.Test.YtnnahodajiolmaaGreatDoorScWords
namespace Go.Proofs.YtnnahodajiolmaaGreatDoor.sc
open Go.RowKit
set_option linter.unusedVariables false

theorem call_any {w : World} (c : Cl) (h0 : 1 ≤ c.op) (h1 : c.op ≤ 4) (O : ClOk c) (E : Env w) :
    Calls Tryz.prog 71 #[.agg (clC c)] w (StrsPost w (callW c)) := by
  obtain ⟨op, key, hi, lim, val⟩ := c
  have : op = 1 ∨ op = 2 ∨ op = 3 ∨ op = 4 := by simp at h0 h1; omega
  rcases this with rfl | rfl | rfl | rfl
  · exact call_put key hi lim val O E
  · exact call_get key hi lim val O E
  · exact call_del key hi lim val O E
  · exact call_scan key hi lim val O E

theorem acCells {w : World} {b : Nat} {a : Ac} {kv : Value} (hb : Blk w b 40 (acC a kv)) :
    w.cell? ⟨b, 0, none⟩ = some (.int .i64 a.kind) ∧ w.cell? ⟨b, 1, none⟩ = some (.int .i64 a.client) ∧ w.cell? ⟨b, 2, none⟩ = some (.int .i64 a.call.op) ∧ w.cell? ⟨b, 3, none⟩ = some (.int .u64 a.call.key) ∧ w.cell? ⟨b, 4, none⟩ = some (.int .u64 a.call.hi)
      ∧ w.cell? ⟨b, 5, none⟩ = some (.int .i64 a.call.lim) ∧ w.cell? ⟨b, 6, none⟩ = some (.string (mk a.call.val)) ∧ w.cell? ⟨b, 7, none⟩ = some (.int .u64 a.at_) ∧ w.cell? ⟨b, 8, none⟩ = some (.int .i64 a.n) ∧ w.cell? ⟨b, 9, none⟩ = some kv :=
  ⟨hb.cell 0, hb.cell 1, hb.cell 2, hb.cell 3, hb.cell 4, hb.cell 5, hb.cell 6, hb.cell 7, hb.cell 8, hb.cell 9⟩
theorem callStep {w wp w8 : World} {g : Nat} {t : TypeId} {cs : Array Value} (h1 : Blk wp g t cs) (h2 : Below w.heap.size w wp) (hb : Below wp.heap.size wp w8) : Blk w8 g t cs ∧ Below w.heap.size w w8 :=
  ⟨h1.below hb h1.lt, h2.trans (hb.mono h2.size)⟩
/-- The box of the argument as it was, and all below as it was. -/
def Inv (w : World) (t : TypeId) (cs : Array Value) (wx : World) : Prop := Blk wx w.heap.size t cs ∧ Below w.heap.size w wx
theorem Inv.call {w wp w8 : World} {t : TypeId} {cs : Array Value} (h : Inv w t cs wp) (hb : Below wp.heap.size wp w8) : Inv w t cs w8 := callStep h.1 h.2 hb
theorem Inv.alloc {w wp : World} {t : TypeId} {cs : Array Value} (h : Inv w t cs wp) (o : Obj) : Inv w t cs (wp.alloc o) := ⟨h.1.alloc o, h.2.alloc h.2.size o⟩
theorem Inv.env {w wp : World} {t : TypeId} {cs : Array Value} (E : Env w) (h : Inv w t cs wp) : Env wp := E.next h.2
theorem Inv.app {w w6 w7 : World} {t : TypeId} {cs : Array Value} {o : Obj} {v v7 : Value} (h : Inv w t cs w6) (G : Grew w.heap.size v (w6.alloc o) v7 w7) (hne : v.ownBlock ≠ some w.heap.size) : Inv w t cs w7 := pickStep2 h.1 G hne h.2
theorem allocStep {w wp : World} {g : Nat} {t : TypeId} {cs : Array Value} (h : Blk wp g t cs ∧ Below w.heap.size w wp) (o : Obj) : Blk (wp.alloc o) g t cs ∧ Below w.heap.size w (wp.alloc o) :=
  ⟨h.1.alloc o, h.2.alloc h.2.size o⟩

theorem callW_few (c : Cl) : 2 + (callW c).length ≤ 1000000000 := by
  unfold callW; repeat' split
  all_goals simp

set_option maxHeartbeats 3200000 in
set_option maxRecDepth 100000 in
theorem words_1 {w : World} (client op key hi lim : Int) (val : Bs) (at_ an : Int) (keep : List Int) (kv : Value) (n : Int) (hn : I64 n) (hop0 : 1 ≤ op) (hop1 : op ≤ 4) (hkv : RowR w kv keep.length 1 (keep.map (Value.int .i64))) (O : AcOk ⟨1, client, ⟨op, key, hi, lim, val⟩, at_, an, keep⟩) (E : Env w) :
    Calls Tryz.prog 42 #[.agg (acC ⟨1, client, ⟨op, key, hi, lim, val⟩, at_, an, keep⟩ kv), .int .i64 n] w (StrsPost w (sInvoke :: num client :: callW ⟨op, key, hi, lim, val⟩)) := by
  obtain ⟨KA, KC, rfl⟩ := hkv.len
  have HKV := Lib.hid hkv; clear hkv
  have hA := (Below.refl w.heap.size w).alloc (Nat.le_refl _) (.cells (acC ⟨1, client, ⟨op, key, hi, lim, val⟩, at_, an, keep⟩ (.slice KA keep.length KC)) 40)
  have hN := Blk.new w 40 (acC ⟨1, client, ⟨op, key, hi, lim, val⟩, at_, an, keep⟩ (.slice KA keep.length KC))
  obtain ⟨W, hW⟩ : ∃ W, W = w.alloc (.cells (acC ⟨1, client, ⟨op, key, hi, lim, val⟩, at_, an, keep⟩ (.slice KA keep.length KC)) 40) := ⟨_, rfl⟩
  rw [← hW] at hA hN
  have HF := Lib.hid (And.intro hN (And.intro hA (E.next hA))); clear hN hA
  have HNE := Lib.hid (show w.heap.size < W.heap.size from HF.out.1.lt)
  have hS : ∀ wx, Below W.heap.size W wx → (wx.cell? ⟨w.heap.size, 0, none⟩ = some (.int .i64 1) ∧ Below W.heap.size W wx) := fun wx hk =>
    ⟨(acCells (HF.out.1.below hk HF.out.1.lt)).1, hk⟩
  have HS := Lib.hid hS; clear hS
  have hk0 : Below W.heap.size W W.drew := (Below.refl _ _).drew
  have hix := kinds_at1
  have HEN := Lib.hid E; clear E
  have HO := Lib.hid O; clear O
  have HN := Lib.hid hn; clear hn
  go_enter Tryz.func42, Tryz.ntmps42
  go_upto_region 1 with fail
  rw [← hW]
  clear hW
  go_region_held3 (fun wx => wx.cell? ⟨w.heap.size, 0, none⟩ = some (.int .i64 1) ∧ Below W.heap.size W wx)
    (first | exact HS.out _ (by assumption) | exact HS.out _ (Below.alloc (by assumption) (Below.size (by assumption)) _))
    (first
      | (go_at_call 30; refine (kinds_any _).mono ?_; rintro e w4 ⟨rfl, hb4⟩; have K4 : Below W.heap.size W w4 := Below.trans (by assumption) (hb4.mono (Below.size (by assumption)))))
  all_goals
    rename_i hHeld; clear hHeld
    have KX := Lib.hid K4
    have HW4 := Lib.hid K4.size
    clear hk0 hb4 K4 hix
    obtain ⟨X, hX⟩ : ∃ X, X = w4.alloc (.cells #[.string (mk sInvoke)] 9) := ⟨_, rfl⟩
    have hown : X.ownsRow w.heap.size 9 1 (.slice (some ⟨w4.heap.size, 0, none⟩) 1 1) 1 (strs [sInvoke]) := by
      rw [hX]; exact own_lit w4 [sInvoke] (Nat.le_trans HF.out.2.1.size KX.out.size) (by simp)
    have hWX : Below W.heap.size W X := by rw [hX]; exact KX.out.alloc KX.out.size _
    rw [← hX]
    clear hX
    have hne : (Value.slice (some ⟨w4.heap.size, 0, none⟩) 1 1).ownBlock ≠ some w.heap.size := by
      intro e
      have e' : w4.heap.size = w.heap.size := by simpa [Value.ownBlock] using e
      have := HNE.out; have := HW4.out; omega
    have HNE2 := Lib.hid hne; clear hne
    have HX := Lib.hid (And.intro hown (And.intro (HF.out.1.below hWX HF.out.1.lt) (HF.out.2.1.trans (hWX.mono HF.out.2.1.size)))); clear hown hWX KX
    obtain ⟨d0, d1, d2, d3, d4, d5, d6, d7, d8, d9⟩ := acCells HX.out.2.1
    go_upto_region 4 with fail
    clear d0 d1 d2 d3 d4 d5 d6 d7 d8 d9
    have hS2 : ∀ wx, Inv w 40 (acC ⟨1, client, ⟨op, key, hi, lim, val⟩, at_, an, keep⟩ (.slice KA keep.length KC)) wx → (wx.cell? ⟨w.heap.size, 1, none⟩ = some (.int .i64 client) ∧ wx.cell? ⟨w.heap.size, 2, none⟩ = some (.int .i64 op) ∧ wx.cell? ⟨w.heap.size, 3, none⟩ = some (.int .u64 key) ∧ wx.cell? ⟨w.heap.size, 4, none⟩ = some (.int .u64 hi) ∧ wx.cell? ⟨w.heap.size, 5, none⟩ = some (.int .i64 lim) ∧ wx.cell? ⟨w.heap.size, 6, none⟩ = some (.string (mk val)) ∧ Inv w 40 (acC ⟨1, client, ⟨op, key, hi, lim, val⟩, at_, an, keep⟩ (.slice KA keep.length KC)) wx) := fun wx hk => by
      obtain ⟨_, d1, d2, d3, d4, d5, d6, _⟩ := acCells hk.1
      exact ⟨d1, d2, d3, d4, d5, d6, hk⟩
    have HS2 := Lib.hid hS2; clear hS2
    have hk1 : Inv w 40 (acC ⟨1, client, ⟨op, key, hi, lim, val⟩, at_, an, keep⟩ (.slice KA keep.length KC)) X.drew := ⟨HX.out.2.1.drew, HX.out.2.2.drew⟩
    have hE : ∀ wx, Inv w 40 (acC ⟨1, client, ⟨op, key, hi, lim, val⟩, at_, an, keep⟩ (.slice KA keep.length KC)) wx → Env wx := fun wx h => h.env HEN.out
    have HE := Lib.hid hE; clear hE
    have hx1 : X.drew.ownsRow w.heap.size 9 1 (.slice (some ⟨w4.heap.size, 0, none⟩) 1 1) 1 (strs [sInvoke]) := HX.out.1
    go_region_held3 (fun wx => wx.cell? ⟨w.heap.size, 1, none⟩ = some (.int .i64 client) ∧ wx.cell? ⟨w.heap.size, 2, none⟩ = some (.int .i64 op) ∧ wx.cell? ⟨w.heap.size, 3, none⟩ = some (.int .u64 key) ∧ wx.cell? ⟨w.heap.size, 4, none⟩ = some (.int .u64 hi) ∧ wx.cell? ⟨w.heap.size, 5, none⟩ = some (.int .i64 lim) ∧ wx.cell? ⟨w.heap.size, 6, none⟩ = some (.string (mk val)) ∧ Inv w 40 (acC ⟨1, client, ⟨op, key, hi, lim, val⟩, at_, an, keep⟩ (.slice KA keep.length KC)) wx)
      (first | exact HS2.out _ (by assumption) | exact HS2.out _ (Inv.alloc (by assumption) _))
      (first
        | (go_at_call 32; refine (numInt_any client HO.out.client.1 HO.out.client.2 (HE.out _ (by assumption))).mono ?_; rintro e w8 ⟨rfl, hb8⟩; have K8 : Inv w 40 (acC ⟨1, client, ⟨op, key, hi, lim, val⟩, at_, an, keep⟩ (.slice KA keep.length KC)) w8 := Inv.call (by assumption) hb8; have O8 := own_next (by assumption) hb8)
        | (go_at_call 71; refine (call_any ⟨op, key, hi, lim, val⟩ hop0 hop1 HO.out.call (HE.out _ (by assumption))).mono ?_; rintro e wA ⟨vA, rfl, oA, hbA⟩; have KA2 : Inv w 40 (acC ⟨1, client, ⟨op, key, hi, lim, val⟩, at_, an, keep⟩ (.slice KA keep.length KC)) wA := Inv.call (by assumption) hbA; have OA := own_next (by assumption) hbA)
        | ((with_reducible refine step_app_strs rfl _ _ rfl w.heap.size (.slice (some ⟨w4.heap.size, 0, none⟩) 1 1) 1 [sInvoke] ?_ ?_ (.slice (some ⟨w8.heap.size, 0, none⟩) 1 1) [num client] ?_ ?_ ?_ ?_ ?_)
           · rfl
           · exact own_next O8 (Below.alloc (Below.refl _ _) (Nat.le_refl _) _)
           · rfl
           · exact lit_strs w8 [num client] (by simp)
           · simp
           · exact Nat.le_trans K8.2.size (by simp)
           intro v9 w9 o9 G9; have K9 : Inv w 40 (acC ⟨1, client, ⟨op, key, hi, lim, val⟩, at_, an, keep⟩ (.slice KA keep.length KC)) w9 := K8.app G9 HNE2.out; have N9 := G9.own _ (Nat.lt_of_lt_of_le K8.1.lt (by simp)) HNE2.out; clear O8 hx1)
        | ((with_reducible refine step_app_strs rfl _ _ rfl w.heap.size v9 2 ([sInvoke] ++ [num client]) ?_ ?_ vA (callW ⟨op, key, hi, lim, val⟩) ?_ ?_ ?_ ?_ ?_)
           · rfl
           · exact OA
           · rfl
           · exact StrsAt.of_own oA
           · exact callW_few _
           · exact KA2.2.size
           intro vB wB oB GB; have KB : Inv w 40 (acC ⟨1, client, ⟨op, key, hi, lim, val⟩, at_, an, keep⟩ (.slice KA keep.length KC)) wB := ⟨KA2.1.grew GB N9, KA2.2.trans GB.below⟩))
    rename_i hHeld; clear hHeld
    have HL := Lib.hid (And.intro oB KB.2); clear oB KB GB
    go_wp2_with fail
    go_ret
    exact ⟨_, rfl, by have := HL.out.1; rw [show 2 + (callW ⟨op, key, hi, lim, val⟩).length = (sInvoke :: num client :: callW ⟨op, key, hi, lim, val⟩).length by simp; omega] at this; exact this, HL.out.2⟩

set_option maxHeartbeats 3200000 in
set_option maxRecDepth 100000 in
theorem words_2 {w : World} (client op key hi lim : Int) (val : Bs) (at_ an : Int) (keep : List Int) (kv : Value) (n : Int) (hn : I64 n) (hkv : RowR w kv keep.length 1 (keep.map (Value.int .i64))) (O : AcOk ⟨2, client, ⟨op, key, hi, lim, val⟩, at_, an, keep⟩) (E : Env w) :
    Calls Tryz.prog 42 #[.agg (acC ⟨2, client, ⟨op, key, hi, lim, val⟩, at_, an, keep⟩ kv), .int .i64 n] w (StrsPost w [sPick, num client, num n]) := by
  obtain ⟨KA, KC, rfl⟩ := hkv.len
  have HKV := Lib.hid hkv; clear hkv
  have hA := (Below.refl w.heap.size w).alloc (Nat.le_refl _) (.cells (acC ⟨2, client, ⟨op, key, hi, lim, val⟩, at_, an, keep⟩ (.slice KA keep.length KC)) 40)
  have hN := Blk.new w 40 (acC ⟨2, client, ⟨op, key, hi, lim, val⟩, at_, an, keep⟩ (.slice KA keep.length KC))
  obtain ⟨W, hW⟩ : ∃ W, W = w.alloc (.cells (acC ⟨2, client, ⟨op, key, hi, lim, val⟩, at_, an, keep⟩ (.slice KA keep.length KC)) 40) := ⟨_, rfl⟩
  rw [← hW] at hA hN
  have HF := Lib.hid (And.intro hN (And.intro hA (E.next hA))); clear hN hA
  have HNE := Lib.hid (show w.heap.size < W.heap.size from HF.out.1.lt)
  have hS : ∀ wx, Below W.heap.size W wx → (wx.cell? ⟨w.heap.size, 0, none⟩ = some (.int .i64 2) ∧ Below W.heap.size W wx) := fun wx hk =>
    ⟨(acCells (HF.out.1.below hk HF.out.1.lt)).1, hk⟩
  have HS := Lib.hid hS; clear hS
  have hk0 : Below W.heap.size W W.drew := (Below.refl _ _).drew
  have hix := kinds_at2
  have HEN := Lib.hid E; clear E
  have HO := Lib.hid O; clear O
  have HN := Lib.hid hn; clear hn
  go_enter Tryz.func42, Tryz.ntmps42
  go_upto_region 1 with fail
  rw [← hW]
  clear hW
  go_region_held3 (fun wx => wx.cell? ⟨w.heap.size, 0, none⟩ = some (.int .i64 2) ∧ Below W.heap.size W wx)
    (first | exact HS.out _ (by assumption) | exact HS.out _ (Below.alloc (by assumption) (Below.size (by assumption)) _))
    (first
      | (go_at_call 30; refine (kinds_any _).mono ?_; rintro e w4 ⟨rfl, hb4⟩; have K4 : Below W.heap.size W w4 := Below.trans (by assumption) (hb4.mono (Below.size (by assumption)))))
  all_goals
    rename_i hHeld; clear hHeld
    have KX := Lib.hid K4
    have HW4 := Lib.hid K4.size
    clear hk0 hb4 K4 hix
    obtain ⟨X, hX⟩ : ∃ X, X = w4.alloc (.cells #[.string (mk sPick)] 9) := ⟨_, rfl⟩
    have hown : X.ownsRow w.heap.size 9 1 (.slice (some ⟨w4.heap.size, 0, none⟩) 1 1) 1 (strs [sPick]) := by
      rw [hX]; exact own_lit w4 [sPick] (Nat.le_trans HF.out.2.1.size KX.out.size) (by simp)
    have hWX : Below W.heap.size W X := by rw [hX]; exact KX.out.alloc KX.out.size _
    rw [← hX]
    clear hX
    have hne : (Value.slice (some ⟨w4.heap.size, 0, none⟩) 1 1).ownBlock ≠ some w.heap.size := by
      intro e
      have e' : w4.heap.size = w.heap.size := by simpa [Value.ownBlock] using e
      have := HNE.out; have := HW4.out; omega
    have HNE2 := Lib.hid hne; clear hne
    have HX := Lib.hid (And.intro hown (And.intro (HF.out.1.below hWX HF.out.1.lt) (HF.out.2.1.trans (hWX.mono HF.out.2.1.size)))); clear hown hWX KX
    obtain ⟨d0, d1, d2, d3, d4, d5, d6, d7, d8, d9⟩ := acCells HX.out.2.1
    go_wp2_with fail
    refine (numInt_any client HO.out.client.1 HO.out.client.2 (HEN.out.next HX.out.2.2)).mono ?_; rintro e w6 ⟨rfl, hb6⟩
    have h6 := callStep HX.out.2.1 HX.out.2.2 hb6
    have o6 := own_next HX.out.1 hb6
    have H6 := Lib.hid (And.intro o6 h6); clear o6 h6
    go_wp2_with fail
    refine (numInt_any n HN.out.1 HN.out.2 (HEN.out.next H6.out.2.2)).mono ?_; rintro e w7 ⟨rfl, hb7⟩
    go_wp2_with (at_builtin; refine wpList_app_strs rfl _ _ rfl w.heap.size _ 1 _ rfl (own_next (own_next H6.out.1 hb7) (Below.alloc (Below.refl _ _) (Nat.le_refl _) _)) _ [num client, num n] rfl (lit_strs w7 [num client, num n] (by simp)) (by simp) ?hbase ?_)
    case hbase => have := H6.out.2.2.size; have := hb7.size; simp; omega
    intro v' w8 o8 G8
    have HL := Lib.hid (And.intro o8 ((allocStep (callStep H6.out.2.1 H6.out.2.2 hb7) _).2.trans G8.below))
    clear o8 G8
    go_wp2_with fail
    go_ret
    exact ⟨_, rfl, HL.out.1, HL.out.2⟩

set_option maxHeartbeats 3200000 in
set_option maxRecDepth 100000 in
theorem words_3 {w : World} (client op key hi lim : Int) (val : Bs) (at_ an : Int) (keep : List Int) (kv : Value) (n : Int) (hn : I64 n) (hkv : RowR w kv keep.length 1 (keep.map (Value.int .i64))) (O : AcOk ⟨3, client, ⟨op, key, hi, lim, val⟩, at_, an, keep⟩) (E : Env w) :
    Calls Tryz.prog 42 #[.agg (acC ⟨3, client, ⟨op, key, hi, lim, val⟩, at_, an, keep⟩ kv), .int .i64 n] w (StrsPost w [sEvict, num at_, num an]) := by
  obtain ⟨KA, KC, rfl⟩ := hkv.len
  have HKV := Lib.hid hkv; clear hkv
  have hA := (Below.refl w.heap.size w).alloc (Nat.le_refl _) (.cells (acC ⟨3, client, ⟨op, key, hi, lim, val⟩, at_, an, keep⟩ (.slice KA keep.length KC)) 40)
  have hN := Blk.new w 40 (acC ⟨3, client, ⟨op, key, hi, lim, val⟩, at_, an, keep⟩ (.slice KA keep.length KC))
  obtain ⟨W, hW⟩ : ∃ W, W = w.alloc (.cells (acC ⟨3, client, ⟨op, key, hi, lim, val⟩, at_, an, keep⟩ (.slice KA keep.length KC)) 40) := ⟨_, rfl⟩
  rw [← hW] at hA hN
  have HF := Lib.hid (And.intro hN (And.intro hA (E.next hA))); clear hN hA
  have HNE := Lib.hid (show w.heap.size < W.heap.size from HF.out.1.lt)
  have hS : ∀ wx, Below W.heap.size W wx → (wx.cell? ⟨w.heap.size, 0, none⟩ = some (.int .i64 3) ∧ Below W.heap.size W wx) := fun wx hk =>
    ⟨(acCells (HF.out.1.below hk HF.out.1.lt)).1, hk⟩
  have HS := Lib.hid hS; clear hS
  have hk0 : Below W.heap.size W W.drew := (Below.refl _ _).drew
  have hix := kinds_at3
  have HEN := Lib.hid E; clear E
  have HO := Lib.hid O; clear O
  have HN := Lib.hid hn; clear hn
  go_enter Tryz.func42, Tryz.ntmps42
  go_upto_region 1 with fail
  rw [← hW]
  clear hW
  go_region_held3 (fun wx => wx.cell? ⟨w.heap.size, 0, none⟩ = some (.int .i64 3) ∧ Below W.heap.size W wx)
    (first | exact HS.out _ (by assumption) | exact HS.out _ (Below.alloc (by assumption) (Below.size (by assumption)) _))
    (first
      | (go_at_call 30; refine (kinds_any _).mono ?_; rintro e w4 ⟨rfl, hb4⟩; have K4 : Below W.heap.size W w4 := Below.trans (by assumption) (hb4.mono (Below.size (by assumption)))))
  all_goals
    rename_i hHeld; clear hHeld
    have KX := Lib.hid K4
    have HW4 := Lib.hid K4.size
    clear hk0 hb4 K4 hix
    obtain ⟨X, hX⟩ : ∃ X, X = w4.alloc (.cells #[.string (mk sEvict)] 9) := ⟨_, rfl⟩
    have hown : X.ownsRow w.heap.size 9 1 (.slice (some ⟨w4.heap.size, 0, none⟩) 1 1) 1 (strs [sEvict]) := by
      rw [hX]; exact own_lit w4 [sEvict] (Nat.le_trans HF.out.2.1.size KX.out.size) (by simp)
    have hWX : Below W.heap.size W X := by rw [hX]; exact KX.out.alloc KX.out.size _
    rw [← hX]
    clear hX
    have hne : (Value.slice (some ⟨w4.heap.size, 0, none⟩) 1 1).ownBlock ≠ some w.heap.size := by
      intro e
      have e' : w4.heap.size = w.heap.size := by simpa [Value.ownBlock] using e
      have := HNE.out; have := HW4.out; omega
    have HNE2 := Lib.hid hne; clear hne
    have HX := Lib.hid (And.intro hown (And.intro (HF.out.1.below hWX HF.out.1.lt) (HF.out.2.1.trans (hWX.mono HF.out.2.1.size)))); clear hown hWX KX
    obtain ⟨d0, d1, d2, d3, d4, d5, d6, d7, d8, d9⟩ := acCells HX.out.2.1
    go_upto_region 8 with fail
    clear d0 d1 d2 d3 d4 d5 d6 d7 d8 d9
    have hS2 : ∀ wx, Inv w 40 (acC ⟨3, client, ⟨op, key, hi, lim, val⟩, at_, an, keep⟩ (.slice KA keep.length KC)) wx → (wx.cell? ⟨w.heap.size, 7, none⟩ = some (.int .u64 at_) ∧ wx.cell? ⟨w.heap.size, 8, none⟩ = some (.int .i64 an) ∧ Inv w 40 (acC ⟨3, client, ⟨op, key, hi, lim, val⟩, at_, an, keep⟩ (.slice KA keep.length KC)) wx) := fun wx hk => by
      obtain ⟨_, _, _, _, _, _, _, d7, d8, _⟩ := acCells hk.1
      exact ⟨d7, d8, hk⟩
    have HS2 := Lib.hid hS2; clear hS2
    have hk1 : Inv w 40 (acC ⟨3, client, ⟨op, key, hi, lim, val⟩, at_, an, keep⟩ (.slice KA keep.length KC)) X.drew := ⟨HX.out.2.1.drew, HX.out.2.2.drew⟩
    have hE : ∀ wx, Inv w 40 (acC ⟨3, client, ⟨op, key, hi, lim, val⟩, at_, an, keep⟩ (.slice KA keep.length KC)) wx → Env wx := fun wx h => h.env HEN.out
    have HE := Lib.hid hE; clear hE
    have hx1 : X.drew.ownsRow w.heap.size 9 1 (.slice (some ⟨w4.heap.size, 0, none⟩) 1 1) 1 (strs [sEvict]) := HX.out.1
    go_region_held3 (fun wx => wx.cell? ⟨w.heap.size, 7, none⟩ = some (.int .u64 at_) ∧ wx.cell? ⟨w.heap.size, 8, none⟩ = some (.int .i64 an) ∧ Inv w 40 (acC ⟨3, client, ⟨op, key, hi, lim, val⟩, at_, an, keep⟩ (.slice KA keep.length KC)) wx)
      (first | exact HS2.out _ (by assumption) | exact HS2.out _ (Inv.alloc (by assumption) _))
      (first
        | (go_at_call 72; refine (numAddr_int at_ HO.out.at_ (HE.out _ (by assumption))).mono ?_; rintro e w8 ⟨rfl, hb8⟩; have K8 : Inv w 40 (acC ⟨3, client, ⟨op, key, hi, lim, val⟩, at_, an, keep⟩ (.slice KA keep.length KC)) w8 := Inv.call (by assumption) hb8; have O8 := own_next (by assumption) hb8)
        | (go_at_call 32; refine (numInt_any an HO.out.n.1 HO.out.n.2 (HE.out _ (by assumption))).mono ?_; rintro e w8 ⟨rfl, hb8⟩; have K8 : Inv w 40 (acC ⟨3, client, ⟨op, key, hi, lim, val⟩, at_, an, keep⟩ (.slice KA keep.length KC)) w8 := Inv.call (by assumption) hb8; have O8 := own_next (by assumption) hb8)
        | ((with_reducible refine step_app_strs rfl _ _ rfl w.heap.size (.slice (some ⟨w4.heap.size, 0, none⟩) 1 1) 1 [sEvict] ?_ ?_ (.slice (some ⟨w8.heap.size, 0, none⟩) 2 2) [num at_, num an] ?_ ?_ ?_ ?_ ?_)
           · rfl
           · exact own_next O8 (Below.alloc (Below.refl _ _) (Nat.le_refl _) _)
           · rfl
           · exact lit_strs w8 [num at_, num an] (by simp)
           · simp
           · exact Nat.le_trans K8.2.size (by simp)
           intro v9 w9 o9 G9; have K9 : Inv w 40 (acC ⟨3, client, ⟨op, key, hi, lim, val⟩, at_, an, keep⟩ (.slice KA keep.length KC)) w9 := K8.app G9 HNE2.out))
    rename_i hHeld; clear hHeld
    have HL := Lib.hid (And.intro o9 K9.2); clear o9 K9 G9
    go_wp2_with fail
    go_ret
    exact ⟨_, rfl, HL.out.1, HL.out.2⟩

set_option maxHeartbeats 3200000 in
set_option maxRecDepth 100000 in
theorem words_4 {w : World} (client op key hi lim : Int) (val : Bs) (at_ an : Int) (keep : List Int) (kv : Value) (n : Int) (hn : I64 n) (hkv : RowR w kv keep.length 1 (keep.map (Value.int .i64))) (O : AcOk ⟨4, client, ⟨op, key, hi, lim, val⟩, at_, an, keep⟩) (E : Env w) :
    Calls Tryz.prog 42 #[.agg (acC ⟨4, client, ⟨op, key, hi, lim, val⟩, at_, an, keep⟩ kv), .int .i64 n] w (StrsPost w (sCrash :: keep.map num)) := by
  obtain ⟨KA, KC, rfl⟩ := hkv.len
  have HKV := Lib.hid hkv; clear hkv
  have hA := (Below.refl w.heap.size w).alloc (Nat.le_refl _) (.cells (acC ⟨4, client, ⟨op, key, hi, lim, val⟩, at_, an, keep⟩ (.slice KA keep.length KC)) 40)
  have hN := Blk.new w 40 (acC ⟨4, client, ⟨op, key, hi, lim, val⟩, at_, an, keep⟩ (.slice KA keep.length KC))
  obtain ⟨W, hW⟩ : ∃ W, W = w.alloc (.cells (acC ⟨4, client, ⟨op, key, hi, lim, val⟩, at_, an, keep⟩ (.slice KA keep.length KC)) 40) := ⟨_, rfl⟩
  rw [← hW] at hA hN
  have HF := Lib.hid (And.intro hN (And.intro hA (E.next hA))); clear hN hA
  have HNE := Lib.hid (show w.heap.size < W.heap.size from HF.out.1.lt)
  have hS : ∀ wx, Below W.heap.size W wx → (wx.cell? ⟨w.heap.size, 0, none⟩ = some (.int .i64 4) ∧ Below W.heap.size W wx) := fun wx hk =>
    ⟨(acCells (HF.out.1.below hk HF.out.1.lt)).1, hk⟩
  have HS := Lib.hid hS; clear hS
  have hk0 : Below W.heap.size W W.drew := (Below.refl _ _).drew
  have hix := kinds_at4
  have HEN := Lib.hid E; clear E
  have HO := Lib.hid O; clear O
  have HN := Lib.hid hn; clear hn
  go_enter Tryz.func42, Tryz.ntmps42
  go_upto_region 1 with fail
  rw [← hW]
  clear hW
  go_region_held3 (fun wx => wx.cell? ⟨w.heap.size, 0, none⟩ = some (.int .i64 4) ∧ Below W.heap.size W wx)
    (first | exact HS.out _ (by assumption) | exact HS.out _ (Below.alloc (by assumption) (Below.size (by assumption)) _))
    (first
      | (go_at_call 30; refine (kinds_any _).mono ?_; rintro e w4 ⟨rfl, hb4⟩; have K4 : Below W.heap.size W w4 := Below.trans (by assumption) (hb4.mono (Below.size (by assumption)))))
  all_goals
    rename_i hHeld; clear hHeld
    have KX := Lib.hid K4
    have HW4 := Lib.hid K4.size
    clear hk0 hb4 K4 hix
    obtain ⟨X, hX⟩ : ∃ X, X = w4.alloc (.cells #[.string (mk sCrash)] 9) := ⟨_, rfl⟩
    have hown : X.ownsRow w.heap.size 9 1 (.slice (some ⟨w4.heap.size, 0, none⟩) 1 1) 1 (strs [sCrash]) := by
      rw [hX]; exact own_lit w4 [sCrash] (Nat.le_trans HF.out.2.1.size KX.out.size) (by simp)
    have hWX : Below W.heap.size W X := by rw [hX]; exact KX.out.alloc KX.out.size _
    rw [← hX]
    clear hX
    have hne : (Value.slice (some ⟨w4.heap.size, 0, none⟩) 1 1).ownBlock ≠ some w.heap.size := by
      intro e
      have e' : w4.heap.size = w.heap.size := by simpa [Value.ownBlock] using e
      have := HNE.out; have := HW4.out; omega
    have HNE2 := Lib.hid hne; clear hne
    have HX := Lib.hid (And.intro hown (And.intro (HF.out.1.below hWX HF.out.1.lt) (HF.out.2.1.trans (hWX.mono HF.out.2.1.size)))); clear hown hWX KX
    obtain ⟨d0, d1, d2, d3, d4, d5, d6, d7, d8, d9⟩ := acCells HX.out.2.1
    have hfew := HO.out.few
    go_wp2_with fail
    clear d0 d1 d2 d3 d4 d5 d6 d7 d8 d9
    have HFW := Lib.hid hfew
    go_loopw [5, 53] (fun s5 s53 wr => ∃ k : Nat, k ≤ keep.length ∧ s53 = .int .i64 k ∧ wr.ownsRow w.heap.size 9 1 s5 (1 + k) (strs (sCrash :: (keep.take k).map num)) ∧ s5.ownBlock ≠ some w.heap.size ∧ Below w.heap.size w wr) (fun _ s53 _ => keep.length - (RowKit.intOf s53).toNat)
    case atStart => exact ⟨0, Nat.zero_le _, rfl, HX.out.1, HNE2.out, HX.out.2.2⟩
    case round =>
      obtain ⟨k, hk, rfl, hown, hno, hbel⟩ := hrel
      have HR := Lib.hid (And.intro hown (And.intro hno hbel)); clear hown hno hbel
      by_cases hlt : k < keep.length
      · obtain ⟨x, hx⟩ : ∃ x, keep[k]? = some x := ⟨_, List.getElem?_eq_getElem hlt⟩
        have hrow := HKV.out.below HR.out.2.2 (Nat.le_refl _)
        obtain ⟨A', c', e', _, _, hrow⟩ := hrow
        obtain ⟨rb, ro, rfl, hrb, hrc⟩ := hrow (by omega)
        obtain ⟨rfl, rfl⟩ : KA = some ⟨rb, ro, none⟩ ∧ KC = c' := by injection e' with a b c; exact ⟨a, c⟩
        clear e' hrow
        have c1 := hrc k _ (by rw [List.getElem?_map, hx]; rfl)
        have hI := HO.out.keep x (List.mem_of_getElem? hx)
        obtain ⟨x0, x1⟩ := hI
        have HXX := Lib.hid hx; clear hx hrc hrb
        go_wp2_with fail
        refine (numInt_any x x0 x1 (HEN.out.next HR.out.2.2)).mono ?_; rintro e w6 ⟨rfl, hb6⟩
        clear c1
        go_wp2_with (at_builtin; refine wpList_app_strs rfl _ _ rfl w.heap.size _ (1 + k) _ rfl (own_next (own_next HR.out.1 hb6) (Below.alloc (Below.refl _ _) (Nat.le_refl _) _)) _ [num x] rfl (lit_strs w6 [num x] (by simp)) ?_ ?_ ?_)
        · simp; omega
        · have := HR.out.2.2.size; have := hb6.size; simp; omega
        intro v' w7 o7 G7
        have HL := Lib.hid (And.intro o7 (And.intro (G7.own _ (by have := HR.out.2.2.size; have := hb6.size; have := HF.out.1.lt; have := HX.out.2.1.lt; simp; omega) HR.out.2.1) (((HR.out.2.2.trans (hb6.mono HR.out.2.2.size)).alloc (Nat.le_trans HR.out.2.2.size hb6.size) _).trans G7.below)))
        clear o7 G7
        go_wp2_with fail
        go_roundw
        case rel =>
          refine ⟨k + 1, by omega, by go_num, ?_, HL.out.2⟩
          have e : keep.take (k + 1) = keep.take k ++ [x] := by rw [List.take_add_one, HXX.out]; rfl
          rw [e, List.map_append, ← Nat.add_assoc]
          have hh := HL.out.1
          rw [← List.map_take] at hh
          exact hh
        case measure => simp [RowKit.intOf]; omega
      · obtain rfl : k = keep.length := by omega
        have ho := HR.out.1
        rw [List.take_length, Nat.add_comm] at ho
        go_wp2_with fail
        go_ret
        exact ⟨_, rfl, by rw [show (sCrash :: keep.map num).length = keep.length + 1 by simp]; exact ho, HR.out.2.2⟩

set_option maxHeartbeats 3200000 in
set_option maxRecDepth 100000 in
theorem words_5 {w : World} (client op key hi lim : Int) (val : Bs) (at_ an : Int) (keep : List Int) (kv : Value) (n : Int) (hn : I64 n) (hkv : RowR w kv keep.length 1 (keep.map (Value.int .i64))) (O : AcOk ⟨5, client, ⟨op, key, hi, lim, val⟩, at_, an, keep⟩) (E : Env w) :
    Calls Tryz.prog 42 #[.agg (acC ⟨5, client, ⟨op, key, hi, lim, val⟩, at_, an, keep⟩ kv), .int .i64 n] w (StrsPost w [sOpen]) := by
  obtain ⟨KA, KC, rfl⟩ := hkv.len
  have HKV := Lib.hid hkv; clear hkv
  have hA := (Below.refl w.heap.size w).alloc (Nat.le_refl _) (.cells (acC ⟨5, client, ⟨op, key, hi, lim, val⟩, at_, an, keep⟩ (.slice KA keep.length KC)) 40)
  have hN := Blk.new w 40 (acC ⟨5, client, ⟨op, key, hi, lim, val⟩, at_, an, keep⟩ (.slice KA keep.length KC))
  obtain ⟨W, hW⟩ : ∃ W, W = w.alloc (.cells (acC ⟨5, client, ⟨op, key, hi, lim, val⟩, at_, an, keep⟩ (.slice KA keep.length KC)) 40) := ⟨_, rfl⟩
  rw [← hW] at hA hN
  have HF := Lib.hid (And.intro hN (And.intro hA (E.next hA))); clear hN hA
  have HNE := Lib.hid (show w.heap.size < W.heap.size from HF.out.1.lt)
  have hS : ∀ wx, Below W.heap.size W wx → (wx.cell? ⟨w.heap.size, 0, none⟩ = some (.int .i64 5) ∧ Below W.heap.size W wx) := fun wx hk =>
    ⟨(acCells (HF.out.1.below hk HF.out.1.lt)).1, hk⟩
  have HS := Lib.hid hS; clear hS
  have hk0 : Below W.heap.size W W.drew := (Below.refl _ _).drew
  have hix := kinds_at5
  have HEN := Lib.hid E; clear E
  have HO := Lib.hid O; clear O
  have HN := Lib.hid hn; clear hn
  go_enter Tryz.func42, Tryz.ntmps42
  go_upto_region 1 with fail
  rw [← hW]
  clear hW
  go_region_held3 (fun wx => wx.cell? ⟨w.heap.size, 0, none⟩ = some (.int .i64 5) ∧ Below W.heap.size W wx)
    (first | exact HS.out _ (by assumption) | exact HS.out _ (Below.alloc (by assumption) (Below.size (by assumption)) _))
    (first
      | (go_at_call 30; refine (kinds_any _).mono ?_; rintro e w4 ⟨rfl, hb4⟩; have K4 : Below W.heap.size W w4 := Below.trans (by assumption) (hb4.mono (Below.size (by assumption)))))
  all_goals
    rename_i hHeld; clear hHeld
    have KX := Lib.hid K4
    have HW4 := Lib.hid K4.size
    clear hk0 hb4 K4 hix
    obtain ⟨X, hX⟩ : ∃ X, X = w4.alloc (.cells #[.string (mk sOpen)] 9) := ⟨_, rfl⟩
    have hown : X.ownsRow w.heap.size 9 1 (.slice (some ⟨w4.heap.size, 0, none⟩) 1 1) 1 (strs [sOpen]) := by
      rw [hX]; exact own_lit w4 [sOpen] (Nat.le_trans HF.out.2.1.size KX.out.size) (by simp)
    have hWX : Below W.heap.size W X := by rw [hX]; exact KX.out.alloc KX.out.size _
    rw [← hX]
    clear hX
    have hne : (Value.slice (some ⟨w4.heap.size, 0, none⟩) 1 1).ownBlock ≠ some w.heap.size := by
      intro e
      have e' : w4.heap.size = w.heap.size := by simpa [Value.ownBlock] using e
      have := HNE.out; have := HW4.out; omega
    have HNE2 := Lib.hid hne; clear hne
    have HX := Lib.hid (And.intro hown (And.intro (HF.out.1.below hWX HF.out.1.lt) (HF.out.2.1.trans (hWX.mono HF.out.2.1.size)))); clear hown hWX KX
    obtain ⟨d0, d1, d2, d3, d4, d5, d6, d7, d8, d9⟩ := acCells HX.out.2.1
    go_wp2_with fail
    go_ret
    exact ⟨_, rfl, HX.out.1, HX.out.2.2⟩

set_option maxHeartbeats 3200000 in
set_option maxRecDepth 100000 in
theorem words_6 {w : World} (client op key hi lim : Int) (val : Bs) (at_ an : Int) (keep : List Int) (kv : Value) (n : Int) (hn : I64 n) (hkv : RowR w kv keep.length 1 (keep.map (Value.int .i64))) (O : AcOk ⟨6, client, ⟨op, key, hi, lim, val⟩, at_, an, keep⟩) (E : Env w) :
    Calls Tryz.prog 42 #[.agg (acC ⟨6, client, ⟨op, key, hi, lim, val⟩, at_, an, keep⟩ kv), .int .i64 n] w (StrsPost w [sScavenge]) := by
  obtain ⟨KA, KC, rfl⟩ := hkv.len
  have HKV := Lib.hid hkv; clear hkv
  have hA := (Below.refl w.heap.size w).alloc (Nat.le_refl _) (.cells (acC ⟨6, client, ⟨op, key, hi, lim, val⟩, at_, an, keep⟩ (.slice KA keep.length KC)) 40)
  have hN := Blk.new w 40 (acC ⟨6, client, ⟨op, key, hi, lim, val⟩, at_, an, keep⟩ (.slice KA keep.length KC))
  obtain ⟨W, hW⟩ : ∃ W, W = w.alloc (.cells (acC ⟨6, client, ⟨op, key, hi, lim, val⟩, at_, an, keep⟩ (.slice KA keep.length KC)) 40) := ⟨_, rfl⟩
  rw [← hW] at hA hN
  have HF := Lib.hid (And.intro hN (And.intro hA (E.next hA))); clear hN hA
  have HNE := Lib.hid (show w.heap.size < W.heap.size from HF.out.1.lt)
  have hS : ∀ wx, Below W.heap.size W wx → (wx.cell? ⟨w.heap.size, 0, none⟩ = some (.int .i64 6) ∧ Below W.heap.size W wx) := fun wx hk =>
    ⟨(acCells (HF.out.1.below hk HF.out.1.lt)).1, hk⟩
  have HS := Lib.hid hS; clear hS
  have hk0 : Below W.heap.size W W.drew := (Below.refl _ _).drew
  have hix := kinds_at6
  have HEN := Lib.hid E; clear E
  have HO := Lib.hid O; clear O
  have HN := Lib.hid hn; clear hn
  go_enter Tryz.func42, Tryz.ntmps42
  go_upto_region 1 with fail
  rw [← hW]
  clear hW
  go_region_held3 (fun wx => wx.cell? ⟨w.heap.size, 0, none⟩ = some (.int .i64 6) ∧ Below W.heap.size W wx)
    (first | exact HS.out _ (by assumption) | exact HS.out _ (Below.alloc (by assumption) (Below.size (by assumption)) _))
    (first
      | (go_at_call 30; refine (kinds_any _).mono ?_; rintro e w4 ⟨rfl, hb4⟩; have K4 : Below W.heap.size W w4 := Below.trans (by assumption) (hb4.mono (Below.size (by assumption)))))
  all_goals
    rename_i hHeld; clear hHeld
    have KX := Lib.hid K4
    have HW4 := Lib.hid K4.size
    clear hk0 hb4 K4 hix
    obtain ⟨X, hX⟩ : ∃ X, X = w4.alloc (.cells #[.string (mk sScavenge)] 9) := ⟨_, rfl⟩
    have hown : X.ownsRow w.heap.size 9 1 (.slice (some ⟨w4.heap.size, 0, none⟩) 1 1) 1 (strs [sScavenge]) := by
      rw [hX]; exact own_lit w4 [sScavenge] (Nat.le_trans HF.out.2.1.size KX.out.size) (by simp)
    have hWX : Below W.heap.size W X := by rw [hX]; exact KX.out.alloc KX.out.size _
    rw [← hX]
    clear hX
    have hne : (Value.slice (some ⟨w4.heap.size, 0, none⟩) 1 1).ownBlock ≠ some w.heap.size := by
      intro e
      have e' : w4.heap.size = w.heap.size := by simpa [Value.ownBlock] using e
      have := HNE.out; have := HW4.out; omega
    have HNE2 := Lib.hid hne; clear hne
    have HX := Lib.hid (And.intro hown (And.intro (HF.out.1.below hWX HF.out.1.lt) (HF.out.2.1.trans (hWX.mono HF.out.2.1.size)))); clear hown hWX KX
    obtain ⟨d0, d1, d2, d3, d4, d5, d6, d7, d8, d9⟩ := acCells HX.out.2.1
    go_wp2_with fail
    go_ret
    exact ⟨_, rfl, HX.out.1, HX.out.2.2⟩

set_option maxHeartbeats 3200000 in
set_option maxRecDepth 100000 in
theorem words_7 {w : World} (client op key hi lim : Int) (val : Bs) (at_ an : Int) (keep : List Int) (kv : Value) (n : Int) (hn : I64 n) (hkv : RowR w kv keep.length 1 (keep.map (Value.int .i64))) (O : AcOk ⟨7, client, ⟨op, key, hi, lim, val⟩, at_, an, keep⟩) (E : Env w) :
    Calls Tryz.prog 42 #[.agg (acC ⟨7, client, ⟨op, key, hi, lim, val⟩, at_, an, keep⟩ kv), .int .i64 n] w (StrsPost w [sBoot, num n]) := by
  obtain ⟨KA, KC, rfl⟩ := hkv.len
  have HKV := Lib.hid hkv; clear hkv
  have hA := (Below.refl w.heap.size w).alloc (Nat.le_refl _) (.cells (acC ⟨7, client, ⟨op, key, hi, lim, val⟩, at_, an, keep⟩ (.slice KA keep.length KC)) 40)
  have hN := Blk.new w 40 (acC ⟨7, client, ⟨op, key, hi, lim, val⟩, at_, an, keep⟩ (.slice KA keep.length KC))
  obtain ⟨W, hW⟩ : ∃ W, W = w.alloc (.cells (acC ⟨7, client, ⟨op, key, hi, lim, val⟩, at_, an, keep⟩ (.slice KA keep.length KC)) 40) := ⟨_, rfl⟩
  rw [← hW] at hA hN
  have HF := Lib.hid (And.intro hN (And.intro hA (E.next hA))); clear hN hA
  have HNE := Lib.hid (show w.heap.size < W.heap.size from HF.out.1.lt)
  have hS : ∀ wx, Below W.heap.size W wx → (wx.cell? ⟨w.heap.size, 0, none⟩ = some (.int .i64 7) ∧ Below W.heap.size W wx) := fun wx hk =>
    ⟨(acCells (HF.out.1.below hk HF.out.1.lt)).1, hk⟩
  have HS := Lib.hid hS; clear hS
  have hk0 : Below W.heap.size W W.drew := (Below.refl _ _).drew
  have hix := kinds_at7
  have HEN := Lib.hid E; clear E
  have HO := Lib.hid O; clear O
  have HN := Lib.hid hn; clear hn
  go_enter Tryz.func42, Tryz.ntmps42
  go_upto_region 1 with fail
  rw [← hW]
  clear hW
  go_region_held3 (fun wx => wx.cell? ⟨w.heap.size, 0, none⟩ = some (.int .i64 7) ∧ Below W.heap.size W wx)
    (first | exact HS.out _ (by assumption) | exact HS.out _ (Below.alloc (by assumption) (Below.size (by assumption)) _))
    (first
      | (go_at_call 30; refine (kinds_any _).mono ?_; rintro e w4 ⟨rfl, hb4⟩; have K4 : Below W.heap.size W w4 := Below.trans (by assumption) (hb4.mono (Below.size (by assumption)))))
  all_goals
    rename_i hHeld; clear hHeld
    have KX := Lib.hid K4
    have HW4 := Lib.hid K4.size
    clear hk0 hb4 K4 hix
    obtain ⟨X, hX⟩ : ∃ X, X = w4.alloc (.cells #[.string (mk sBoot)] 9) := ⟨_, rfl⟩
    have hown : X.ownsRow w.heap.size 9 1 (.slice (some ⟨w4.heap.size, 0, none⟩) 1 1) 1 (strs [sBoot]) := by
      rw [hX]; exact own_lit w4 [sBoot] (Nat.le_trans HF.out.2.1.size KX.out.size) (by simp)
    have hWX : Below W.heap.size W X := by rw [hX]; exact KX.out.alloc KX.out.size _
    rw [← hX]
    clear hX
    have hne : (Value.slice (some ⟨w4.heap.size, 0, none⟩) 1 1).ownBlock ≠ some w.heap.size := by
      intro e
      have e' : w4.heap.size = w.heap.size := by simpa [Value.ownBlock] using e
      have := HNE.out; have := HW4.out; omega
    have HNE2 := Lib.hid hne; clear hne
    have HX := Lib.hid (And.intro hown (And.intro (HF.out.1.below hWX HF.out.1.lt) (HF.out.2.1.trans (hWX.mono HF.out.2.1.size)))); clear hown hWX KX
    obtain ⟨d0, d1, d2, d3, d4, d5, d6, d7, d8, d9⟩ := acCells HX.out.2.1
    go_wp2_with fail
    refine (numInt_any n HN.out.1 HN.out.2 (HEN.out.next HX.out.2.2)).mono ?_; rintro e w6 ⟨rfl, hb6⟩
    go_wp2_with (at_builtin; refine wpList_app_strs rfl _ _ rfl w.heap.size _ 1 _ rfl (own_next (own_next HX.out.1 hb6) (Below.alloc (Below.refl _ _) (Nat.le_refl _) _)) _ [num n] rfl (lit_strs w6 [num n] (by simp)) (by simp) ?hbase ?_)
    case hbase => have := HX.out.2.2.size; have := hb6.size; simp; omega
    intro v' w7 o7 G7
    have HL := Lib.hid (And.intro o7 ((allocStep (callStep HX.out.2.1 HX.out.2.2 hb6) _).2.trans G7.below))
    clear o7 G7
    go_wp2_with fail
    go_ret
    exact ⟨_, rfl, HL.out.1, HL.out.2⟩

theorem words_any {w : World} (a : Ac) (kv : Value) (n : Int) (hn : I64 n) (h1 : 1 ≤ a.kind) (h7 : a.kind ≤ 7) (hop : a.kind = 1 → 1 ≤ a.call.op ∧ a.call.op ≤ 4) (hkv : RowR w kv a.keep.length 1 (a.keep.map (Value.int .i64))) (O : AcOk a) (E : Env w) :
    Calls Tryz.prog 42 #[.agg (acC a kv), .int .i64 n] w (StrsPost w (wordsL a n)) := by
  obtain ⟨kind, client, ⟨op, key, hi, lim, val⟩, at_, an, keep⟩ := a
  have : kind = 1 ∨ kind = 2 ∨ kind = 3 ∨ kind = 4 ∨ kind = 5 ∨ kind = 6 ∨ kind = 7 := by simp at h1 h7; omega
  rcases this with rfl | rfl | rfl | rfl | rfl | rfl | rfl
  · exact words_1 client op key hi lim val at_ an keep kv n hn (hop rfl).1 (hop rfl).2 hkv O E
  · exact words_2 client op key hi lim val at_ an keep kv n hn hkv O E
  · exact words_3 client op key hi lim val at_ an keep kv n hn hkv O E
  · exact words_4 client op key hi lim val at_ an keep kv n hn hkv O E
  · exact words_5 client op key hi lim val at_ an keep kv n hn hkv O E
  · exact words_6 client op key hi lim val at_ an keep kv n hn hkv O E
  · exact words_7 client op key hi lim val at_ an keep kv n hn hkv O E

end Go.Proofs.YtnnahodajiolmaaGreatDoor.sc
