/-
  PROVED HERE: the contract of script's Tell. Conditions: as it says.
-/
import Derived.Test.YtnnahodajiolmaaGreatDoorScSmall
import Derived.Test.YtnnahodajiolmaaGreatDoorScPlain
import Derived.Deep.RegionHeld3
import Derived.Deep.DeepCutAuto
namespace Go.Proofs.YtnnahodajiolmaaGreatDoor.sc.tl
open Go.RowKit
set_option linter.unusedVariables false

/-- What a pick came to, and what an act came to. -/
structure Ev where
  client : Int
  call : Int
  did : Int
  done : Bool
  code : Int
  val : Bs
  pairs : List (Int × Bs)
structure Hp where
  act : Int
  kind : Int
  state : Int
  ev : Ev
  done : Bool
  code : Int
  n : Int

def sError : Bs := [101, 114, 114, 111, 114]
def sDone : Bs := [100, 111, 110, 101]
def sThrough : Bs := [116, 104, 114, 111, 117, 103, 104]
def sOn : Bs := [111, 110]
def pairW (p : Int × Bs) : Bs := num p.1 ++ 61 :: digits p.2
def tellTail (h : Hp) : List Bs :=
  if h.code ≠ 0 ∧ h.done = false then [sError, num h.code]
  else if h.kind = 2 then
    [num h.ev.client, (if 0 ≤ h.ev.call then num h.ev.call else [45]), num h.ev.did] ++ (if h.ev.done then [sDone, num h.ev.code, digits h.ev.val] ++ h.ev.pairs.map pairW else [])
  else if h.kind = 3 then [num h.n]
  else if h.kind = 7 then (if h.done then [sThrough, num h.code] else [sOn])
  else []
def tellW (h : Hp) : List Bs := [num h.act, nameL kindsL h.kind, nameL statesL h.state] ++ tellTail h

def pairV (l : List (Int × Bs)) : List Value := l.flatMap fun p => [.int .u64 p.1, .string (mk p.2)]
def hpV (h : Hp) (pv : Value) : Value :=
  .agg #[.int .i64 h.act, .int .i64 h.kind, .int .i64 h.state, .int .i64 h.ev.client, .int .i64 h.ev.call, .int .i64 h.ev.did, .bool h.ev.done, .int .i64 h.ev.code, .string (mk h.ev.val), pv, .bool h.done, .int .i64 h.code, .int .i64 h.n]
/-- A pick's event as it lies. -/
def evC (e : Ev) (pv : Value) : Array Value := #[.int .i64 e.client, .int .i64 e.call, .int .i64 e.did, .bool e.done, .int .i64 e.code, .string (mk e.val), pv]
def I64 (n : Int) : Prop := -9223372036854775808 ≤ n ∧ n ≤ 9223372036854775807
/-- Numbers that fit, values that are short. -/
structure HpOk (h : Hp) : Prop where
  act : I64 h.act
  kind : I64 h.kind
  state : I64 h.state
  client : I64 h.ev.client
  call : I64 h.ev.call
  did : I64 h.ev.did
  rcode : I64 h.ev.code
  code : I64 h.code
  n : I64 h.n
  val : h.ev.val.length ≤ 100000
  few : h.ev.pairs.length ≤ 1000
  keys : ∀ p ∈ h.ev.pairs, 0 ≤ p.1 ∧ p.1 < 18446744073709551616
  vals : ∀ p ∈ h.ev.pairs, p.2.length ≤ 100000

def hpC (h : Hp) (pv : Value) : Array Value := #[.int .i64 h.act, .int .i64 h.kind, .int .i64 h.state, .int .i64 h.ev.client, .int .i64 h.ev.call, .int .i64 h.ev.did, .bool h.ev.done, .int .i64 h.ev.code, .string (mk h.ev.val), pv, .bool h.done, .int .i64 h.code, .int .i64 h.n]

theorem evCells {w : World} {b : Nat} {e : Ev} {pv : Value} (hb : Blk w b 62 (evC e pv)) :
    w.cell? ⟨b, 0, none⟩ = some (.int .i64 e.client) ∧ w.cell? ⟨b, 1, none⟩ = some (.int .i64 e.call) ∧ w.cell? ⟨b, 2, none⟩ = some (.int .i64 e.did) ∧ w.cell? ⟨b, 3, none⟩ = some (.bool e.done)
      ∧ w.cell? ⟨b, 4, none⟩ = some (.int .i64 e.code) ∧ w.cell? ⟨b, 5, none⟩ = some (.string (mk e.val)) ∧ w.cell? ⟨b, 6, none⟩ = some pv :=
  ⟨hb.cell 0, hb.cell 1, hb.cell 2, hb.cell 3, hb.cell 4, hb.cell 5, hb.cell 6⟩
theorem hpCells {w : World} {b : Nat} {h : Hp} {pv : Value} (hb : Blk w b 64 (hpC h pv)) :
    w.cell? ⟨b, 0, none⟩ = some (.int .i64 h.act) ∧ w.cell? ⟨b, 1, none⟩ = some (.int .i64 h.kind) ∧ w.cell? ⟨b, 2, none⟩ = some (.int .i64 h.state)
      ∧ w.cell? ⟨b, 3, none⟩ = some (.int .i64 h.ev.client) ∧ w.cell? ⟨b, 4, none⟩ = some (.int .i64 h.ev.call) ∧ w.cell? ⟨b, 5, none⟩ = some (.int .i64 h.ev.did) ∧ w.cell? ⟨b, 6, none⟩ = some (.bool h.ev.done)
      ∧ w.cell? ⟨b, 7, none⟩ = some (.int .i64 h.ev.code) ∧ w.cell? ⟨b, 8, none⟩ = some (.string (mk h.ev.val)) ∧ w.cell? ⟨b, 9, none⟩ = some pv
      ∧ w.cell? ⟨b, 10, none⟩ = some (.bool h.done) ∧ w.cell? ⟨b, 11, none⟩ = some (.int .i64 h.code) ∧ w.cell? ⟨b, 12, none⟩ = some (.int .i64 h.n) :=
  ⟨hb.cell 0, hb.cell 1, hb.cell 2, hb.cell 3, hb.cell 4, hb.cell 5, hb.cell 6, hb.cell 7, hb.cell 8, hb.cell 9, hb.cell 10, hb.cell 11, hb.cell 12⟩

theorem tellW_few (h : Hp) (O : HpOk h) : (tellW h).length ≤ 1000000000 := by
  have := O.few
  unfold tellW tellTail
  repeat' split
  all_goals simp
  all_goals omega
theorem nameL_le {l : List Bs} {M : Nat} (h0 : 0 < l.length) (h : ∀ x ∈ l, x.length ≤ M) (i : Int) : (nameL l i).length ≤ M := by
  have k : ∀ j, (l.getD j []).length ≤ M := fun j => by
    rw [List.getD]
    cases hj : l[j]? with
    | none => simp
    | some x => exact h x (List.mem_of_getElem? hj)
  unfold nameL; split <;> exact k _
theorem I64.nle {n : Int} (h : I64 n) : (num n).length ≤ 200100 := Nat.le_trans (num_le n h.1 (by have := h.2; omega)) (by decide)
theorem tellW_mem (h : Hp) (O : HpOk h) : ∀ x ∈ tellW h, x.length ≤ 200100 := by
  have hd : ∀ l : Bs, l.length ≤ 100000 → (digits l).length ≤ 200001 := fun l hl => Nat.le_trans (digits_le l) (by omega)
  intro x hx
  simp only [tellW, List.mem_append, List.mem_cons, List.mem_nil_iff, or_false] at hx
  rcases hx with (rfl | rfl | rfl) | hx
  · exact O.act.nle
  · exact Nat.le_trans (nameL_le (M := 20) (by decide) (by decide) _) (by decide)
  · exact Nat.le_trans (nameL_le (M := 20) (by decide) (by decide) _) (by decide)
  · unfold tellTail at hx
    split at hx
    · simp only [List.mem_cons, List.mem_nil_iff, or_false] at hx
      rcases hx with rfl | rfl
      · decide
      · exact O.code.nle
    split at hx
    · simp only [List.mem_append, List.mem_cons, List.mem_nil_iff, or_false] at hx
      rcases hx with (rfl | rfl | rfl) | hx
      · exact O.client.nle
      · split
        · exact O.call.nle
        · decide
      · exact O.did.nle
      · split at hx
        · simp only [List.mem_append, List.mem_cons, List.mem_nil_iff, or_false, List.mem_map] at hx
          rcases hx with (rfl | rfl | rfl) | ⟨p, hp, rfl⟩
          · decide
          · exact O.rcode.nle
          · exact Nat.le_trans (hd _ O.val) (by decide)
          · have h1 := O.keys p hp
            have h2 := num_le p.1 (by omega) h1.2
            have h3 := hd _ (O.vals p hp)
            simp only [pairW, List.length_append, List.length_cons]; omega
        · simp at hx
    split at hx
    · simp only [List.mem_cons, List.mem_nil_iff, or_false] at hx
      subst hx; exact O.n.nle
    split at hx
    · split at hx
      · simp only [List.mem_cons, List.mem_nil_iff, or_false] at hx
        rcases hx with rfl | rfl
        · decide
        · exact O.code.nle
      · simp only [List.mem_cons, List.mem_nil_iff, or_false] at hx
        subst hx; decide
    · simp at hx
theorem tellW_len (h : Hp) (O : HpOk h) : (joinB (tellW h)).length ≤ 140737488355328 := by
  have h1 := joinB_le (tellW h) 200100 (tellW_mem h O)
  have h2 : (tellW h).length ≤ 1010 := by
    have := O.few
    unfold tellW tellTail
    repeat' split
    all_goals simp
    all_goals omega
  have : (tellW h).length * (200100 + 1) ≤ 1010 * (200100 + 1) := Nat.mul_le_mul_right _ h2
  omega

theorem pairV_get {l : List (Int × Bs)} {k : Nat} {p : Int × Bs} (h : l[k]? = some p) : (pairV l)[k * 2]? = some (.int .u64 p.1) ∧ (pairV l)[k * 2 + 1]? = some (.string (mk p.2)) := by
  induction l generalizing k with
  | nil => simp at h
  | cons a r ih =>
    cases k with
    | zero => simp at h; subst h; exact ⟨rfl, rfl⟩
    | succ k =>
      have := ih (k := k) (by simpa using h)
      rw [show (k + 1) * 2 = k * 2 + 2 by omega, show k * 2 + 2 + 1 = k * 2 + 1 + 2 by omega]
      simpa [pairV] using this
theorem numU64_int {w : World} (n : Int) (h0 : 0 ≤ n) (h1 : n < 18446744073709551616) (E : Env w) :
    Calls Tryz.prog 37 #[.int .u64 n] w fun e w' => e = .returned (.string (mk (num n))) ∧ Below w.heap.size w w' := by
  obtain ⟨u, rfl⟩ : ∃ u : Nat, n = u := ⟨n.toNat, by omega⟩
  exact numU64_any u (by omega) E
theorem lit_pair (w : World) (p : Int × Bs) : StrsAt (w.alloc (.cells #[.string (mk (num p.1) ++ ⟨#[61]⟩ ++ mk (digits p.2))] 9)) (.slice (some ⟨w.heap.size, 0, none⟩) 1 1) [pairW p] := by
  have e : mk (num p.1) ++ ⟨#[61]⟩ ++ mk (digits p.2) = mk (pairW p) := by
    show mk (num p.1) ++ mk [61] ++ mk (digits p.2) = _
    rw [mk_append, mk_append, pairW, List.append_assoc]; rfl
  rw [e]; exact lit_strs w [pairW p] (by simp)
theorem pickStep {w6 w7 W : World} {o : Obj} {g : Nat} {cs : Array Value} {v v7 : Value} {t : TypeId} (hb : Blk w6 g t cs) (G : Grew W.heap.size v (w6.alloc o) v7 w7) (hne : v.ownBlock ≠ some g) (hW : Below W.heap.size W w6) :
    Blk w7 g t cs ∧ Below W.heap.size W w7 :=
  ⟨(hb.alloc o).grew G hne, (hW.alloc hW.size o).trans G.below⟩

set_option maxHeartbeats 3200000 in
set_option maxRecDepth 100000 in
theorem tell_any {w : World} (h : Hp) (pv : Value) (hp : RowR w pv h.ev.pairs.length 2 (pairV h.ev.pairs)) (O : HpOk h) (E : Env w) :
    Calls Tryz.prog 15 #[.agg (hpC h pv)] w fun e w' => e = .returned (.string (mk (joinB (tellW h)))) ∧ Below w.heap.size w w' := by
  obtain ⟨PA, PC, rfl⟩ := hp.len
  have HP := Lib.hid hp; clear hp
  have hN := Blk.new w 64 (hpC h (.slice PA h.ev.pairs.length PC))
  have hs : (w.alloc (.cells (hpC h (.slice PA h.ev.pairs.length PC)) 64)).heap.size = w.heap.size + 1 := by simp
  have hA := (Below.refl w.heap.size w).alloc (Nat.le_refl _) (.cells (hpC h (.slice PA h.ev.pairs.length PC)) 64)
  obtain ⟨W0, hW0⟩ : ∃ W0, W0 = w.alloc (.cells (hpC h (.slice PA h.ev.pairs.length PC)) 64) := ⟨_, rfl⟩
  rw [← hW0] at hA hN hs
  have HS0 := Lib.hid hs; clear hs
  go_enter Tryz.func15, Tryz.ntmps15
  go_wp2_with fail
  rw [← hW0]
  clear hW0
  refine (kinds_any _).mono ?_; rintro e w1 ⟨rfl, hb1⟩
  go_wp2_with fail
  refine (states_any _).mono ?_; rintro e w2 ⟨rfl, hb2⟩
  go_wp2_with fail
  obtain ⟨W, hW⟩ : ∃ W, W = (w2.alloc (.cells #[.string (mk sNone), .string (mk sInvoke), .string (mk sPick), .string (mk sEvict), .string (mk sCrash), .string (mk sOpen), .string (mk sScavenge), .string (mk sBoot)] 92)).alloc (.cells #[.string (mk sNone), .string (mk sClosed), .string (mk sOpening), .string (mk sOpened), .string (mk sScavenging), .string (mk sReady), .string (mk sReadonly)] 94) := ⟨_, rfl⟩
  rw [← hW]
  have hbA : Below W0.heap.size W0 W := by
    rw [hW]
    exact ((hb1.trans (hb2.mono hb1.size)).alloc (Nat.le_trans hb1.size hb2.size) _).alloc (by simp; have := hb1.size; have := hb2.size; omega) _
  have hK : Blk W w2.heap.size 92 #[.string (mk sNone), .string (mk sInvoke), .string (mk sPick), .string (mk sEvict), .string (mk sCrash), .string (mk sOpen), .string (mk sScavenge), .string (mk sBoot)] := by
    rw [hW]; exact (Blk.new w2 _ _).alloc _
  have hT : Blk W (w2.heap.size + 1) 94 #[.string (mk sNone), .string (mk sClosed), .string (mk sOpening), .string (mk sOpened), .string (mk sScavenging), .string (mk sReady), .string (mk sReadonly)] := by
    have := Blk.new (w2.alloc (.cells #[.string (mk sNone), .string (mk sInvoke), .string (mk sPick), .string (mk sEvict), .string (mk sCrash), .string (mk sOpen), .string (mk sScavenge), .string (mk sBoot)] 92)) 94 #[.string (mk sNone), .string (mk sClosed), .string (mk sOpening), .string (mk sOpened), .string (mk sScavenging), .string (mk sReady), .string (mk sReadonly)]
    rw [hW]; simpa using this
  have hB : Blk W w.heap.size 64 (hpC h (.slice PA h.ev.pairs.length PC)) := hN.below hbA (by have := HS0.out; omega)
  have EW : Env W := (E.next hA).next hbA
  have hwW : Below w.heap.size w W := hA.trans (hbA.mono (by have := HS0.out; omega))
  have HF := Lib.hid (And.intro hK (And.intro hT (And.intro hB (And.intro EW hwW))))
  clear hW hbA hK hT hB EW hwW hb1 hb2 hA hN
  have hS : ∀ wx, Below W.heap.size W wx → (wx.cell? ⟨w.heap.size, 0, none⟩ = some (.int .i64 h.act) ∧ wx.cell? ⟨w.heap.size, 1, none⟩ = some (.int .i64 h.kind) ∧ wx.cell? ⟨w.heap.size, 2, none⟩ = some (.int .i64 h.state) ∧ Below W.heap.size W wx) := fun wx hk => by
    obtain ⟨a0, a1, a2, _⟩ := hpCells (HF.out.2.2.1.below hk HF.out.2.2.1.lt)
    exact ⟨a0, a1, a2, hk⟩
  have HS := Lib.hid hS; clear hS
  have hk0 : Below W.heap.size W W.drew := (Below.refl _ _).drew
  obtain ⟨o0, o1⟩ := O.act
  go_region_held3 (fun wx => wx.cell? ⟨w.heap.size, 0, none⟩ = some (.int .i64 h.act) ∧ wx.cell? ⟨w.heap.size, 1, none⟩ = some (.int .i64 h.kind) ∧ wx.cell? ⟨w.heap.size, 2, none⟩ = some (.int .i64 h.state) ∧ Below W.heap.size W wx)
    (first | exact HS.out _ (by assumption) | exact HS.out _ (Below.alloc (by assumption) (Below.size (by assumption)) _))
    (first
      | (go_at_call 32; refine (numInt_any h.act o0 o1 (HF.out.2.2.2.1.next (by assumption))).mono ?_; rintro e w3 ⟨rfl, hb3⟩; have K3 : Below W.heap.size W w3 := Below.trans (by assumption) (hb3.mono (Below.size (by assumption))))
      | (go_at_call 33; refine (nameKind_any (l := kindsL) h.kind (kinds_row (HF.out.1.below (by assumption) HF.out.1.lt)) (by decide) (by decide)).mono ?_; rintro e w4 ⟨rfl, hb4⟩; have K4 : Below W.heap.size W w4 := Below.trans (by assumption) (hb4.mono (Below.size (by assumption))))
      | (go_at_call 34; refine (nameState_any (l := statesL) h.state (states_row (HF.out.2.1.below (by assumption) HF.out.2.1.lt)) (by decide) (by decide)).mono ?_; rintro e w5 ⟨rfl, hb5⟩; have K5 : Below W.heap.size W w5 := Below.trans (by assumption) (hb5.mono (Below.size (by assumption)))))
  clear hk0 hb3 hb4 hb5 K3 K4
  obtain ⟨X, hX⟩ : ∃ X, X = w5.alloc (.cells #[.string (mk (num h.act)), .string (mk (nameL kindsL h.kind)), .string (mk (nameL statesL h.state))] 9) := ⟨_, rfl⟩
  have hown : X.ownsRow W.heap.size 9 1 (.slice (some ⟨w5.heap.size, 0, none⟩) 3 3) 3 (strs [num h.act, nameL kindsL h.kind, nameL statesL h.state]) := by
    rw [hX]; exact own_lit w5 [num h.act, nameL kindsL h.kind, nameL statesL h.state] K5.size (by simp)
  have hWX : Below W.heap.size W X := by rw [hX]; exact K5.alloc K5.size _
  have hXs : X.heap.size = w5.heap.size + 1 := by rw [hX]; simp
  have HXS := Lib.hid hXs; clear hXs
  rw [← hX]
  clear hX K5
  rename_i hHeld; clear hHeld
  have hC : ∀ wx, Below W.heap.size W wx → _ := fun wx hk => hpCells (HF.out.2.2.1.below hk HF.out.2.2.1.lt)
  have HC := Lib.hid hC; clear hC
  obtain ⟨a0, a1, a2, a3, a4, a5, a6, a7, a8, a9, a10, a11, a12⟩ := HC.out _ hWX
  have JN := Lib.hid (tellW_few h O)
  have JL := Lib.hid (tellW_len h O)
  have hcase : (h.code ≠ 0 ∧ h.done = false) ∨ ((h.code != 0) = false ∧ h.done = true) ∨ ((h.code != 0) = false ∧ h.done = false) ∨ ((h.code != 0) = true ∧ h.done = true) := by
    by_cases c0 : h.code = 0
    · have c1 : (h.code != 0) = false := by simpa using c0
      cases hd : h.done
      · exact .inr (.inr (.inl ⟨c1, rfl⟩))
      · exact .inr (.inl ⟨c1, rfl⟩)
    · have c1 : (h.code != 0) = true := by simpa using c0
      cases hd : h.done
      · exact .inl ⟨c0, rfl⟩
      · exact .inr (.inr (.inr ⟨c1, rfl⟩))
  have HX := Lib.hid hWX; clear hWX
  have HO := Lib.hid hown; clear hown
  rcases hcase with ⟨c0, hd⟩ | hrest
  · have c1 : (h.code != 0) = true := by simpa using c0
    have T := Lib.hid (show tellW h = [num h.act, nameL kindsL h.kind, nameL statesL h.state] ++ [sError, num h.code] by rw [tellW, show tellTail h = [sError, num h.code] from if_pos ⟨c0, hd⟩])
    obtain ⟨o2, o3⟩ := O.code
    clear c0
    go_wp2_with fail
    refine (numErrno_any h.code o2 o3 ((HF.out.2.2.2.1).next HX.out)).mono ?_; rintro e w6 ⟨rfl, hb6⟩
    go_wp2_with (at_builtin; refine wpList_app_strs rfl _ _ rfl W.heap.size _ 3 _ rfl (own_next (own_next HO.out hb6) (Below.alloc (Below.refl _ _) (Nat.le_refl _) _)) _ [sError, num h.code] rfl (lit_strs w6 [sError, num h.code] (by simp)) (by simp) ?hbase ?_)
    case hbase => have := HX.out.size; have := hb6.size; simp; omega
    intro v' w7 o7 G7
    have hx7 := Lib.hid (((HX.out.trans (hb6.mono HX.out.size)).alloc (Nat.le_trans HX.out.size hb6.size) _).trans G7.below)
    have J := Lib.hid (join_any (l := tellW h) (by rw [T.out]; exact StrsAt.of_own o7) JN.out JL.out)
    clear o7 G7 hb6
    go_wp2_with (go_at_call 38; refine J.out.mono ?_; rintro e w8 ⟨rfl, hb8⟩)
    go_ret
    exact ⟨rfl, HF.out.2.2.2.2.trans ((hx7.out.trans (hb8.mono hx7.out.size)).mono HF.out.2.2.2.2.size)⟩
  · have T0 := Lib.hid (show ¬ (h.code ≠ 0 ∧ h.done = false) by
      rintro ⟨c0, hd⟩
      rcases hrest with ⟨a, b⟩ | ⟨a, b⟩ | ⟨a, b⟩ <;> simp_all)
    go_upto_region 3 with fail
    have HR := Lib.hid hrest; clear hrest
    go_cut [24] (fun s24 wx => s24 = .bool false ∧ X = wx)
    case first =>
      rcases HR.out with ⟨c1, hd⟩ | ⟨c1, hd⟩ | ⟨c1, hd⟩
      all_goals
        go_wp2_with fail
        go_meet
        exact ⟨rfl, rfl⟩
    case rest =>
      obtain ⟨rfl, hwc⟩ := hcut
      obtain rfl := hwc
      by_cases k2 : h.kind = 2
      · have k2b : (h.kind == 2) = true := by simpa using k2
        have T := Lib.hid (show tellW h = [num h.act, nameL kindsL h.kind, nameL statesL h.state] ++ ([num h.ev.client, (if 0 ≤ h.ev.call then num h.ev.call else [45]), num h.ev.did] ++ (if h.ev.done then [sDone, num h.ev.code, digits h.ev.val] ++ h.ev.pairs.map pairW else [])) by
          rw [tellW, tellTail, if_neg T0.out, if_pos k2])
        clear k2
        obtain ⟨p0, p1⟩ := O.call
        obtain ⟨q0, q1⟩ := O.client
        obtain ⟨r0, r1⟩ := O.did
        have hev : Blk (X.alloc (.cells (evC h.ev (.slice PA h.ev.pairs.length PC)) 62)) X.heap.size 62 (evC h.ev (.slice PA h.ev.pairs.length PC)) := Blk.new X _ _
        obtain ⟨Y, hY⟩ : ∃ Y, Y = X.alloc (.cells (evC h.ev (.slice PA h.ev.pairs.length PC)) 62) := ⟨_, rfl⟩
        have hXY : Below X.heap.size X Y := by rw [hY]; exact (Below.refl _ _).alloc (Nat.le_refl _) _
        rw [← hY] at hev
        simp only [evC] at hY
        go_upto_if 47 with fail
        rw [← hY]
        clear hY
        have EY := (((HF.out.2.2.2.1).next HX.out).next hXY)
        have HEV := Lib.hid (And.intro hev (And.intro hXY EY)); clear hev hXY EY
        go_cut [7] (fun s7 wx => s7 = .string (mk (if 0 ≤ h.ev.call then num h.ev.call else [45])) ∧ Below Y.heap.size Y wx)
        case first =>
          obtain ⟨b0, b1, b2, b3, b4, b5, b6⟩ := evCells HEV.out.1
          by_cases kc : 0 ≤ h.ev.call
          · have HN := Lib.hid (show (if 0 ≤ h.ev.call then num h.ev.call else [45]) = num h.ev.call from if_pos kc)
            go_wp2_with fail
            refine (numInt_any h.ev.call p0 p1 HEV.out.2.2).mono ?_; rintro e w6 ⟨rfl, hb6⟩
            go_wp2_with fail
            go_meet
            exact ⟨by rw [HN.out], hb6⟩
          · have HN := Lib.hid (show (if 0 ≤ h.ev.call then num h.ev.call else [45]) = [45] from if_neg kc)
            go_wp2_with fail
            go_meet
            exact ⟨by rw [HN.out], Below.refl _ _⟩
        case rest =>
          obtain ⟨rfl, hYc⟩ := hcut
          have ec := evCells (HEV.out.1.below hYc HEV.out.1.lt)
          obtain ⟨which, hwh⟩ : ∃ x, x = (if 0 ≤ h.ev.call then num h.ev.call else [45]) := ⟨_, rfl⟩
          rw [← hwh]
          have HWH := Lib.hid hwh; clear hwh
          have HYC := Lib.hid (And.intro (HEV.out.2.1.trans (hYc.mono HEV.out.2.1.size)) (And.intro (HEV.out.2.2.next hYc) (HEV.out.1.below hYc HEV.out.1.lt)))
          have hne : (Value.slice (some ⟨w5.heap.size, 0, none⟩) 3 3).ownBlock ≠ some X.heap.size := by
            intro e; have := HXS.out; simp [Value.ownBlock] at e; omega
          have HNE := Lib.hid hne; clear hne
          clear hYc
          obtain ⟨b0, b1, b2, b3, b4, b5, b6⟩ := ec
          have hS2 : ∀ wx, Blk wx X.heap.size 62 (evC h.ev (.slice PA h.ev.pairs.length PC)) ∧ Below W.heap.size W wx → (wx.cell? ⟨X.heap.size, 0, none⟩ = some (.int .i64 h.ev.client) ∧ wx.cell? ⟨X.heap.size, 2, none⟩ = some (.int .i64 h.ev.did) ∧ Blk wx X.heap.size 62 (evC h.ev (.slice PA h.ev.pairs.length PC)) ∧ Below W.heap.size W wx) := fun wx hk => by
            obtain ⟨d0, _, d2, _⟩ := evCells hk.1
            exact ⟨d0, d2, hk⟩
          have HS2 := Lib.hid hS2; clear hS2
          have hS3 : ∀ wx, Below wc.heap.size wc wx → Blk wx X.heap.size 62 (evC h.ev (.slice PA h.ev.pairs.length PC)) ∧ Below W.heap.size W wx := fun wx hk =>
            ⟨HYC.out.2.2.below hk HYC.out.2.2.lt, HX.out.trans ((HYC.out.1.trans (hk.mono HYC.out.1.size)).mono HX.out.size)⟩
          have HS3 := Lib.hid hS3; clear hS3
          have hk0 : Below wc.heap.size wc wc.drew := (Below.refl _ _).drew
          clear b0 b1 b2 b3 b4 b5 b6
          go_wp2_with fail
          go_region_held3 (fun wx => wx.cell? ⟨X.heap.size, 0, none⟩ = some (.int .i64 h.ev.client) ∧ wx.cell? ⟨X.heap.size, 2, none⟩ = some (.int .i64 h.ev.did) ∧ Blk wx X.heap.size 62 (evC h.ev (.slice PA h.ev.pairs.length PC)) ∧ Below W.heap.size W wx)
            (first | exact HS2.out _ (by assumption) | exact HS2.out _ (HS3.out _ (by assumption)) | exact HS2.out _ (HS3.out _ (Below.alloc (by assumption) (Below.size (by assumption)) _)))
            (first
              | (go_at_call 32; refine (numInt_any _ (by first | exact q0 | exact r0) (by first | exact q1 | exact r1) (HYC.out.2.1.next (by assumption))).mono ?_; rintro e w6 ⟨rfl, hb6⟩; have K6 : Below wc.heap.size wc w6 := Below.trans (by assumption) (hb6.mono (Below.size (by assumption))))
              | ((with_reducible refine step_app_strs rfl _ _ rfl W.heap.size (.slice (some ⟨w5.heap.size, 0, none⟩) 3 3) 3 [num h.act, nameL kindsL h.kind, nameL statesL h.state] ?hs ?own (.slice (some ⟨w6.heap.size, 0, none⟩) 3 3) [num h.ev.client, which, num h.ev.did] ?hx ?hr ?few ?base ?fin)
                 case hs => rfl
                 case own => exact own_next HO.out ((HYC.out.1.trans (K6.mono HYC.out.1.size)).alloc (Nat.le_trans HYC.out.1.size K6.size) _)
                 case hx => rfl
                 case hr => exact lit_strs w6 [num h.ev.client, which, num h.ev.did] (by simp)
                 case few => simp
                 case base => exact Nat.le_trans (Nat.le_trans HX.out.size HYC.out.1.size) (Nat.le_trans K6.size (by simp))
                 intro v7 w7 o7 G7; have K7 : Blk w7 X.heap.size 62 (evC h.ev (.slice PA h.ev.pairs.length PC)) ∧ Below W.heap.size W w7 := pickStep (HYC.out.2.2.below K6 HYC.out.2.2.lt) G7 HNE.out (HX.out.trans ((HYC.out.1.trans (K6.mono HYC.out.1.size)).mono HX.out.size))))
          rename_i hHeld; clear hHeld
          have HG := Lib.hid (And.intro K7 (G7.own _ (by have := HYC.out.2.2.lt; have := K6.size; simp; omega) HNE.out)); clear K7 G7
          clear hk0 K6 hb6
          have O7 := Lib.hid o7; clear o7
          have E7 := Lib.hid ((HF.out.2.2.2.1).next HG.out.1.2)
          cases hdn : h.ev.done
          · have J := Lib.hid (join_any (l := tellW h) (by rw [T.out, hdn, ← HWH.out]; exact StrsAt.of_own O7.out) JN.out JL.out)
            obtain ⟨b0, b1, b2, b3, b4, b5, b6⟩ := evCells HG.out.1.1
            obtain ⟨c0, c1, c2, c3, c4, c5, c6, c7, c8, c9, c10, c11, c12⟩ := HC.out _ HG.out.1.2
            go_wp2_with (go_at_call 38; refine J.out.mono ?_; rintro e w8 ⟨rfl, hb8⟩)
            go_ret
            exact ⟨rfl, HF.out.2.2.2.2.trans ((HG.out.1.2.trans (hb8.mono HG.out.1.2.size)).mono HF.out.2.2.2.2.size)⟩
          · have T2 := Lib.hid (show tellW h = ([num h.act, nameL kindsL h.kind, nameL statesL h.state] ++ [num h.ev.client, which, num h.ev.did] ++ [sDone, num h.ev.code, digits h.ev.val]) ++ h.ev.pairs.map pairW by
              rw [T.out, hdn, ← HWH.out]; rfl)
            have hS4 : ∀ wx, Blk wx X.heap.size 62 (evC h.ev (.slice PA h.ev.pairs.length PC)) ∧ Below W.heap.size W wx → (wx.cell? ⟨X.heap.size, 4, none⟩ = some (.int .i64 h.ev.code) ∧ wx.cell? ⟨X.heap.size, 5, none⟩ = some (.string (mk h.ev.val)) ∧ Blk wx X.heap.size 62 (evC h.ev (.slice PA h.ev.pairs.length PC)) ∧ Below W.heap.size W wx) := fun wx hk => by
              obtain ⟨_, _, _, _, d4, d5, _⟩ := evCells hk.1
              exact ⟨d4, d5, hk⟩
            have HS4 := Lib.hid hS4; clear hS4
            have hS5 : ∀ wx, Below w7.heap.size w7 wx → Blk wx X.heap.size 62 (evC h.ev (.slice PA h.ev.pairs.length PC)) ∧ Below W.heap.size W wx := fun wx hk =>
              ⟨HG.out.1.1.below hk HG.out.1.1.lt, HG.out.1.2.trans (hk.mono HG.out.1.2.size)⟩
            have HS5 := Lib.hid hS5; clear hS5
            have hk0 : Below w7.heap.size w7 w7.drew := (Below.refl _ _).drew
            obtain ⟨b0, b1, b2, b3, b4, b5, b6⟩ := evCells HG.out.1.1
            obtain ⟨x0, x1⟩ := O.rcode
            have OV := Lib.hid O.val
            go_upto_region 12 with fail
            clear b0 b1 b2 b3 b4 b5 b6
            go_region_held3 (fun wx => wx.cell? ⟨X.heap.size, 4, none⟩ = some (.int .i64 h.ev.code) ∧ wx.cell? ⟨X.heap.size, 5, none⟩ = some (.string (mk h.ev.val)) ∧ Blk wx X.heap.size 62 (evC h.ev (.slice PA h.ev.pairs.length PC)) ∧ Below W.heap.size W wx)
              (first | exact HS4.out _ (by assumption) | exact HS4.out _ (HS5.out _ (by assumption)) | exact HS4.out _ (HS5.out _ (Below.alloc (by assumption) (Below.size (by assumption)) _)))
              (first
                | (go_at_call 35; refine (numErrno_any h.ev.code x0 x1 (E7.out.next (by assumption))).mono ?_; rintro e w8 ⟨rfl, hb8⟩; have K8 : Below w7.heap.size w7 w8 := Below.trans (by assumption) (hb8.mono (Below.size (by assumption))))
                | (go_at_call 36; refine (digits_any h.ev.val (Nat.le_trans OV.out (by decide)) (E7.out.next (by assumption))).mono ?_; rintro e w8 ⟨rfl, hb8⟩; have K8 : Below w7.heap.size w7 w8 := Below.trans (by assumption) (hb8.mono (Below.size (by assumption))))
                | ((with_reducible refine step_app_strs rfl _ _ rfl W.heap.size v7 6 ([num h.act, nameL kindsL h.kind, nameL statesL h.state] ++ [num h.ev.client, which, num h.ev.did]) ?hs2 ?own2 (.slice (some ⟨w8.heap.size, 0, none⟩) 3 3) [sDone, num h.ev.code, digits h.ev.val] ?hx2 ?hr2 ?few2 ?base2 ?fin2)
                   case hs2 => rfl
                   case own2 => exact own_next O7.out (K8.alloc K8.size _)
                   case hx2 => rfl
                   case hr2 => exact lit_strs w8 [sDone, num h.ev.code, digits h.ev.val] (by simp)
                   case few2 => simp
                   case base2 => exact Nat.le_trans HG.out.1.2.size (Nat.le_trans K8.size (by simp))
                   intro v9 w9 o9 G9; have K9 : Blk w9 X.heap.size 62 (evC h.ev (.slice PA h.ev.pairs.length PC)) ∧ Below W.heap.size W w9 := pickStep (HS5.out _ K8).1 G9 HG.out.2 (HS5.out _ K8).2))
            rename_i hHeld; clear hHeld
            have HK := Lib.hid K9; clear K9 G9 hk0 K8 hb8
            have O9 := Lib.hid o9; clear o9
            obtain ⟨b0, b1, b2, b3, b4, b5, b6⟩ := evCells HK.out.1
            have hpl := O.few
            go_wp2_with fail
            clear b0 b1 b2 b3 b4 b5 b6
            have HPL := Lib.hid hpl
            go_loopw [5, 78] (fun s5 s78 wr => ∃ k : Nat, k ≤ h.ev.pairs.length ∧ s78 = .int .i64 k ∧ wr.ownsRow W.heap.size 9 1 s5 (9 + k) (strs (([num h.act, nameL kindsL h.kind, nameL statesL h.state] ++ [num h.ev.client, which, num h.ev.did] ++ [sDone, num h.ev.code, digits h.ev.val]) ++ (h.ev.pairs.take k).map pairW)) ∧ Below W.heap.size W wr) (fun _ s78 _ => h.ev.pairs.length - (RowKit.intOf s78).toNat)
            case atStart => exact ⟨0, Nat.zero_le _, rfl, by rw [List.take_zero, List.map_nil, List.append_nil]; exact O9.out, HK.out.2⟩
            case round =>
              obtain ⟨k, hk, rfl, hown, hbel⟩ := hrel
              by_cases hlt : k < h.ev.pairs.length
              · obtain ⟨pk, hpk⟩ : ∃ pk, h.ev.pairs[k]? = some pk := ⟨_, List.getElem?_eq_getElem hlt⟩
                have hrow := HP.out.below (HF.out.2.2.2.2.trans (hbel.mono HF.out.2.2.2.2.size)) (Nat.le_refl _)
                obtain ⟨A', c', e', _, _, hrow⟩ := hrow
                obtain ⟨rb, ro, rfl, hrb, hrc⟩ := hrow (by omega)
                obtain ⟨rfl, rfl⟩ : PA = some ⟨rb, ro, none⟩ ∧ PC = c' := by injection e' with a b c; exact ⟨a, c⟩
                clear e'
                obtain ⟨v1, v2⟩ := pairV_get hpk
                have c1 := hrc _ _ v1
                have c2 := hrc _ _ v2
                rw [show ro + (k * 2 + 1) = ro + k * 2 + 1 by omega] at c2
                have hkey := O.keys pk (List.mem_of_getElem? hpk)
                have hval := O.vals pk (List.mem_of_getElem? hpk)
                obtain ⟨y0, y1⟩ := hkey
                have HQ := Lib.hid (And.intro hpk (And.intro hval (And.intro hown hbel)))
                have HKY := Lib.hid (And.intro y0 y1)
                have l1 := num_le pk.1 (by omega) y1
                have l2 := Nat.le_trans (digits_le pk.2) (show 2 * pk.2.length + 1 ≤ 200001 by omega)
                have hc1 : ¬ 9223372036854775807 < (num pk.1).length + 1 := by omega
                have hc2 : ¬ 9223372036854775807 < (num pk.1).length + 1 + (digits pk.2).length := by omega
                have hPB : Blk (wr.alloc (.cells #[.int .u64 pk.1, .string (mk pk.2)] 102)) wr.heap.size 102 #[.int .u64 pk.1, .string (mk pk.2)] := Blk.new wr _ _
                have hu5 : u5.ownBlock ≠ some wr.heap.size := fun e => by have := (hown.lt _ e).2; omega
                clear hpk hval hown hbel v1 v2 hrc hrb hrow y0 y1
                go_upto_region 16 with fail
                clear c1 c2
                obtain ⟨R, hR⟩ : ∃ R, R = wr.alloc (.cells #[.int .u64 pk.1, .string (mk pk.2)] 102) := ⟨_, rfl⟩
                have hrR : Below wr.heap.size wr R := by rw [hR]; exact (Below.refl _ _).alloc (Nat.le_refl _) _
                rw [← hR] at hPB
                rw [← hR]
                clear hR
                have HRR := Lib.hid (And.intro hPB (And.intro hrR (HQ.out.2.2.2.trans (hrR.mono HQ.out.2.2.2.size)))); clear hPB hrR
                have HU5 := Lib.hid hu5; clear hu5
                have ER := Lib.hid ((HF.out.2.2.2.1).next HRR.out.2.2)
                have hS6 : ∀ wx, Blk wx wr.heap.size 102 #[.int .u64 pk.1, .string (mk pk.2)] ∧ Below W.heap.size W wx → (wx.cell? ⟨wr.heap.size, 0, none⟩ = some (.int .u64 pk.1) ∧ wx.cell? ⟨wr.heap.size, 1, none⟩ = some (.string (mk pk.2)) ∧ Blk wx wr.heap.size 102 #[.int .u64 pk.1, .string (mk pk.2)] ∧ Below W.heap.size W wx) := fun wx hk =>
                  ⟨hk.1.cell 0, hk.1.cell 1, hk⟩
                have HS6 := Lib.hid hS6; clear hS6
                have hS7 : ∀ wx, Below R.heap.size R wx → Blk wx wr.heap.size 102 #[.int .u64 pk.1, .string (mk pk.2)] ∧ Below W.heap.size W wx := fun wx hk =>
                  ⟨HRR.out.1.below hk HRR.out.1.lt, HRR.out.2.2.trans (hk.mono HRR.out.2.2.size)⟩
                have HS7 := Lib.hid hS7; clear hS7
                have hk0 : Below R.heap.size R R.drew := (Below.refl _ _).drew
                go_region_held3 (fun wx => wx.cell? ⟨wr.heap.size, 0, none⟩ = some (.int .u64 pk.1) ∧ wx.cell? ⟨wr.heap.size, 1, none⟩ = some (.string (mk pk.2)) ∧ Blk wx wr.heap.size 102 #[.int .u64 pk.1, .string (mk pk.2)] ∧ Below W.heap.size W wx)
                  (first | exact HS6.out _ (by assumption) | exact HS6.out _ (HS7.out _ (by assumption)) | exact HS6.out _ (HS7.out _ (Below.alloc (by assumption) (Below.size (by assumption)) _)))
                  (first
                    | (go_at_call 37; refine (numU64_int pk.1 HKY.out.1 HKY.out.2 (ER.out.next (by assumption))).mono ?_; rintro e w8 ⟨rfl, hb8⟩; have K8 : Below R.heap.size R w8 := Below.trans (by assumption) (hb8.mono (Below.size (by assumption))))
                    | (go_at_call 36; refine (digits_any pk.2 (Nat.le_trans HQ.out.2.1 (by decide)) (ER.out.next (by assumption))).mono ?_; rintro e w8 ⟨rfl, hb8⟩; have K8 : Below R.heap.size R w8 := Below.trans (by assumption) (hb8.mono (Below.size (by assumption))))
                    | ((with_reducible refine step_app_strs rfl _ _ rfl W.heap.size u5 (9 + k) (([num h.act, nameL kindsL h.kind, nameL statesL h.state] ++ [num h.ev.client, which, num h.ev.did] ++ [sDone, num h.ev.code, digits h.ev.val]) ++ (h.ev.pairs.take k).map pairW) ?hs3 ?own3 (.slice (some ⟨w8.heap.size, 0, none⟩) 1 1) [pairW pk] ?hx3 ?hr3 ?few3 ?base3 ?fin3)
                       case hs3 => rfl
                       case own3 => exact own_next (own_next HQ.out.2.2.1 HRR.out.2.1) (K8.alloc K8.size _)
                       case hx3 => rfl
                       case hr3 => exact lit_pair w8 pk
                       case few3 => (have := HPL.out; simp; omega)
                       case base3 => exact Nat.le_trans HRR.out.2.2.size (Nat.le_trans K8.size (by simp))
                       intro v9' w9' o9' G9; have K9 : Blk w9' wr.heap.size 102 #[.int .u64 pk.1, .string (mk pk.2)] ∧ Below W.heap.size W w9' := pickStep (HS7.out _ K8).1 G9 HU5.out (HS7.out _ K8).2))
                rename_i hHeld; clear hHeld
                go_wp2_with fail
                go_roundw
                case rel =>
                  refine ⟨k + 1, by omega, by go_num, ?_, K9.2⟩
                  have e : h.ev.pairs.take (k + 1) = h.ev.pairs.take k ++ [pk] := by rw [List.take_add_one, HQ.out.1]; rfl
                  rw [e, List.map_append, ← List.append_assoc]
                  exact o9'
                case measure => simp [RowKit.intOf]; omega
              · obtain rfl : k = h.ev.pairs.length := by omega
                rw [List.take_length] at hown
                have J := Lib.hid (join_any (l := tellW h) (by rw [T2.out]; exact StrsAt.of_own hown) JN.out JL.out)
                obtain ⟨c0, c1, c2, c3, c4, c5, c6, c7, c8, c9, c10, c11, c12⟩ := HC.out _ hbel
                have HB := Lib.hid hbel; clear hbel hown
                go_wp2_with (go_at_call 38; refine J.out.mono ?_; rintro e w8 ⟨rfl, hb8⟩)
                go_ret
                exact ⟨rfl, HF.out.2.2.2.2.trans ((HB.out.trans (hb8.mono HB.out.size)).mono HF.out.2.2.2.2.size)⟩
      · have k2b : (h.kind == 2) = false := by simpa using k2
        by_cases k3 : h.kind = 3
        · have k3b : (h.kind == 3) = true := by simpa using k3
          have T := Lib.hid (show tellW h = [num h.act, nameL kindsL h.kind, nameL statesL h.state] ++ [num h.n] by
            rw [tellW, tellTail, if_neg T0.out, if_neg k2, if_pos k3])
          obtain ⟨o2, o3⟩ := O.n
          clear k2 k3
          go_wp2_with fail
          refine (numInt_any h.n o2 o3 ((HF.out.2.2.2.1).next HX.out)).mono ?_; rintro e w6 ⟨rfl, hb6⟩
          go_wp2_with (at_builtin; refine wpList_app_strs rfl _ _ rfl W.heap.size _ 3 _ rfl (own_next (own_next HO.out hb6) (Below.alloc (Below.refl _ _) (Nat.le_refl _) _)) _ [num h.n] rfl (lit_strs w6 [num h.n] (by simp)) (by simp) ?hbase ?_)
          case hbase => have := HX.out.size; have := hb6.size; simp; omega
          intro v' w7 o7 G7
          have hx7 := Lib.hid (((HX.out.trans (hb6.mono HX.out.size)).alloc (Nat.le_trans HX.out.size hb6.size) _).trans G7.below)
          have J := Lib.hid (join_any (l := tellW h) (by rw [T.out]; exact StrsAt.of_own o7) JN.out JL.out)
          clear o7 G7 hb6
          go_wp2_with (go_at_call 38; refine J.out.mono ?_; rintro e w8 ⟨rfl, hb8⟩)
          go_ret
          exact ⟨rfl, HF.out.2.2.2.2.trans ((hx7.out.trans (hb8.mono hx7.out.size)).mono HF.out.2.2.2.2.size)⟩
        · have k3b : (h.kind == 3) = false := by simpa using k3
          by_cases k7 : h.kind = 7
          · have k7b : (h.kind == 7) = true := by simpa using k7
            have T := Lib.hid (show tellW h = [num h.act, nameL kindsL h.kind, nameL statesL h.state] ++ (if h.done then [sThrough, num h.code] else [sOn]) by
              rw [tellW, tellTail, if_neg T0.out, if_neg k2, if_neg k3, if_pos k7])
            obtain ⟨o2, o3⟩ := O.code
            clear k2 k3 k7
            cases hd : h.done
            all_goals have HD := Lib.hid hd
            all_goals first
            | (have T' := Lib.hid (show tellW h = [num h.act, nameL kindsL h.kind, nameL statesL h.state] ++ [sThrough, num h.code] by rw [T.out, HD.out]; rfl)
               go_wp2_with fail
               refine (numErrno_any h.code o2 o3 ((HF.out.2.2.2.1).next HX.out)).mono ?_; rintro e w6 ⟨rfl, hb6⟩
               go_wp2_with (at_builtin; refine wpList_app_strs rfl _ _ rfl W.heap.size _ 3 _ rfl (own_next (own_next HO.out hb6) (Below.alloc (Below.refl _ _) (Nat.le_refl _) _)) _ [sThrough, num h.code] rfl (lit_strs w6 [sThrough, num h.code] (by simp)) (by simp) ?hbase ?_)
               case hbase => have := HX.out.size; have := hb6.size; simp; omega
               intro v' w7 o7 G7
               have hx7 := Lib.hid (((HX.out.trans (hb6.mono HX.out.size)).alloc (Nat.le_trans HX.out.size hb6.size) _).trans G7.below)
               have J := Lib.hid (join_any (l := tellW h) (by rw [T'.out]; exact StrsAt.of_own o7) JN.out JL.out)
               clear o7 G7 hb6
               go_wp2_with (go_at_call 38; refine J.out.mono ?_; rintro e w8 ⟨rfl, hb8⟩)
               go_ret
               exact ⟨rfl, HF.out.2.2.2.2.trans ((hx7.out.trans (hb8.mono hx7.out.size)).mono HF.out.2.2.2.2.size)⟩)
            | (have T' := Lib.hid (show tellW h = [num h.act, nameL kindsL h.kind, nameL statesL h.state] ++ [sOn] by rw [T.out, HD.out]; rfl)
               go_wp2_with (at_builtin; refine wpList_app_strs rfl _ _ rfl W.heap.size _ 3 _ rfl (own_next HO.out (Below.alloc (Below.refl _ _) (Nat.le_refl _) _)) _ [sOn] rfl (lit_strs X [sOn] (by simp)) (by simp) ?hbase ?_)
               case hbase => have := HX.out.size; simp; omega
               intro v' w7 o7 G7
               have hx7 := Lib.hid ((HX.out.alloc HX.out.size _).trans G7.below)
               have J := Lib.hid (join_any (l := tellW h) (by rw [T'.out]; exact StrsAt.of_own o7) JN.out JL.out)
               clear o7 G7
               go_wp2_with (go_at_call 38; refine J.out.mono ?_; rintro e w8 ⟨rfl, hb8⟩)
               go_ret
               exact ⟨rfl, HF.out.2.2.2.2.trans ((hx7.out.trans (hb8.mono hx7.out.size)).mono HF.out.2.2.2.2.size)⟩)
          · have k7b : (h.kind == 7) = false := by simpa using k7
            have T := Lib.hid (show tellW h = [num h.act, nameL kindsL h.kind, nameL statesL h.state] by
              rw [tellW, tellTail, if_neg T0.out, if_neg k2, if_neg k3, if_neg k7]; rfl)
            have J := Lib.hid (join_any (l := tellW h) (by rw [T.out]; exact StrsAt.of_own HO.out) JN.out JL.out)
            clear k2 k3 k7
            go_wp2_with (go_at_call 38; refine J.out.mono ?_; rintro e w8 ⟨rfl, hb8⟩)
            go_ret
            exact ⟨rfl, HF.out.2.2.2.2.trans ((HX.out.trans (hb8.mono HX.out.size)).mono HF.out.2.2.2.2.size)⟩

end Go.Proofs.YtnnahodajiolmaaGreatDoor.sc.tl
