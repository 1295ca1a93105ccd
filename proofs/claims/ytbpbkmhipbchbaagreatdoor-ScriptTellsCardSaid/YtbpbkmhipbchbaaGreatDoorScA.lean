/-
  PROVED HERE: slices of strings (StrsAt), and the contracts of package script's smallest functions: kinds, states, ops, name (twice), again, join. Conditions: as each says.
-/
import Derived.Test.YtbpbkmhipbchbaaGreatDoorScDig
namespace Go.Proofs.YtbpbkmhipbchbaaGreatDoor.sc
open Go.RowKit
set_option linter.unusedVariables false

/-! ### A slice of strings -/
def StrsAt (w : World) (v : Value) (l : List Bs) : Prop :=
  ∃ A c, v = .slice A l.length c ∧ l.length ≤ c ∧ (0 < l.length → ∃ b o, A = some ⟨b, o, none⟩ ∧ b < w.heap.size ∧ ∀ j x, l[j]? = some x → w.cell? ⟨b, o + j, none⟩ = some (.string (mk x)))

theorem StrsAt.below {w w' : World} {v : Value} {l : List Bs} {B : Nat} (h : StrsAt w v l) (hb : Below B w w') (hB : w.heap.size ≤ B) : StrsAt w' v l := by
  obtain ⟨A, c, h1, h2, h3⟩ := h
  refine ⟨A, c, h1, h2, fun hn => ?_⟩
  obtain ⟨b, o, e, hlt, hc⟩ := h3 hn
  exact ⟨b, o, e, Nat.lt_of_lt_of_le hlt (by have := hb.size; omega), fun j x hj => by rw [hb.cell (p := ⟨b, o + j, none⟩) (show b < B by omega)]; exact hc j x hj⟩
theorem StrsAt.next {w w' : World} {v : Value} {l : List Bs} (h : StrsAt w v l) (hb : Below w.heap.size w w') : StrsAt w' v l := h.below hb (Nat.le_refl _)
theorem add_plain (b o j : Nat) : (⟨b, o, none⟩ : Addr).add j = ⟨b, o + j, none⟩ := by
  unfold Addr.add; by_cases h : j = 0 <;> simp [h]
theorem StrsAt.of_own {w : World} {base : Nat} {v : Value} {l : List Bs} {n : Nat} (h : w.ownsRow base 9 1 v n (strs l)) : StrsAt w v l := by
  have hn : l.length = n := by have := h.1; rw [strs_length] at this; omega
  subst hn
  rcases h.2 with ⟨rfl, h0⟩ | ⟨g, cap, cur, rfl, h1, h2, h3, h4, h5, h6⟩
  · exact ⟨none, 0, by rw [h0], by omega, fun hn => by omega⟩
  · refine ⟨_, cap, rfl, h3, fun hn => ⟨g, 0, rfl, ?_, fun j x hj => ?_⟩⟩
    · exact (h.lt g rfl).2
    · have := h.cells (g := g) rfl j _ (strs_get hj)
      rw [add_plain] at this; exact this
theorem StrsAt.len {w : World} {v : Value} {l : List Bs} (h : StrsAt w v l) : ∃ A c, v = .slice A l.length c := by
  obtain ⟨A, c, e, _⟩ := h; exact ⟨A, c, e⟩
theorem StrsAt.cell {w : World} {A : Option Addr} {n c : Nat} {l : List Bs} (h : StrsAt w (.slice A n c) l) {k : Nat} {x : Bs} (hk : l[k]? = some x) : ∃ b o, A = some ⟨b, o, none⟩ ∧ n = l.length ∧ w.cell? ⟨b, o + k, none⟩ = some (.string (mk x)) := by
  obtain ⟨A', c', e, _, h3⟩ := h
  cases e
  have hl : k < l.length := (List.getElem?_eq_some_iff.1 hk).1
  obtain ⟨b, o, e, _, hc⟩ := h3 (by omega)
  exact ⟨b, o, e, rfl, hc k x hk⟩

/-! ### A slice of cells -/
def RowR (w : World) (v : Value) (n size : Nat) (cs : List Value) : Prop :=
  ∃ A c, v = .slice A n c ∧ n ≤ c ∧ cs.length = n * size ∧ (0 < n → ∃ b o, A = some ⟨b, o, none⟩ ∧ b < w.heap.size ∧ ∀ j u, cs[j]? = some u → w.cell? ⟨b, o + j, none⟩ = some u)
theorem RowR.below {w w' : World} {v : Value} {n size : Nat} {cs : List Value} {B : Nat} (h : RowR w v n size cs) (hb : Below B w w') (hB : w.heap.size ≤ B) : RowR w' v n size cs := by
  obtain ⟨A, c, h1, h2, h4, h3⟩ := h
  refine ⟨A, c, h1, h2, h4, fun hn => ?_⟩
  obtain ⟨b, o, e, hlt, hc⟩ := h3 hn
  exact ⟨b, o, e, Nat.lt_of_lt_of_le hlt (by have := hb.size; omega), fun j x hj => by rw [hb.cell (p := ⟨b, o + j, none⟩) (show b < B by omega)]; exact hc j x hj⟩
theorem RowR.next {w w' : World} {v : Value} {n size : Nat} {cs : List Value} (h : RowR w v n size cs) (hb : Below w.heap.size w w') : RowR w' v n size cs := h.below hb (Nat.le_refl _)
theorem RowR.nil (w : World) (size : Nat) : RowR w (.slice none 0 0) 0 size [] := ⟨none, 0, rfl, Nat.le_refl _, by simp, fun h => by omega⟩
theorem RowR.of_own {w : World} {base size : Nat} {T : TypeId} {v : Value} {n : Nat} {cs : List Value} (h : w.ownsRow base T size v n cs) : RowR w v n size cs := by
  have h0 := h.1
  rcases h.2 with ⟨rfl, h0'⟩ | ⟨g, cap, cur, rfl, h1, h2, h3, h4, h5, h6⟩
  · exact ⟨none, 0, by rw [h0'], by omega, h0, fun hn => by omega⟩
  · refine ⟨_, cap, rfl, h3, h0, fun hn => ⟨g, 0, rfl, (h.lt g rfl).2, fun j x hj => ?_⟩⟩
    have := h.cells (g := g) rfl j _ hj
    rw [add_plain] at this; exact this
theorem RowR.len {w : World} {v : Value} {n size : Nat} {cs : List Value} (h : RowR w v n size cs) : ∃ A c, v = .slice A n c := by
  obtain ⟨A, c, e, _⟩ := h; exact ⟨A, c, e⟩

theorem strInfo : (Tryz.prog.info? 9).map (fun i => (i.zero, i.size, i.bytes)) = some (some (.string ByteArray.empty), 1, 16) := by kernel_rfl
theorem StrsAt.reads {w : World} {A : Option Addr} {n c : Nat} {l : List Bs} (h : StrsAt w (.slice A n c) l) : n = l.length ∧ Reads w w.heap.size 1 A n (strs l) := by
  obtain ⟨A', c', e, _, h3⟩ := h
  cases e
  refine ⟨rfl, by rw [strs_length]; omega, fun hn => ?_⟩
  obtain ⟨b, o, e, hlt, hc⟩ := h3 hn
  refine ⟨_, e, hlt, fun j u hj => ?_⟩
  rw [strs, List.getElem?_map] at hj
  obtain ⟨x, hx, rfl⟩ := Option.map_eq_some_iff.1 hj
  rw [add_plain]; exact hc j x hx
theorem strs_one (l : List Bs) : ∀ u ∈ strs l, u.oneCell' = true := by
  intro u hu
  obtain ⟨x, _, rfl⟩ := List.mem_map.1 hu
  rfl
theorem strs_append (a b : List Bs) : strs (a ++ b) = strs a ++ strs b := by simp [strs]

/-- What an append to a row of the call's own (base) leaves: all below the base, all other blocks. -/
structure Grew (base : Nat) (v : Value) (w : World) (v' : Value) (w' : World) : Prop where
  below : Below base w w'
  far : ∀ b, b < w.heap.size → v.ownBlock ≠ some b → w'.heap[b]? = w.heap[b]?
  own : ∀ b, b < w.heap.size → v.ownBlock ≠ some b → v'.ownBlock ≠ some b
theorem Grew.of {base n : Nat} {e : TypeId} {size : Nat} {v v' : Value} {w w' : World} {xs : List Value} (hown : w.ownsRow base e size v n xs) (h3 : w.grownBy w' v.ownBlock) (h4 : v'.ownBlock = v.ownBlock ∨ v'.ownBlock = some w.heap.size) (hbase : base ≤ w.heap.size) : Grew base v w v' w' :=
  ⟨(Below.refl _ _).grown h3 hbase (fun k hk => (hown.lt k hk).1), fun b hb hne => h3.block b hb (Ne.symm hne), fun b hb hne => by
    rcases h4 with e | e
    · rw [e]; exact hne
    · rw [e]; intro h; injection h with h; omega⟩
theorem Blk.grew {base g : Nat} {t : TypeId} {cs : Array Value} {v v' : Value} {w w' : World} (h : Blk w g t cs) (G : Grew base v w v' w') (hne : v.ownBlock ≠ some g) : Blk w' g t cs := (G.far g h.lt hne).trans h

section
variable {w : World} {ops : Array Oper} {o : Oper} {a : Act}
/-- A slice of the call's own and strings of any slice: append. -/
theorem wpList_app_strs {rest : List Oper} {Q : Exit → Act → World → Prop} (hgd : o.guard = none) (s x : Operand)
    (ho : o.op = .call { callee := .builtin .append, args := #[s, x], argTypes := #[71, 71] })
    (base : Nat) (v : Value) (n : Nat) (l : List Bs) (hs : a.eval s = v) (hown : w.ownsRow base 9 1 v n (strs l))
    (vx : Value) (m : List Bs) (hx : a.eval x = vx) (hr : StrsAt w vx m) (hfew : n + m.length ≤ 1000000000) (hbase : base ≤ w.heap.size)
    (h : ∀ v' w', w'.ownsRow base 9 1 v' (n + m.length) (strs (l ++ m)) → Grew base v w v' w' → wpList Tryz.prog ops Q rest (a.put o.dst v') w') : wpList Tryz.prog ops Q (o :: rest) a w := by
  obtain ⟨A, c, rfl⟩ := hr.len
  obtain ⟨_, hr2⟩ := hr.reads
  obtain ⟨i0, hi0, hz0, hz1, hz2⟩ := info_parts strInfo
  refine wpList_append_any w hgd s x 71 ho base 9 i0 _ 1 16 Tryz.underlying71 hi0 hz0 hz1 hz2 rfl (by omega) v n _ hs hown _ A m.length c _ hx hr2 (strs_one m) (by unfold maxLen; omega) (by omega) hbase fun v' w' h2 h3 h4 => h v' w' ?_ ?_
  · rw [strs_append]; exact h2
  · exact Grew.of hown h3 h4 hbase
theorem step_app_strs {K : Act → World → Prop} {Q : Exit → Act → World → Prop} {E : Prop} (hgd : o.guard = none) (s x : Operand)
    (ho : o.op = .call { callee := .builtin .append, args := #[s, x], argTypes := #[71, 71] })
    (base : Nat) (v : Value) (n : Nat) (l : List Bs) (hs : a.eval s = v) (hown : w.ownsRow base 9 1 v n (strs l))
    (vx : Value) (m : List Bs) (hx : a.eval x = vx) (hr : StrsAt w vx m) (hfew : n + m.length ≤ 1000000000) (hbase : base ≤ w.heap.size)
    (h : ∀ v' w', w'.ownsRow base 9 1 v' (n + m.length) (strs (l ++ m)) → Grew base v w v' w' → K (a.put o.dst v') w') :
    if Region.wanted o (yielded ops a.tmps) = true then Oper.wp Tryz.prog o a w K Q else E := by
  obtain ⟨A, c, rfl⟩ := hr.len
  obtain ⟨_, hr2⟩ := hr.reads
  obtain ⟨i0, hi0, hz0, hz1, hz2⟩ := info_parts strInfo
  refine step_append_any w hgd s x 71 ho base 9 i0 _ 1 16 Tryz.underlying71 hi0 hz0 hz1 hz2 rfl (by omega) v n _ hs hown _ A m.length c _ hx hr2 (strs_one m) (by unfold maxLen; omega) (by omega) hbase fun v' w' h2 h3 h4 => h v' w' ?_ ?_
  · rw [strs_append]; exact h2
  · exact Grew.of hown h3 h4 hbase
end
/-- A literal slice of strings. -/
theorem own_lit (w : World) (l : List Bs) {base : Nat} (hb : base ≤ w.heap.size) (hm : l.length ≤ 1000000000) :
    (w.alloc (.cells (strs l).toArray 9)).ownsRow base 9 1 (.slice (some ⟨w.heap.size, 0, none⟩) l.length l.length) l.length (strs l) :=
  World.ownsRow_lit (base := base) (e := 9) (size := 1) w (strs l).toArray l.length hb (by unfold maxLen; omega) (by simp [strs])
theorem lit_strs (w : World) (l : List Bs) (hm : l.length ≤ 1000000000) :
    StrsAt (w.alloc (.cells (strs l).toArray 9)) (.slice (some ⟨w.heap.size, 0, none⟩) l.length l.length) l :=
  StrsAt.of_own (own_lit w l (Nat.zero_le _) hm)

set_option maxRecDepth 100000 in
theorem kinds_any (w : World) : Calls Tryz.prog 35 #[] w fun e w' => e = .returned (.agg #[.string (mk sNone), .string (mk sInvoke), .string (mk sPick), .string (mk sEvict), .string (mk sCrash), .string (mk sOpen), .string (mk sScavenge), .string (mk sBoot)]) ∧ Below w.heap.size w w' := by
  go_enter Tryz.func35, Tryz.ntmps35
  go_wp2
  exact bodyPost_ret (v := .agg #[.string (mk sNone), .string (mk sInvoke), .string (mk sPick), .string (mk sEvict), .string (mk sCrash), .string (mk sOpen), .string (mk sScavenge), .string (mk sBoot)]) (by simp [results, Tryz.results35, go_sem, mk, sNone, sInvoke, sPick, sEvict, sCrash, sOpen, sScavenge, sBoot]) rfl ⟨rfl, (Below.refl _ _).alloc (Nat.le_refl _) _⟩
set_option maxRecDepth 100000 in
theorem states_any (w : World) : Calls Tryz.prog 36 #[] w fun e w' => e = .returned (.agg #[.string (mk sNone), .string (mk sClosed), .string (mk sOpening), .string (mk sOpened), .string (mk sScavenging), .string (mk sReady), .string (mk sReadonly)]) ∧ Below w.heap.size w w' := by
  go_enter Tryz.func36, Tryz.ntmps36
  go_wp2
  exact bodyPost_ret (v := .agg #[.string (mk sNone), .string (mk sClosed), .string (mk sOpening), .string (mk sOpened), .string (mk sScavenging), .string (mk sReady), .string (mk sReadonly)]) (by simp [results, Tryz.results36, go_sem, mk, sNone, sClosed, sOpening, sOpened, sScavenging, sReady, sReadonly]) rfl ⟨rfl, (Below.refl _ _).alloc (Nat.le_refl _) _⟩
set_option maxRecDepth 100000 in
theorem ops_any (w : World) : Calls Tryz.prog 82 #[] w fun e w' => e = .returned (.agg #[.string (mk sNone), .string (mk sPut), .string (mk sGet), .string (mk sDelete), .string (mk sScan)]) ∧ Below w.heap.size w w' := by
  go_enter Tryz.func82, Tryz.ntmps82
  go_wp2
  exact bodyPost_ret (v := .agg #[.string (mk sNone), .string (mk sPut), .string (mk sGet), .string (mk sDelete), .string (mk sScan)]) (by simp [results, Tryz.results82, go_sem, mk, sNone, sPut, sGet, sDelete, sScan]) rfl ⟨rfl, (Below.refl _ _).alloc (Nat.le_refl _) _⟩

theorem kinds_row {w : World} {b : Nat} {T : TypeId} (h : Blk w b T #[.string (mk sNone), .string (mk sInvoke), .string (mk sPick), .string (mk sEvict), .string (mk sCrash), .string (mk sOpen), .string (mk sScavenge), .string (mk sBoot)]) : StrsAt w (.slice (some ⟨b, 0, none⟩) 8 8) kindsL :=
  ⟨_, _, rfl, Nat.le_refl _, fun _ => ⟨b, 0, rfl, h.lt, fun j x hj => by
    rw [Nat.zero_add, h.cell]
    have e : (strs kindsL)[j]? = some (.string (mk x)) := strs_get hj
    rw [← e, ← Array.getElem?_toList]; rfl⟩⟩
theorem states_row {w : World} {b : Nat} {T : TypeId} (h : Blk w b T #[.string (mk sNone), .string (mk sClosed), .string (mk sOpening), .string (mk sOpened), .string (mk sScavenging), .string (mk sReady), .string (mk sReadonly)]) : StrsAt w (.slice (some ⟨b, 0, none⟩) 7 7) statesL :=
  ⟨_, _, rfl, Nat.le_refl _, fun _ => ⟨b, 0, rfl, h.lt, fun j x hj => by
    rw [Nat.zero_add, h.cell]
    have e : (strs statesL)[j]? = some (.string (mk x)) := strs_get hj
    rw [← e, ← Array.getElem?_toList]; rfl⟩⟩
theorem ops_row {w : World} {b : Nat} {T : TypeId} (h : Blk w b T #[.string (mk sNone), .string (mk sPut), .string (mk sGet), .string (mk sDelete), .string (mk sScan)]) : StrsAt w (.slice (some ⟨b, 0, none⟩) 5 5) opsL :=
  ⟨_, _, rfl, Nat.le_refl _, fun _ => ⟨b, 0, rfl, h.lt, fun j x hj => by
    rw [Nat.zero_add, h.cell]
    have e : (strs opsL)[j]? = some (.string (mk x)) := strs_get hj
    rw [← e, ← Array.getElem?_toList]; rfl⟩⟩
/-- One of some names, or the first one. -/
def nameL (l : List Bs) (i : Int) : Bs := if i < 0 ∨ (l.length : Int) ≤ i then l.getD 0 [] else l.getD i.toNat []

theorem getD_get {l : List Bs} {k : Nat} (h : k < l.length) : l[k]? = some (l.getD k []) := by simp [h]

theorem nameKind_any {w : World} {A : Option Addr} {c : Nat} {l : List Bs} (i : Int) (h : StrsAt w (.slice A l.length c) l) (h0 : 0 < l.length) (h1 : l.length ≤ 100) :
    Calls Tryz.prog 38 #[.slice A l.length c, .int .i64 i] w fun e w' => e = .returned (.string (mk (nameL l i))) ∧ Below w.heap.size w w' := by
  obtain ⟨x, hx⟩ : ∃ x, l[0]? = some x := ⟨_, List.getElem?_eq_getElem h0⟩
  obtain ⟨b, o, rfl, _, c0⟩ := h.cell hx
  rw [Nat.add_zero] at c0
  have hx0 : l.getD 0 [] = x := by rw [List.getD, hx]; rfl
  by_cases hi : i < 0
  · have N := Lib.hid (show nameL l i = x from (if_pos (Or.inl hi)).trans hx0)
    clear hx hx0
    go_enter Tryz.func38, Tryz.ntmps38
    go_wp2
    go_ret
    exact ⟨by rw [N.out]; rfl, Below.refl _ _⟩
  · by_cases hj : (l.length : Int) ≤ i
    · have N := Lib.hid (show nameL l i = x from (if_pos (Or.inr hj)).trans hx0)
      clear hx hx0
      go_enter Tryz.func38, Tryz.ntmps38
      go_wp2
      go_ret
      exact ⟨by rw [N.out]; rfl, Below.refl _ _⟩
    · obtain ⟨k, rfl⟩ : ∃ k : Nat, i = k := ⟨i.toNat, by omega⟩
      have hk : k < l.length := by omega
      obtain ⟨y, hy⟩ : ∃ y, l[k]? = some y := ⟨_, List.getElem?_eq_getElem hk⟩
      have N := Lib.hid (show nameL l k = y from (if_neg (by omega)).trans (by rw [Int.toNat_natCast, List.getD, hy]; rfl))
      obtain ⟨b', o', e', _, c1⟩ := h.cell hy
      cases e'
      clear hx hx0 hy c0
      go_enter Tryz.func38, Tryz.ntmps38
      go_wp2
      go_ret
      exact ⟨by rw [N.out]; rfl, Below.refl _ _⟩

theorem nameState_any {w : World} {A : Option Addr} {c : Nat} {l : List Bs} (i : Int) (h : StrsAt w (.slice A l.length c) l) (h0 : 0 < l.length) (h1 : l.length ≤ 100) :
    Calls Tryz.prog 39 #[.slice A l.length c, .int .i64 i] w fun e w' => e = .returned (.string (mk (nameL l i))) ∧ Below w.heap.size w w' := by
  obtain ⟨x, hx⟩ : ∃ x, l[0]? = some x := ⟨_, List.getElem?_eq_getElem h0⟩
  obtain ⟨b, o, rfl, _, c0⟩ := h.cell hx
  rw [Nat.add_zero] at c0
  have hx0 : l.getD 0 [] = x := by rw [List.getD, hx]; rfl
  by_cases hi : i < 0
  · have N := Lib.hid (show nameL l i = x from (if_pos (Or.inl hi)).trans hx0)
    clear hx hx0
    go_enter Tryz.func39, Tryz.ntmps39
    go_wp2
    go_ret
    exact ⟨by rw [N.out]; rfl, Below.refl _ _⟩
  · by_cases hj : (l.length : Int) ≤ i
    · have N := Lib.hid (show nameL l i = x from (if_pos (Or.inr hj)).trans hx0)
      clear hx hx0
      go_enter Tryz.func39, Tryz.ntmps39
      go_wp2
      go_ret
      exact ⟨by rw [N.out]; rfl, Below.refl _ _⟩
    · obtain ⟨k, rfl⟩ : ∃ k : Nat, i = k := ⟨i.toNat, by omega⟩
      have hk : k < l.length := by omega
      obtain ⟨y, hy⟩ : ∃ y, l[k]? = some y := ⟨_, List.getElem?_eq_getElem hk⟩
      have N := Lib.hid (show nameL l k = y from (if_neg (by omega)).trans (by rw [Int.toNat_natCast, List.getD, hy]; rfl))
      obtain ⟨b', o', e', _, c1⟩ := h.cell hy
      cases e'
      clear hx hx0 hy c0
      go_enter Tryz.func39, Tryz.ntmps39
      go_wp2
      go_ret
      exact ⟨by rw [N.out]; rfl, Below.refl _ _⟩

theorem map_mk : ∀ l : List Bs, (l.map mk).map (·.data.toList) = l
  | [] => rfl
  | a :: r => by rw [List.map_cons, List.map_cons, map_mk r]

theorem strJoin_any {w : World} {v : Value} {l : List Bs} (h : StrsAt w v l) (hN : l.length ≤ 1000000000) (hlen : (joinB l).length ≤ 140737488355328) :
    Calls Tryz.prog 72 #[v, .string ⟨#[32]⟩] w fun e w' => e = .returned (.string (mk (joinB l))) ∧ Below w.heap.size w w' := by
  obtain ⟨A, c, rfl, hc, h3⟩ := h
  by_cases h0 : l = []
  · subst h0
    exact (Tryz.strings_Join_none A c _ w).mono fun e w' ⟨he, hw⟩ => ⟨he, hw ▸ Below.refl _ _⟩
  · obtain ⟨b, o, rfl, hb, hcell⟩ := h3 (List.length_pos_iff.2 h0)
    have e1 := map_mk l
    have H := Tryz.strings_Join b o c (l.map mk) ⟨#[32]⟩ w (fun j x hj => by
      rw [List.getElem?_map] at hj
      obtain ⟨y, hy, rfl⟩ := Option.map_eq_some_iff.1 hj
      exact hcell j y hy) hb (by rw [List.length_map]; omega) (by rw [List.length_map]; exact hc) (by rw [e1]; exact hlen)
    rw [List.length_map, e1] at H
    exact H

theorem join_any {w : World} {v : Value} {l : List Bs} (h : StrsAt w v l) (hN : l.length ≤ 1000000000) (hlen : (joinB l).length ≤ 140737488355328) :
    Calls Tryz.prog 43 #[v] w fun e w' => e = .returned (.string (mk (joinB l))) ∧ Below w.heap.size w w' := by
  have H := Lib.hid (strJoin_any h hN hlen)
  obtain ⟨A, c, rfl⟩ := h.len
  go_enter Tryz.func43, Tryz.ntmps43
  go_wp2_with (go_at_call 72; refine H.out.mono ?_; rintro e w' ⟨rfl, hb⟩)
  go_ret
  exact ⟨rfl, hb⟩

end Go.Proofs.YtbpbkmhipbchbaaGreatDoor.sc
