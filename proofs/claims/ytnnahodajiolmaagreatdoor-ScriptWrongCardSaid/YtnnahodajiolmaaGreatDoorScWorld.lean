/-
  ScMem: PROVED HERE: words on memory for package script: what the library's variables hold (Env), a slice that reads as a list (Reads), a block known whole (Blk). Conditions: none.
  ScMap: PROVED HERE: a map literal with keys of kind string: its inserts and a look-up with two results, as run equations. Conditions: the block is a map with such keys.
-/
import Derived.Test.YtnnahodajiolmaaGreatDoorScPlain
import Derived.Test.YtnnahodajiolmaaGreatDoorChecked
import Derived.WalkKit
import Derived.WalkSmall
import Derived.Lib.Hide
import Derived.IntWalk
import Derived.RowKit3
import Derived.Lib.LaidTab
import Derived.Laws.OwnMore
import Derived.Deep.AppendLies
import Derived.Deep.Draws
import Derived.Laws.Rows
import Derived.Maps.AppendAt
import Derived.RegionTactic
import Derived.OwnWalk
import Derived.Carry
import Derived.Maps.Own
import Derived.ChangeMaps5
namespace Go.Proofs.YtnnahodajiolmaaGreatDoor.sc
open Go.RowKit
set_option linter.unusedVariables false

/-! ### A slice that reads as a list -/
theorem block_of_add (a : Addr) (n : Nat) : (a.add n).block = a.block := by unfold Addr.add; split <;> rfl
theorem add_of_add (a : Addr) (i j : Nat) : (a.add i).add j = a.add (i + j) := by
  unfold Addr.add
  by_cases hi : i = 0 <;> by_cases hj : j = 0 <;> simp [hi, hj, Nat.add_assoc]

def Reads (w : World) (B size : Nat) (A : Option Addr) (n : Nat) (xs : List Value) : Prop :=
  xs.length = n * size ∧ (0 < n → ∃ ad, A = some ad ∧ ad.block < B ∧ ∀ j u, xs[j]? = some u → w.cell? (ad.add j) = some u)

section
variable {w w' : World} {B B' size n : Nat} {A : Option Addr} {xs : List Value}
theorem Reads.none_ : Reads w B size A 0 [] := ⟨by simp, fun h => absurd h (by omega)⟩
theorem Reads.at_ {k : Nat} (h : Reads w B 1 A n xs) (hk : k < n) : ∃ ad u, A = some ad ∧ ad.block < B ∧ xs[k]? = some u ∧ w.cell? (ad.add k) = some u := by
  obtain ⟨ad, e, hb, hc⟩ := h.2 (by omega)
  have hl : k < xs.length := by have := h.1; omega
  exact ⟨ad, xs[k], e, hb, List.getElem?_eq_getElem hl, hc k _ (List.getElem?_eq_getElem hl)⟩
theorem Reads.keep (h : Reads w B size A n xs) (hk : ∀ p : Addr, p.block < B → w'.cell? p = w.cell? p) : Reads w' B size A n xs :=
  ⟨h.1, fun hn => by
    obtain ⟨ad, e, hb, hc⟩ := h.2 hn
    exact ⟨ad, e, hb, fun j u hu => (hk _ (by rw [block_of_add]; exact hb)).trans (hc j u hu)⟩⟩
theorem Reads.more (h : Reads w B size A n xs) (hB : B ≤ B') : Reads w B' size A n xs :=
  ⟨h.1, fun hn => by
    obtain ⟨ad, e, hb, hc⟩ := h.2 hn
    exact ⟨ad, e, by omega, hc⟩⟩
theorem Reads.below (h : Reads w B size A n xs) (hb : Below B w w') : Reads w' B size A n xs := h.keep fun _ hp => hb.cell hp
theorem Reads.drew (h : Reads w B size A n xs) : Reads w.drew B size A n xs := h
theorem Reads.drewN (h : Reads w B size A n xs) (k : Nat) : Reads (w.drewN k) B size A n xs := h
theorem Reads.alloc (h : Reads w B size A n xs) (hB : B ≤ w.heap.size) (o : Obj) : Reads (w.alloc o) B size A n xs := h.keep fun p hp => World.cell?_alloc_lt w o p (by omega)
theorem Reads.setCell (h : Reads w B size A n xs) {p : Addr} (hB : B ≤ p.block) (u : Value) : Reads (w.setCell p u) B size A n xs :=
  h.keep fun q hq => World.cell?_setCell_other w p q u (fun e => by subst e; omega)
theorem Reads.grown (h : Reads w B size A n xs) {row : Option Nat} (hg : w.grownBy w' row) (hB : B ≤ w.heap.size) (hr : ∀ g, row = some g → B ≤ g) : Reads w' B size A n xs :=
  h.keep fun p hp => World.cell?_of_block (hg.block p.block (by omega) (fun e => by have := hr _ e.symm; omega))
theorem Reads.cut (h : Reads w B size A n xs) {k cap : Nat} (hk : k ≤ n) (hc : n ≤ cap) :
    Reads w B size (if cap = k then A else A.map (·.add (k * size))) (n - k) (xs.drop (k * size)) := by
  refine ⟨by rw [List.length_drop, h.1, Nat.sub_mul], fun hn => ?_⟩
  obtain ⟨ad, rfl, hb, hcell⟩ := h.2 (by omega)
  rw [if_neg (by omega)]
  refine ⟨ad.add (k * size), rfl, by rw [block_of_add]; exact hb, fun j u hu => ?_⟩
  rw [add_of_add]
  exact hcell _ u (by rw [← hu, List.getElem?_drop])
theorem Reads.of_own {base : Nat} {e : TypeId} {c : Nat} (h : w.ownsRow base e size (.slice A n c) n xs) : Reads w w.heap.size size A n xs := by
  refine ⟨h.1, fun hn => ?_⟩
  obtain ⟨g, cap, hv, _, hlt⟩ := h.form hn
  have hA : A = some ⟨g, 0, none⟩ := by injection hv
  subst hA
  exact ⟨_, rfl, hlt, h.cells (g := g) rfl⟩
end

/-! ### A block known whole -/
def Blk (w : World) (g : Nat) (t : TypeId) (cs : Array Value) : Prop := w.heap[g]? = some (.cells cs t (0, 0))

section
variable {w w' : World} {g : Nat} {t : TypeId} {cs : Array Value}
theorem Blk.lt (h : Blk w g t cs) : g < w.heap.size := by
  rcases Nat.lt_or_ge g w.heap.size with hlt | hge
  · exact hlt
  · unfold Blk at h; rw [Array.getElem?_eq_none hge] at h; cases h
theorem Blk.cell (h : Blk w g t cs) (i : Nat) : w.cell? ⟨g, i, none⟩ = cs[i]? := cell_of_row w g i cs t (0, 0) h
theorem Blk.frozen (h : Blk w g t cs) (i : Nat) : w.frozen? ⟨g, i, none⟩ = false := by
  unfold Blk at h
  simp [World.frozen?, h]
theorem Blk.new (w : World) (t : TypeId) (cs : Array Value) : Blk (w.alloc (.cells cs t)) w.heap.size t cs := heap_alloc_new w _
theorem Blk.drew (h : Blk w g t cs) : Blk w.drew g t cs := h
theorem Blk.drewN (h : Blk w g t cs) (n : Nat) : Blk (w.drewN n) g t cs := h
theorem Blk.alloc (h : Blk w g t cs) (o : Obj) : Blk (w.alloc o) g t cs := (Below.heap_alloc w o g h.lt).trans h
theorem Blk.set_ (h : Blk w g t cs) (i : Nat) (u : Value) : Blk (w.setCell ⟨g, i, none⟩ u) g t (cs.setIfInBounds i u) := by
  unfold Blk at h ⊢
  simp [World.setCell, Array.getElem?_modify, h]
theorem Blk.far (h : Blk w g t cs) {p : Addr} (hp : g ≠ p.block) (u : Value) : Blk (w.setCell p u) g t cs := (Below.heap_setCell w p u g hp).trans h
theorem Blk.below {B : Nat} (h : Blk w g t cs) (hb : Below B w w') (hg : g < B) : Blk w' g t cs := (hb.block g hg).trans h
theorem Blk.grown {row : Option Nat} (h : Blk w g t cs) (hb : w.grownBy w' row) (hg : some g ≠ row) : Blk w' g t cs := (hb.block g h.lt hg).trans h
end

/-- Behind a callee that only makes memory: all old cells and marks read as before. -/
theorem bcell {W w1 : World} (hb : Below W.heap.size W w1) : (∀ b o, b < W.heap.size → w1.cell? ⟨b, o, none⟩ = W.cell? ⟨b, o, none⟩) ∧ (∀ b o, b < W.heap.size → w1.frozen? ⟨b, o, none⟩ = W.frozen? ⟨b, o, none⟩) :=
  ⟨fun b o h => hb.cell (p := ⟨b, o, none⟩) h, fun b o h => hb.frozen (p := ⟨b, o, none⟩) h⟩

theorem own_below {w w' : World} {base B : Nat} {e : TypeId} {size : Nat} {v : Value} {n : Nat} {xs : List Value} (h : w.ownsRow base e size v n xs) (hb : Below B w w') (hB : w.heap.size ≤ B) : w'.ownsRow base e size v n xs := by
  refine ⟨h.1, ?_⟩
  rcases h.2 with h2 | ⟨g, cap, cur, h1, h2, h3, h4⟩
  · exact .inl h2
  · exact .inr ⟨g, cap, cur, h1, h2, by
      have hlt : g < w.heap.size := by
        rcases Nat.lt_or_ge g w.heap.size with hl | hg
        · exact hl
        · rw [Array.getElem?_eq_none hg] at h3; cases h3
      rw [hb.block g (by omega)]; exact h3, h4⟩
theorem own_next {w w' : World} {base : Nat} {e : TypeId} {size : Nat} {v : Value} {n : Nat} {xs : List Value} (h : w.ownsRow base e size v n xs) (hb : Below w.heap.size w w') : w'.ownsRow base e size v n xs := own_below h hb (Nat.le_refl _)

/-! ### append onto a row of the call's own, the source nil, empty or not -/
section
variable {P : Program} (w : World)

theorem run_append_of_nil (base : Nat) (t ty e : TypeId) (i : TypeInfo) (size : Nat) (ht : P.underlying t = some (.slice e)) (hi : P.info? e = some i)
    (v : Value) (n : Nat) (xs : List Value) (hown : w.ownsRow base e size v n xs) (c : Nat) : (Builtin.append_ #[t, t] ty #[v, .slice none 0 c]).run P w = .ok v w := by
  rcases hown.2 with ⟨rfl, rfl⟩ | ⟨g, cap, cur, rfl, _, _, hnc, _⟩
  · simp [Builtin.append_, run_underlying ht, sizeOf, typeInfo, hi, Builtin.lenOf, Builtin.firstCells]
  · simp [Builtin.append_, run_underlying ht, sizeOf, typeInfo, hi, Builtin.lenOf, Builtin.firstCells, hnc, storeCells]

theorem run_append_any (base : Nat) (t ty e : TypeId) (i : TypeInfo) (z : Value) (size bytes : Nat) (ht : P.underlying t = some (.slice e)) (hi : P.info? e = some i) (hz : i.zero = some z)
    (hsize : i.size = size) (hby : i.bytes = bytes) (hzs : z.cells.size = size) (hsz : 0 < size)
    (v : Value) (n : Nat) (xs : List Value) (hown : w.ownsRow base e size v n xs)
    (B : Nat) (A : Option Addr) (m c : Nat) (news : List Value) (hr : Reads w B size A m news) (h1 : ∀ u ∈ news, u.oneCell' = true)
    (h63 : n + m ≤ maxLen) (hbytes : (n + m) * bytes ≤ 140737488355328) (hbase : base ≤ w.heap.size) :
    ∃ v' w', (Builtin.append_ #[t, t] ty #[v, .slice A m c]).run P w = .ok v' w' ∧ w'.ownsRow base e size v' (n + m) (xs ++ news) ∧ w.grownBy w' v.ownBlock ∧
      (v'.ownBlock = v.ownBlock ∨ v'.ownBlock = some w.heap.size) := by
  rcases A with _ | ad
  · have hm : m = 0 := by
      rcases Nat.eq_zero_or_pos m with h0 | h0
      · exact h0
      · obtain ⟨ad, h, _⟩ := hr.2 h0
        cases h
    subst hm
    have hn : news = [] := List.eq_nil_of_length_eq_zero (by simpa using hr.1)
    subst hn
    exact ⟨v, w, run_append_of_nil w base t ty e i size ht hi v n xs hown c, by simpa using hown, World.grownBy.refl w _, .inl rfl⟩
  · have hcells : ∀ j u, news[j]? = some u → w.cell? (ad.add j) = some u := by
      intro j u hu
      rcases Nat.eq_zero_or_pos m with h0 | h0
      · subst h0
        have hn : news = [] := List.eq_nil_of_length_eq_zero (by simpa using hr.1)
        subst hn
        simp at hu
      · obtain ⟨ad', h, _, hc⟩ := hr.2 h0
        injection h with h
        subst h
        exact hc j u hu
    obtain ⟨v', w', hrun, h2, h3, _, h5⟩ := run_append_own_at (P := P) w base t ty e i z size bytes ht hi hz hsize hby hzs hsz v n xs hown ad m c news hr.1 hcells h1 h63 hbytes hbase
    exact ⟨v', w', hrun, h2, h3, h5⟩

theorem wp_append_any {o : Oper} {a : Act} {K : Act → World → Prop} {Q : Exit → Act → World → Prop} (s x : Operand) (t : TypeId)
    (ho : o.op = .call { callee := .builtin .append, args := #[s, x], argTypes := #[t, t] })
    (base : Nat) (e : TypeId) (i : TypeInfo) (z : Value) (size bytes : Nat) (ht : P.underlying t = some (.slice e)) (hi : P.info? e = some i) (hz : i.zero = some z)
    (hsize : i.size = size) (hby : i.bytes = bytes) (hzs : z.cells.size = size) (hsz : 0 < size)
    (v : Value) (n : Nat) (xs : List Value) (hs : a.eval s = v) (hown : w.ownsRow base e size v n xs)
    (B : Nat) (A : Option Addr) (m c : Nat) (news : List Value) (hx : a.eval x = .slice A m c) (hr : Reads w B size A m news) (h1 : ∀ u ∈ news, u.oneCell' = true)
    (h63 : n + m ≤ maxLen) (hbytes : (n + m) * bytes ≤ 140737488355328) (hbase : base ≤ w.heap.size)
    (h : ∀ v' w', w'.ownsRow base e size v' (n + m) (xs ++ news) → w.grownBy w' v.ownBlock → (v'.ownBlock = v.ownBlock ∨ v'.ownBlock = some w.heap.size) → K (a.put o.dst v') w') : o.wp P a w K Q := by
  obtain ⟨v', w', hrun, h2, h3, h4⟩ := run_append_any (P := P) w base t o.type e i z size bytes ht hi hz hsize hby hzs hsz v n xs hown B A m c news hr h1 h63 hbytes hbase
  unfold Oper.wp execOp
  simp only [ho, resolve, invoke, builtin, Sem.run_bind, Sem.run_pure, Result.andThen_ok, List.map_toArray, List.map_cons, List.map_nil, hs, hx, hrun]
  exact h v' w' h2 h3 h4

theorem wpList_append_any {ops : Array Oper} {rest : List Oper} {o : Oper} {a : Act} {Q : Exit → Act → World → Prop} (hgd : o.guard = none) (s x : Operand) (t : TypeId)
    (ho : o.op = .call { callee := .builtin .append, args := #[s, x], argTypes := #[t, t] })
    (base : Nat) (e : TypeId) (i : TypeInfo) (z : Value) (size bytes : Nat) (ht : P.underlying t = some (.slice e)) (hi : P.info? e = some i) (hz : i.zero = some z)
    (hsize : i.size = size) (hby : i.bytes = bytes) (hzs : z.cells.size = size) (hsz : 0 < size)
    (v : Value) (n : Nat) (xs : List Value) (hs : a.eval s = v) (hown : w.ownsRow base e size v n xs)
    (B : Nat) (A : Option Addr) (m c : Nat) (news : List Value) (hx : a.eval x = .slice A m c) (hr : Reads w B size A m news) (h1 : ∀ u ∈ news, u.oneCell' = true)
    (h63 : n + m ≤ maxLen) (hbytes : (n + m) * bytes ≤ 140737488355328) (hbase : base ≤ w.heap.size)
    (h : ∀ v' w', w'.ownsRow base e size v' (n + m) (xs ++ news) → w.grownBy w' v.ownBlock → (v'.ownBlock = v.ownBlock ∨ v'.ownBlock = some w.heap.size) → wpList P ops Q rest (a.put o.dst v') w') : wpList P ops Q (o :: rest) a w :=
  wpList_plain hgd fun _ hK => wp_append_any w s x t ho base e i z size bytes ht hi hz hsize hby hzs hsz v n xs hs hown B A m c news hx hr h1 h63 hbytes hbase fun v' w' h2 h3 h4 => hK _ _ (h v' w' h2 h3 h4)

theorem step_append_any {ops : Array Oper} {o : Oper} {a : Act} {K : Act → World → Prop} {Q : Exit → Act → World → Prop} {E : Prop} (hgd : o.guard = none) (s x : Operand) (t : TypeId)
    (ho : o.op = .call { callee := .builtin .append, args := #[s, x], argTypes := #[t, t] })
    (base : Nat) (e : TypeId) (i : TypeInfo) (z : Value) (size bytes : Nat) (ht : P.underlying t = some (.slice e)) (hi : P.info? e = some i) (hz : i.zero = some z)
    (hsize : i.size = size) (hby : i.bytes = bytes) (hzs : z.cells.size = size) (hsz : 0 < size)
    (v : Value) (n : Nat) (xs : List Value) (hs : a.eval s = v) (hown : w.ownsRow base e size v n xs)
    (B : Nat) (A : Option Addr) (m c : Nat) (news : List Value) (hx : a.eval x = .slice A m c) (hr : Reads w B size A m news) (h1 : ∀ u ∈ news, u.oneCell' = true)
    (h63 : n + m ≤ maxLen) (hbytes : (n + m) * bytes ≤ 140737488355328) (hbase : base ≤ w.heap.size)
    (h : ∀ v' w', w'.ownsRow base e size v' (n + m) (xs ++ news) → w.grownBy w' v.ownBlock → (v'.ownBlock = v.ownBlock ∨ v'.ownBlock = some w.heap.size) → K (a.put o.dst v') w') :
    if Region.wanted o (yielded ops a.tmps) = true then Oper.wp P o a w K Q else E := by
  have hw : Region.wanted o (yielded ops a.tmps) = true := by simp [Region.wanted, hgd]
  rw [if_pos hw]
  exact wp_append_any w s x t ho base e i z size bytes ht hi hz hsize hby hzs hsz v n xs hs hown B A m c news hx hr h1 h63 hbytes hbase h
end

/-! ### What the library's variables hold -/
noncomputable def pow10 : String := (Tryz.prog.globals[1]?.map (·.name)).getD ""
def Env (w : World) : Prop :=
  Go.Lib.TabIs Tryz.prog w pow10 .u64 Go.Lib.pow10Tab ∧ 1 < w.heap.size ∧ (∃ m, w.cell? ⟨0, 0, none⟩ = some (.int .i64 m))
    ∧ (∃ t p, w.cell? ⟨4, 0, none⟩ = some (.iface t p)) ∧ (∃ t p, w.cell? ⟨5, 0, none⟩ = some (.iface t p)) ∧ w.cell? ⟨7, 15, none⟩ = some (.int .u8 4)

theorem lt_of_cell {w : World} {b o : Nat} {v : Value} (h : w.cell? ⟨b, o, none⟩ = some v) : b < w.heap.size := World.block_lt_of_cell? _ _ h

theorem Env.below {w w' : World} {B : Nat} (h : Env w) (hb : Below B w w') (hB : w.heap.size ≤ B) : Env w' := by
  obtain ⟨h1, h2, ⟨m, h3⟩, ⟨t, p, h4⟩, ⟨t', p', h5⟩, h6⟩ := h
  have k3 := lt_of_cell h3
  have k4 := lt_of_cell h4
  have k5 := lt_of_cell h5
  have k6 := lt_of_cell h6
  have g : Tryz.prog.globalNamed pow10 = some 1 := by kernel_rfl
  exact ⟨var?_below hb g (by omega) h1, Nat.lt_of_lt_of_le h2 (by have := hb.size; omega), ⟨m, by rw [hb.cell (p := ⟨0, 0, none⟩) (show 0 < B by omega)]; exact h3⟩,
    ⟨t, p, by rw [hb.cell (p := ⟨4, 0, none⟩) (show 4 < B by omega)]; exact h4⟩, ⟨t', p', by rw [hb.cell (p := ⟨5, 0, none⟩) (show 5 < B by omega)]; exact h5⟩, by rw [hb.cell (p := ⟨7, 15, none⟩) (show 7 < B by omega)]; exact h6⟩
theorem Env.next {w w' : World} (h : Env w) (hb : Below w.heap.size w w') : Env w' := h.below hb (Nat.le_refl _)

/-- A string of bytes. -/
abbrev mk (l : Bs) : ByteArray := ⟨l.toArray⟩
theorem mk_data (s : ByteArray) : mk s.data.toList = s := by cases s; simp
theorem of_mk (l : Bs) : (mk l).data.toList = l := by simp
theorem mk_size (l : Bs) : (mk l).size = l.length := by simp [ByteArray.size]
theorem mk_append (a b : Bs) : mk a ++ mk b = mk (a ++ b) := by
  apply ByteArray.ext; simp [ByteArray.data_append]
theorem mk_inj {a b : Bs} (h : mk a = mk b) : a = b := by rw [← of_mk a, h, of_mk]
/-- The values of words. -/
def strs (l : List Bs) : List Value := l.map fun x => .string (mk x)
theorem strs_length (l : List Bs) : (strs l).length = l.length := by simp [strs]
theorem strs_get {l : List Bs} {k : Nat} {x : Bs} (h : l[k]? = some x) : (strs l)[k]? = some (.string (mk x)) := by simp [strs, h]

end Go.Proofs.YtnnahodajiolmaaGreatDoor.sc

namespace Go.Proofs.YtnnahodajiolmaaGreatDoor.sc
open Go.RowKit Go.ChangeMaps
set_option linter.unusedVariables false

def EntsS (es : List MapEntry) (L : List (Bs × Value)) : Prop := es.map (fun e => (e.key, e.val)) = L.map (fun p => (Value.string (mk p.1), p.2))
def getS (L : List (Bs × Value)) (k : Bs) : Option Value := (L.find? (fun p => p.1 == k)).map (·.2)
/-- Block mb is a map with the entries L. -/
def MapS (w : World) (mb : Nat) (L : List (Bs × Value)) : Prop := ∃ es clock, w.heap[mb]? = some (.map es clock) ∧ EntsS es.toList L

section
variable {P : Program} {w : World} {T K E : TypeId} {mb : Nat} {L : List (Bs × Value)}
theorem MapS.lt (h : MapS w mb L) : mb < w.heap.size := by
  obtain ⟨es, clock, hb, _⟩ := h
  exact (Array.getElem?_eq_some_iff.1 hb).1
theorem MapS.same {w' : World} (h : MapS w mb L) (hs : w'.heap[mb]? = w.heap[mb]?) : MapS w' mb L := by
  obtain ⟨es, clock, hb, r⟩ := h
  exact ⟨es, clock, hs.trans hb, r⟩
theorem MapS.new (w : World) : MapS (w.alloc (.map #[] 0)) w.heap.size [] := ⟨#[], 0, heap_alloc_new w _, rfl⟩

theorem entsS_cons {e : MapEntry} {es : List MapEntry} {L : List (Bs × Value)} (h : EntsS (e :: es) L) :
    ∃ k v R, L = (k, v) :: R ∧ e.key = .string (mk k) ∧ e.val = v ∧ EntsS es R := by
  cases L with
  | nil => simp [EntsS] at h
  | cons p R =>
    simp only [EntsS, List.map_cons, List.cons.injEq, Prod.mk.injEq] at h
    exact ⟨p.1, p.2, R, rfl, h.1.1, h.1.2, h.2⟩

theorem ba_beq (a b : ByteArray) : (a == b) = (a.data == b.data) := by cases a; cases b; rfl
theorem mk_beq_no {a b : Bs} (h : a ≠ b) : (mk a == mk b) = false := by
  rw [ba_beq, Bool.eq_false_iff]
  intro e
  exact h (by simpa using eq_of_beq e)
theorem mk_beq_yes (a : Bs) : (mk a == mk a) = true := by rw [ba_beq]; exact beq_self_eq_true _

theorem findNow_none (k : Bs) : ∀ (es : List MapEntry) (L : List (Bs × Value)) (i : Nat), EntsS es L → getS L k = none →
    Instr.findNow .string (.string (mk k)) es i = some none
  | [], L, i, h, _ => rfl
  | e :: es, L, i, h, hg => by
    obtain ⟨k', v, R, rfl, hk, hv, hR⟩ := entsS_cons h
    by_cases c : k' = k
    · subst c; simp [getS] at hg
    · have c1 : (k' == k) = false := by simpa using c
      have hg' : getS R k = none := by
        simp only [getS, List.find?_cons, c1] at hg
        exact hg
      have c2 : (mk k == mk k') = false := mk_beq_no fun e => c e.symm
      simp only [Instr.findNow, Instr.sameNow, hk, c2, findNow_none k es R (i + 1) hR hg']
theorem findNow_some (k : Bs) (v : Value) : ∀ (es : List MapEntry) (L : List (Bs × Value)) (i : Nat), EntsS es L → getS L k = some v →
    ∃ j, Instr.findNow .string (.string (mk k)) es i = some (some (j, v))
  | [], L, i, h, hg => by
    have : L = [] := by cases L with | nil => rfl | cons _ _ => simp [EntsS] at h
    subst this; simp [getS] at hg
  | e :: es, L, i, h, hg => by
    obtain ⟨k', v', R, rfl, hk, hv, hR⟩ := entsS_cons h
    by_cases c : k' = k
    · subst c
      simp [getS] at hg
      subst hg
      exact ⟨i, by simp only [Instr.findNow, Instr.sameNow, hk, mk_beq_yes, hv]⟩
    · have c1 : (k' == k) = false := by simpa using c
      have hg' : getS R k = some v := by
        simp only [getS, List.find?_cons, c1] at hg
        exact hg
      have c2 : (mk k == mk k') = false := mk_beq_no fun e => c e.symm
      obtain ⟨j, hj⟩ := findNow_some k v es R (i + 1) hR hg'
      exact ⟨j, by simp only [Instr.findNow, Instr.sameNow, hk, c2, hj]⟩

theorem run_checkKey_str (hk : P.underlying K = some .string) (e : Bool) (n : Nat) (k : ByteArray) : (Instr.checkKey e (n + 1) K (.string k)).run P w = .ok () w := by
  simp [Instr.checkKey, run_underlying hk]

theorem run_insert_str (h : MapS w mb L) (ht : P.underlying T = some (.map K E)) (hk : P.underlying K = some .string) (k : Bs) (hg : getS L k = none) (v : Value) :
    ∃ w', (Instr.mapUpdate T (.map (some mb)) (.string (mk k)) v).run P w = .ok () w' ∧ MapS w' mb (L ++ [(k, v)]) ∧ (∀ B, B ≤ mb → Below B w w') := by
  have hlt := h.lt
  obtain ⟨es, clock, hb, he⟩ := h
  refine ⟨setBlock w mb (.map (es.push { key := .string (mk k), val := v, born := clock }) (clock + 1)), ?_, ⟨_, _, by simp [setBlock, hlt]; exact ⟨rfl, rfl⟩, ?_⟩, fun B hB => ?_⟩
  · simp [Instr.mapUpdate, run_underlying ht, MapKept.run_getObj_map hb, run_checkKey_str hk, Instr.findKey, run_underlying hk, findNow_none k _ L 0 he hg, MapKept.run_setObj_map _ hb, setBlock]
  · simp only [EntsS, Array.toList_push, List.map_append, List.map_cons, List.map_nil] at he ⊢
    rw [he]
  · exact ⟨rfl, rfl, rfl, by simp [setBlock], fun b hb' => by simp [setBlock, show ¬ mb = b by omega]⟩

theorem run_lookup2_str (h : MapS w mb L) (ht : P.underlying T = some (.map K E)) (hk : P.underlying K = some .string) {z : Value} (hz : (zeroValue E).run P w = .ok z w) (k : Bs) :
    (Instr.lookup T (.map (some mb)) (.string (mk k)) true).run P w = .ok (.tuple #[(getS L k).getD z, .bool (getS L k).isSome]) w := by
  obtain ⟨es, clock, hb, he⟩ := h
  cases hg : getS L k with
  | none => simp [Instr.lookup, run_underlying ht, MapKept.run_getObj_map hb, run_checkKey_str hk, Instr.findKey, run_underlying hk, findNow_none k _ L 0 he hg, hz]
  | some v =>
    obtain ⟨j, hj⟩ := findNow_some k v _ L 0 he hg
    simp [Instr.lookup, run_underlying ht, MapKept.run_getObj_map hb, run_checkKey_str hk, Instr.findKey, run_underlying hk, hj]
end

end Go.Proofs.YtnnahodajiolmaaGreatDoor.sc
