/-
  PROVED HERE: an operation that only looks, or makes a block, gives what the evaluator says.
  Conditions: none.
-/
import Derived.Below
import Derived.Calls
import Derived.Laws.Sem
import Derived.Laws.Strings
import Derived.Laws.StructEq
import Derived.Laws.BytesString
import Derived.Test.YtaipbfbmdlkcpaaGreatDoorLevA
namespace Go.Lev
open Go
/-! ### what only looks -/
structure TIok (P : Program) (t : Nat) (i : TI) : Prop where
  info : ∃ f, P.info? t = some f ∧ f.size = i.size ∧ f.bytes = i.bytes ∧ f.methods = i.meths ∧ (i.zok = true → ∃ z, f.zero = some z ∧ i.zv = absV z)
  und : P.underlying t = some i.u
  agg : i.agg = (match i.u with | .struct _ => true | .array _ _ => true | _ => false)
  zero : i.zero = i.zv.cells
  any : i.zok = true → i.zv ≠ .any
  sih : i.sih = P.stoodInHeld t
  egt : i.egt = P.eqGuardType P.depth t

structure FIok (P : Program) (f : Nat) (i : FI) : Prop where
  fn : ∃ fn, P.funcs[f]? = some fn ∧ (i.ok = true → fn.body = some i.body ∧ (fn.name == "runtime.NumGoroutine") = false) ∧ fn.ntmps = i.nt ∧ fn.results.toList = i.res

/-- the functions of the library without a body that the evaluator goes through -/
def xtOf : Nat → Option (Array Value → Sem Value)
  | 1 => some Extern.MapsClone.clone
  | 2 => some Extern.BytealgCount.count
  | 3 => some Extern.BytealgIndexByte.indexByte
  | _ => none
def XtOk (P : Program) (f n : Nat) : Prop :=
  ∃ fn, P.funcs[f]? = some fn ∧ fn.body = none ∧ (fn.name == "runtime.NumGoroutine") = false ∧ Extern.findNext fn = none ∧ Extern.find fn = xtOf n
/-- what strings.Join comes to -/
def JoinOk (P : Program) (f : Nat) : Prop :=
  ∀ (bk o c : Nat) (xs : List ByteArray) (sep : ByteArray) (w : World), (∀ (j : Nat) x, xs[j]? = some x → w.cell? ⟨bk, o + j, none⟩ = some (.string x)) → bk < w.heap.size → xs.length ≤ 100000 → xs.length ≤ c →
    (joinF sep.data.toList (xs.map (·.data.toList))).length ≤ 1000000 →
    Calls P f #[.slice (some ⟨bk, o, none⟩) xs.length c, .string sep] w fun e w' => e = .returned (.string ⟨(joinF sep.data.toList (xs.map (·.data.toList))).toArray⟩) ∧ RowKit.Below w.heap.size w w'
/-- the functions that go by their contracts -/
def PrOk (P : Program) (f : Nat) : Nat → Prop
  | 1 => JoinOk P f
  | _ => True

structure CtxOk (P : Program) (C : Ctx) : Prop where
  ty : ∀ t i, C.ti t = some i → TIok P t i
  fs : ∀ f i, C.fi f = some i → FIok P f i
  mixed : P.follows .mixedOrders = true
  ext : ∀ f n, findPr f C.xt = some n → XtOk P f n
  prim : ∀ f n, findPr f C.pr = some n → PrOk P f n

section
variable {P : Program} {t : Nat} {i : TI}
theorem TIok.run_und (hi : TIok P t i) (w : World) : (underlying t).run P w = .ok i.u w := by simp [underlying, hi.und]
theorem TIok.run_isAgg (hi : TIok P t i) (w : World) : (isAgg t).run P w = .ok i.agg w := by
  unfold isAgg; rw [Sem.run_bind, hi.run_und, Result.andThen_ok, hi.agg]
  cases i.u <;> rfl
theorem TIok.run_size (hi : TIok P t i) (w : World) : (sizeOf t).run P w = .ok i.size w := by
  obtain ⟨f, hf, h1, _⟩ := hi.info; simp [sizeOf, typeInfo, hf, h1]
theorem TIok.run_info (hi : TIok P t i) (w : World) : ∃ f, (typeInfo t).run P w = .ok f w ∧ f.size = i.size ∧ f.bytes = i.bytes ∧ f.methods = i.meths := by
  obtain ⟨f, hf, h1, h2, h3, _⟩ := hi.info; exact ⟨f, by simp [typeInfo, hf], h1, h2, h3⟩
theorem TIok.run_bytes (hi : TIok P t i) (w : World) {α : Type} (g : Nat → Sem α) : ((typeInfo t >>= fun f => g f.bytes) : Sem α).run P w = (g i.bytes).run P w := by
  obtain ⟨f, hf, h1, h2, h3⟩ := hi.run_info w; simp [hf, h2]
theorem TIok.run_zero (hi : TIok P t i) (w : World) (hz : i.zok = true) : ∃ z, (zeroValue t).run P w = .ok z w ∧ i.zv = absV z := by
  obtain ⟨f, hf, h1, h2, h3, h4⟩ := hi.info; obtain ⟨z, hz, e⟩ := h4 hz; exact ⟨z, by simp [zeroValue, typeInfo, hf, hz], e⟩
theorem TIok.run_zeroV (hi : TIok P t i) (w : World) {v : V} (ε : Env) (hz : zeroV i = some v) : ∃ z, (zeroValue t).run P w = .ok z w ∧ VR ε v z := by
  unfold zeroV at hz
  cases e : i.zok with
  | false => simp [e] at hz
  | true =>
    simp only [e, Option.some.injEq] at hz; subst hz
    obtain ⟨z, h1, h2⟩ := hi.run_zero w e
    exact ⟨z, h1, by rw [h2]; exact VR_absV ε z⟩
theorem TIok.run_zeroCells (hi : TIok P t i) (w : World) (ε : Env) (hz : i.zok = true) : ∃ z, (zeroValue t).run P w = .ok z w ∧ VRs ε i.zero z.cells.toList := by
  obtain ⟨z, h1, h2⟩ := hi.run_zero w hz
  refine ⟨z, h1, ?_⟩
  rw [hi.zero]
  exact VR.cells (by rw [h2]; exact VR_absV ε z) (hi.any hz)
end

theorem add_addr (c o i : Nat) : (⟨c, o, none⟩ : Addr).add i = ⟨c, o + i, none⟩ := by
  unfold Addr.add; split <;> simp_all

/-- a value that the machine reads without turning anything -/
def QS (P : Program) (ε : Env) (w : World) (s : Sem Value) (v : V) : Prop := ∃ y, s.run P w = .ok y w ∧ VR ε v y

theorem cell_of {w : World} {c o : Nat} {C : Array Value} {e : Nat} {fz : Nat × Nat} (h : w.heap[c]? = some (.cells C e fz)) : w.cell? ⟨c, o, none⟩ = C[o]? := by
  simp [World.cell?, h]
theorem run_load_cell {P : Program} {w : World} {a : Addr} {v : Value} (h : w.cell? a = some v) : (load a).run P w = .ok v w := by
  rw [run_load]; simp [h]

theorem run_loadCellsFrom {P : Program} {ε : Env} {w : World} {c : Nat} {C : Array Value} {e : Nat} {fz : Nat × Nat} (hc : w.heap[c]? = some (.cells C e fz)) (cs : T V) (o : Nat) :
    ∀ (n i : Nat) (acc : Array Value), (∀ j, j < n → ∃ x, C[o + i + j]? = some x ∧ VR ε (cs.get .any (o + i + j)) x) →
    ∃ ys, (loadCellsFrom ⟨c, o, none⟩ i n acc).run P w = .ok (acc ++ ys.toArray) w ∧ VRs ε (row cs n (o + i)) ys
  | 0, i, acc, _ => ⟨[], by simp [loadCellsFrom], by simp [row, VRs]⟩
  | n + 1, i, acc, h => by
    obtain ⟨x, hx, hv⟩ := h 0 (by omega)
    obtain ⟨ys, h1, h2⟩ := run_loadCellsFrom hc cs o n (i + 1) (acc.push x) (fun j hj => by
      have := h (j + 1) (by omega); rwa [show o + i + (j + 1) = o + (i + 1) + j by omega] at this)
    refine ⟨x :: ys, ?_, ?_⟩
    · unfold loadCellsFrom
      rw [Sem.run_bind, add_addr, run_load_cell (by rw [cell_of hc]; simpa using hx), Result.andThen_ok, h1]
      congr 1
      apply Array.ext'; simp
    · simp only [row]
      exact VRs.cons (by simpa using hv) (by simpa [Nat.add_assoc] using h2)

theorem run_loadCells {P : Program} {ε : Env} {w : World} {c : Nat} {C : Array Value} {e : Nat} {fz : Nat × Nat} (hc : w.heap[c]? = some (.cells C e fz)) (cs : T V) (o n m : Nat)
    (hk : ∀ i, i < m → ∃ x, C[i]? = some x ∧ VR ε (cs.get .any i) x) (hn : o + n ≤ m) :
    ∃ ys, (loadCells ⟨c, o, none⟩ n).run P w = .ok ys.toArray w ∧ VRs ε (row cs n o) ys := by
  obtain ⟨ys, h1, h2⟩ := run_loadCellsFrom (P := P) hc cs o n 0 #[] (fun j hj => by simpa using hk (o + j) (by omega))
  exact ⟨ys, by unfold loadCells; rw [h1]; simp, by simpa using h2⟩

theorem loadOb_sound {P : Program} {C : Ctx} (hC : CtxOk P C) {ε : Env} {h : Hp} {w : World} (hr : HR ε h w) {t b c o : Nat} {v : V}
    (hf : loadOb (C.ti t) o (h.get b) = some v) (hc : ε.φ b = some c) : QS P ε w (Instr.loadAt t (.pointer (some ⟨c, o, none⟩))) v := by
  unfold loadOb at hf
  split at hf
  · rename_i e sz n cs ex tl hob
    split at hf
    · cases hf
    · rename_i i hi
      have hi := hC.ty _ _ hi
      obtain ⟨o', ho', hro⟩ := hr.blk b c hc
      rw [hob] at hro
      obtain ⟨Cc, fz, rfl, hk, _⟩ := hro
      unfold QS Instr.loadAt Instr.sureAddr loadVar
      simp only [pure_bind]
      unfold loadTi at hf
      split at hf
      · rename_i hag
        unfold loadOne at hf
        split at hf
        · rename_i hlt
          cases hf
          obtain ⟨y, hy, hv⟩ := hk o (by simpa [Nat.blt_eq] using hlt)
          refine ⟨y, ?_, hv⟩
          rw [Sem.run_bind, hi.run_isAgg, Result.andThen_ok, hag]
          simp only [Bool.false_eq_true, if_false]
          exact run_load_cell (by rw [cell_of ho']; exact hy)
        · cases hf
      · rename_i hag
        unfold loadRow at hf
        split at hf
        · rename_i hle
          cases hf
          obtain ⟨ys, h1, h2⟩ := run_loadCells (P := P) ho' cs o i.size n hk (by simpa using hle)
          refine ⟨.agg ys.toArray, ?_, by rw [VR]; exact ⟨ys, h2, rfl⟩⟩
          rw [Sem.run_bind, hi.run_isAgg, Result.andThen_ok, hag]
          simp [hi.run_size, h1]
        · cases hf
  · cases hf

theorem loadF_sound {P : Program} {C : Ctx} (hC : CtxOk P C) {ε : Env} {h : Hp} {w : World} (hr : HR ε h w) {t : Nat} {a v : V} {x : Value}
    (hf : loadF C h t a = some v) (hx : VR ε a x) : QS P ε w (Instr.loadAt t x) v := by
  unfold loadF at hf
  split at hf
  · rw [VR] at hx; obtain ⟨c, hc, rfl⟩ := hx
    exact loadOb_sound hC hr hf hc
  · split at hf
    · rename_i hlt
      rw [VR] at hx; subst hx
      exact loadOb_sound hC hr hf (hr.gl _ (by simpa [Nat.blt_eq] using hlt))
    · cases hf
  · cases hf
end Go.Lev
namespace Go.Lev
open Go
section
variable {P : Program} {C : Ctx} {ε : Env} {w : World}

theorem fieldsOf_some (hC : CtxOk P C) {t f : Nat} {fd : Field} (h : fieldsOf (C.ti t) f = some fd) : ∃ fs, (∀ w, (underlying t).run P w = .ok (.struct fs) w) ∧ fs[f]? = some fd := by
  unfold fieldsOf at h
  split at h
  · cases h
  · rename_i i hi
    have hi := hC.ty _ _ hi
    split at h
    · rename_i fs hu
      exact ⟨fs, fun w => by rw [hi.run_und, hu], h⟩
    · cases h

theorem fieldAddrF_sound (hC : CtxOk P C) {t f : Nat} {a v : V} {x : Value} (hf : fieldAddrF C t a f = some v) (hx : VR ε a x) : QS P ε w (Instr.fieldAt t x f) v := by
  unfold fieldAddrF at hf
  split at hf
  · rename_i b o
    rw [VR] at hx; obtain ⟨c, hc, rfl⟩ := hx
    unfold fieldAddr1 at hf
    split at hf
    · cases hf
    · rename_i fd hfd
      obtain ⟨fs, h1, h2⟩ := fieldsOf_some hC hfd
      unfold fieldAddr2 at hf
      split at hf
      · cases hf
      · rename_i j hj
        have hj := hC.ty _ _ hj
        split at hf
        · cases hf
        · rename_i hz
          cases hf
          refine ⟨.pointer (some ⟨c, o + fd.offset, none⟩), ?_, by rw [VR]; exact ⟨c, hc, rfl⟩⟩
          have hz' : j.size ≠ 0 := fun e => by rw [e] at hz; simp at hz
          unfold Instr.fieldAt
          simp [h1, h2, Instr.sureAddr, fieldPlace, hj.run_size, hz', add_addr]
  · cases hf

theorem nilOk_sound {a v : V} {x : Value} (hf : nilOk a = some v) (hx : VR ε a x) {ρ : Operand → Value} {o : Oper} {p : Operand} (ho : o.op = .nilCheck p) (hp : ρ p = x) :
    ∃ y, (execOp ρ o).run P w = .ok (.value y) w ∧ VR ε v y := by
  unfold nilOk at hf
  split at hf
  · cases hf
    have hx' := hx
    rw [VR] at hx; obtain ⟨c, hc, rfl⟩ := hx
    exact ⟨_, by simp [execOp, ho, hp], hx'⟩
  · cases hf
    have hx' := hx
    rw [VR] at hx; obtain ⟨c, hc, rfl⟩ := hx
    exact ⟨_, by simp [execOp, ho, hp], hx'⟩
  · cases hf
    have hx' := hx
    rw [VR] at hx; obtain ⟨_, a', b', _, _, rfl⟩ := hx
    exact ⟨_, by simp [execOp, ho, hp], hx'⟩
  · cases hf
    have hx' := hx
    rw [VR] at hx; obtain ⟨c, hc, rfl⟩ := hx
    exact ⟨_, by simp [execOp, ho, hp], hx'⟩
  · cases hf

theorem natIdx_some {k : V} {n : Nat} (h : natIdx k = some n) : ∃ kk, k = .int kk n := by
  unfold natIdx at h
  split at h
  · split at h
    · cases h; exact ⟨_, rfl⟩
    · cases h
  · cases h

theorem elemAddr_some (hC : CtxOk P C) {b o n len e : Nat} {v : V} (h : elemAddr b o n len (C.ti e) = some v) : ∃ j, TIok P e j ∧ n < len ∧ v = .ptr b (o + n * j.size) := by
  unfold elemAddr at h
  split at h
  · cases h
  · rename_i j hj
    split at h
    · rename_i hlt
      cases h
      exact ⟨j, hC.ty _ _ hj, by simpa [Nat.blt_eq] using hlt, rfl⟩
    · cases h
theorem elemAddrG_some (hC : CtxOk P C) {b o n len e : Nat} {v : V} (h : elemAddrG b o n len (C.ti e) = some v) : ∃ j, TIok P e j ∧ n < len ∧ v = .glob b (o + n * j.size) := by
  unfold elemAddrG at h
  split at h
  · cases h
  · rename_i j hj
    split at h
    · rename_i hlt
      cases h
      exact ⟨j, hC.ty _ _ hj, by simpa [Nat.blt_eq] using hlt, rfl⟩
    · cases h

theorem indexAddrF_sound (hC : CtxOk P C) {t : Nat} {a k v : V} {x y : Value} (hf : indexAddrF C t a k = some v) (hx : VR ε a x) (hy : VR ε k y) : QS P ε w (Instr.indexAt t x y) v := by
  unfold indexAddrF at hf
  split at hf
  · rename_i n hn
    obtain ⟨kk, rfl⟩ := natIdx_some hn
    rw [VR] at hy; subst hy
    unfold indexAddr1 at hf
    split at hf
    · cases hf
    · rename_i i hi
      have hi := hC.ty _ _ hi
      unfold indexAddr2 at hf
      split at hf
      · rename_i len e hu
        split at hf
        · rename_i b o
          rw [VR] at hx; obtain ⟨c, hc, rfl⟩ := hx
          obtain ⟨j, hj, hlt, rfl⟩ := elemAddr_some hC hf
          refine ⟨.pointer (some ⟨c, o + n * j.size, none⟩), ?_, by rw [VR]; exact ⟨c, hc, rfl⟩⟩
          unfold Instr.indexAt
          simp [asIntOf, hi.run_und, hu, Instr.sureAddr, hlt, hj.run_size, add_addr]
        · rename_i g o
          rw [VR] at hx; subst hx
          obtain ⟨j, hj, hlt, rfl⟩ := elemAddrG_some hC hf
          refine ⟨.pointer (some ⟨g, o + n * j.size, none⟩), ?_, by rw [VR]⟩
          unfold Instr.indexAt
          simp [asIntOf, hi.run_und, hu, Instr.sureAddr, hlt, hj.run_size, add_addr]
        · cases hf
      · rename_i e hu
        split at hf
        · rename_i b o d len cp
          split at hf
          · rename_i hd
            rw [VR] at hx; obtain ⟨c, Cc, hc, hcap, hn', rfl⟩ := hx
            obtain ⟨j, hj, hlt, rfl⟩ := elemAddr_some hC hf
            have hd : d = 0 := beq_nat hd
            subst hd
            refine ⟨.pointer (some ⟨c, o + n * j.size, none⟩), ?_, by rw [VR]; exact ⟨c, hc, rfl⟩⟩
            unfold Instr.indexAt
            simp [asIntOf, hi.run_und, hu, hlt, hj.run_size, add_addr]
          · cases hf
        · cases hf
      · cases hf
  · cases hf

/-- a part of a value's cells -/
theorem partV_sound {t off : Nat} {j : TI} (hj : TIok P t j) {l : List V} {v : V} {ys : List Value} (hf : partV j l off = some v) (hl : VRs ε l ys) : QS P ε w (part t ys.toArray off) v := by
  unfold partV at hf
  unfold QS part
  rw [Sem.run_bind, hj.run_isAgg, Result.andThen_ok]
  split at hf
  · rename_i hag
    rw [hag]
    split at hf
    · rename_i r hr
      cases hf
      unfold lslice at hr
      dsimp only at hr
      split at hr
      · cases hr
        refine ⟨.agg ((ys.drop off).take j.size).toArray, ?_, by rw [VR]; exact ⟨_, (hl.drop off).take j.size, rfl⟩⟩
        simp [hj.run_size, List.extract_eq_take_drop]
      · cases hr
    · cases hf
  · rename_i hag
    rw [hag]
    obtain ⟨y, hy, hv⟩ := hl.get hf
    exact ⟨y, by simp [hy], hv⟩

theorem fieldF_sound (hC : CtxOk P C) {t f : Nat} {a v : V} {x : Value} (hf : fieldF C t a f = some v) (hx : VR ε a x) : QS P ε w (Instr.field t x f) v := by
  unfold fieldF at hf
  split at hf
  · rename_i l
    rw [VR] at hx; obtain ⟨ys, hys, rfl⟩ := hx
    split at hf
    · cases hf
    · rename_i i hi
      have hi := hC.ty _ _ hi
      split at hf
      · rename_i fs hu
        split at hf
        · cases hf
        · rename_i fd hfd
          split at hf
          · cases hf
          · rename_i j hj
            have hj := hC.ty _ _ hj
            obtain ⟨y, h1, h2⟩ := partV_sound (w := w) hj hf hys
            refine ⟨y, ?_, h2⟩
            unfold Instr.field
            simp [hi.run_und, hu, hfd, asAgg, h1]
      · cases hf
  · cases hf

theorem indexF_sound (hC : CtxOk P C) {t : Nat} {a k v : V} {x y : Value} (hf : indexF C t a k = some v) (hx : VR ε a x) (hy : VR ε k y) : QS P ε w (Instr.index t x y) v := by
  unfold indexF at hf
  split at hf
  · rename_i kk n
    rw [VR] at hy; subst hy
    split at hf
    · cases hf
    · rename_i i hi
      have hi := hC.ty _ _ hi
      split at hf
      · rename_i len e l hu
        rw [VR] at hx; obtain ⟨ys, hys, rfl⟩ := hx
        split at hf
        · rename_i j hlt hj
          have hj := hC.ty _ _ hj
          obtain ⟨z, h1, h2⟩ := partV_sound (w := w) hj hf hys
          refine ⟨z, ?_, h2⟩
          have hlt : n < len := by simpa [Nat.blt_eq] using hlt
          unfold Instr.index
          simp [asIntOf, hi.run_und, hu, hlt, hj.run_size]
          exact h1
        · cases hf
      · rename_i s hu
        rw [VR] at hx; subst hx
        split at hf
        · rename_i b hb
          cases hf
          refine ⟨.int .u8 b.toNat, ?_, by rw [VR]; rfl⟩
          have hb' : (ByteArray.mk s.toArray)[n]? = some b := by
            obtain ⟨hl, hv⟩ := List.getElem?_eq_some_iff.1 hb
            have hl' : n < (ByteArray.mk s.toArray).size := by simpa [ByteArray.size] using hl
            rw [getElem?_pos (ByteArray.mk s.toArray) n hl', ← hv]
            rfl
          unfold Instr.index
          simp [asIntOf, hi.run_und, hu, hb']
        · cases hf
      · cases hf
  · cases hf

theorem tupAt_sound {n : Nat} {a v : V} {x : Value} (hf : tupAt n a = some v) (hx : VR ε a x) : QS P ε w (Instr.extract x n) v := by
  unfold tupAt at hf
  split at hf
  · rw [VR] at hx; obtain ⟨ys, hys, rfl⟩ := hx
    obtain ⟨y, hy, hv⟩ := hys.get hf
    exact ⟨y, by unfold Instr.extract; simp [hy], hv⟩
  · cases hf

theorem ifcOf_sound (hC : CtxOk P C) {t : Nat} {a v : V} {x : Value} (hf : ifcOf t a (C.ti t) = some v) (hx : VR ε a x) : QS P ε w (Instr.makeInterface t x) v := by
  unfold ifcOf at hf
  split at hf
  · rename_i i hi
    have hi := hC.ty _ _ hi
    split at hf
    · cases hf
    · rename_i hu
      cases hf
      refine ⟨.iface t x, ?_, by rw [VR]; exact ⟨x, hx, rfl⟩⟩
      unfold Instr.makeInterface
      rw [Sem.run_bind, hi.run_und, Result.andThen_ok]
      split
      · rename_i ms hms; exact absurd hms (hu ms)
      · rfl
  · cases hf

theorem s2ap_sound (hC : CtxOk P C) {t : Nat} {a v : V} {x : Value} (hf : s2ap a (C.ti t) = some v) (hx : VR ε a x) : QS P ε w (Instr.arrayAt t x) v := by
  unfold s2ap at hf
  split at hf
  · rename_i i hi
    have hi := hC.ty _ _ hi
    split at hf
    · rename_i n e b o d len cp hu
      rw [VR] at hx; obtain ⟨c, Cc, hc, hcap, hn', rfl⟩ := hx
      split at hf
      · rename_i h1 h2
        cases hf
        have hd : d = 0 := beq_nat h2
        subst hd
        have h1 : n ≤ len := by simpa using h1
        refine ⟨.pointer (some ⟨c, o, none⟩), ?_, by rw [VR]; exact ⟨c, hc, rfl⟩⟩
        unfold Instr.arrayAt
        simp [hi.run_und, hu, show ¬ len < n by omega]
      · cases hf
    · cases hf
  · cases hf
end
end Go.Lev
namespace Go.Lev
open Go
/-! ### arithmetic and comparisons -/
theorem wrapF_eq (k : IntKind) (n : Int) : wrapF k n = k.wrap n := by
  unfold wrapF
  split
  · rename_i m
    split
    · rename_i h
      rw [Nat.blt_eq] at h
      cases k <;> simp [IntKind.wrap, IntKind.bits, IntKind.signed] at h ⊢ <;> omega
    · rfl
  · rfl

theorem run_pureV {P : Program} {w : World} {ε : Env} {v : V} {y : Value} (h : VR ε v y) : QS P ε w (pure y) v := ⟨y, rfl, h⟩
theorem VR_int (ε : Env) (k : IntKind) (n : Int) : VR ε (.int k n) (.int k n) := by rw [VR]
theorem VR_bool (ε : Env) (b : Bool) : VR ε (.bool b) (.bool b) := by rw [VR]

theorem ofInt_nat (n a : Nat) : (BitVec.ofInt n (Int.ofNat a)) = BitVec.ofNat n a := by
  apply BitVec.eq_of_toNat_eq; simp

theorem bitB_sound {P : Program} {ε : Env} {w : World} (op : BinOp) (f : Nat → Nat → Nat) (slow : IntKind → Int → Int → Int)
    (hslow : ∀ k x y, QS P ε w (Op.intBits op k x y) (.int k (slow k x y)))
    (hfast : ∀ (k : IntKind) (a b : Nat), a < 18446744073709551616 → b < 18446744073709551616 → k.bits = 64 → slow k (.ofNat a) (.ofNat b) = k.wrap (.ofNat (f a b)))
    {k : IntKind} {x y : Int} {v : V} (h : bitB f slow k x y = some v) : QS P ε w (Op.intBits op k x y) v := by
  unfold bitB at h
  split at h
  · rename_i a b
    split at h
    · rename_i h1 h2 h3
      cases h
      have h1 : a < 18446744073709551616 := by simpa [Nat.blt_eq, natLim] using h1
      have h2 : b < 18446744073709551616 := by simpa [Nat.blt_eq, natLim] using h2
      have h3 : k.bits = 64 := by
        have := Nat.le_of_ble_eq_true h3
        cases k <;> simp [IntKind.bits] at this ⊢
      have := hslow k (.ofNat a) (.ofNat b)
      rw [hfast k a b h1 h2 h3, ← wrapF_eq] at this
      exact this
    · cases h; exact hslow _ _ _
  · cases h; exact hslow _ _ _

theorem fast_and (k : IntKind) (a b : Nat) (ha : a < 18446744073709551616) (hb : b < 18446744073709551616) (hk : k.bits = 64) : slowAnd k (.ofNat a) (.ofNat b) = k.wrap (.ofNat (Nat.land a b)) := by
  unfold slowAnd
  rw [ofInt_nat, ofInt_nat, BitVec.toNat_and, BitVec.toNat_ofNat, BitVec.toNat_ofNat, hk, Nat.mod_eq_of_lt (by simpa using ha), Nat.mod_eq_of_lt (by simpa using hb)]; rfl
theorem fast_or (k : IntKind) (a b : Nat) (ha : a < 18446744073709551616) (hb : b < 18446744073709551616) (hk : k.bits = 64) : slowOr k (.ofNat a) (.ofNat b) = k.wrap (.ofNat (Nat.lor a b)) := by
  unfold slowOr
  rw [ofInt_nat, ofInt_nat, BitVec.toNat_or, BitVec.toNat_ofNat, BitVec.toNat_ofNat, hk, Nat.mod_eq_of_lt (by simpa using ha), Nat.mod_eq_of_lt (by simpa using hb)]; rfl
theorem fast_xor (k : IntKind) (a b : Nat) (ha : a < 18446744073709551616) (hb : b < 18446744073709551616) (hk : k.bits = 64) : slowXor k (.ofNat a) (.ofNat b) = k.wrap (.ofNat (Nat.xor a b)) := by
  unfold slowXor
  rw [ofInt_nat, ofInt_nat, BitVec.toNat_xor, BitVec.toNat_ofNat, BitVec.toNat_ofNat, hk, Nat.mod_eq_of_lt (by simpa using ha), Nat.mod_eq_of_lt (by simpa using hb)]; rfl

section
variable {P : Program} {C : Ctx} {ε : Env} {w : World}

theorem dec_le (x y : Int) : decide (x ≤ y) = !decide (y < x) := by rw [Bool.eq_iff_iff]; simp
theorem ite_iEq {y : Int} (h : iEq y 0 = false) : y ≠ 0 := fun e => by rw [iEq_iff.2 e] at h; cases h

theorem intOp_sound {op : BinOp} {k : IntKind} {x y : Int} {v : V} {t : Nat} (h : intOp op k x y = some v) : QS P ε w (binOp op t (.int k x) (.int k y)) v := by
  cases op <;> simp only [intOp] at h
  case add => cases h; exact ⟨_, by simp [binOp, Op.intArith]; rfl, by rw [VR, wrapF_eq]; rfl⟩
  case sub => cases h; exact ⟨_, by simp [binOp, Op.intArith]; rfl, by rw [VR, wrapF_eq]; rfl⟩
  case mul => cases h; exact ⟨_, by simp [binOp, Op.intArith]; rfl, by rw [VR, wrapF_eq]; rfl⟩
  case quo =>
    unfold iQuo at h
    split at h
    · cases h
    · rename_i hz; cases h
      have hz := ite_iEq hz
      exact ⟨_, by simp [binOp, Op.intDiv, hz]; rfl, by rw [VR, wrapF_eq]⟩
  case rem =>
    unfold iRem at h
    split at h
    · cases h
    · rename_i hz; cases h
      have hz := ite_iEq hz
      exact ⟨_, by simp [binOp, Op.intDiv, hz]; rfl, by rw [VR]⟩
  case and =>
    have := bitB_sound (P := P) (ε := ε) (w := w) .and Nat.land slowAnd (fun k x y => ⟨_, by simp [Op.intBits]; rfl, by rw [VR]; rfl⟩) fast_and h
    simpa [binOp] using this
  case or =>
    have := bitB_sound (P := P) (ε := ε) (w := w) .or Nat.lor slowOr (fun k x y => ⟨_, by simp [Op.intBits]; rfl, by rw [VR]; rfl⟩) fast_or h
    simpa [binOp] using this
  case xor =>
    have := bitB_sound (P := P) (ε := ε) (w := w) .xor Nat.xor slowXor (fun k x y => ⟨_, by simp [Op.intBits]; rfl, by rw [VR]; rfl⟩) fast_xor h
    simpa [binOp] using this
  case shl => cases h
  case shr => cases h
  case andNot => cases h; exact ⟨_, by simp only [binOp, ne_eq, not_true_eq_false, if_false, Op.intBits]; rfl, by rw [VR]⟩
  case eql => cases h; exact ⟨_, by simp [binOp, Op.intCmp]; rfl, by rw [VR, iEq_eq]⟩
  case neq => cases h; exact ⟨_, by simp [binOp, Op.intCmp]; rfl, by rw [VR, iEq_eq]; rfl⟩
  case lss => cases h; exact ⟨_, by simp [binOp, Op.intCmp]; rfl, by rw [VR, iLt_eq]⟩
  case leq => cases h; exact ⟨_, by simp [binOp, Op.intCmp]; rfl, by rw [VR, iLt_eq, dec_le]⟩
  case gtr => cases h; exact ⟨_, by simp [binOp, Op.intCmp]; rfl, by rw [VR, iLt_eq]⟩
  case geq => cases h; exact ⟨_, by simp [binOp, Op.intCmp]; rfl, by rw [VR, iLt_eq, dec_le]⟩

theorem shl_sound {k kj : IntKind} {x y : Int} {v : V} {t : Nat} (h : shlF k x y = some v) : QS P ε w (binOp .shl t (.int k x) (.int kj y)) v := by
  unfold shlF at h
  split at h
  · cases h
  · rename_i m; cases h
    refine ⟨_, by simp [binOp, Op.shift]; rfl, ?_⟩
    rw [VR, wrapF_eq]
    congr 2
theorem shr_sound {k kj : IntKind} {x y : Int} {v : V} {t : Nat} (h : shrF k x y = some v) : QS P ε w (binOp .shr t (.int k x) (.int kj y)) v := by
  unfold shrF at h
  split at h
  · cases h
  · rename_i m
    split at h
    · rename_i a; cases h
      refine ⟨_, by simp [binOp, Op.shift]; rfl, ?_⟩
      rw [VR]
      congr 1
      rw [show (2 : Int) ^ min m k.bits = ((2 ^ min m k.bits : Nat) : Int) by simp]
      exact (Int.ofNat_fdiv _ _).symm
    · rename_i a; cases h
      refine ⟨_, by simp [binOp, Op.shift]; rfl, ?_⟩
      rw [VR]

theorem bytesLt_eq (a b : List UInt8) : bytesLt a b = Op.bytesLess a b := by
  induction a generalizing b with
  | nil => cases b <;> rfl
  | cons x a ih => cases b with
    | nil => rfl
    | cons y b => simp [bytesLt, Op.bytesLess, ih]

theorem toList_mk (l : List UInt8) : (ByteArray.mk l.toArray).toList = l := by
  simp [ByteArray.toList_eq]
end
end Go.Lev
namespace Go.Lev
open Go
section
variable {P : Program} {C : Ctx} {ε : Env} {w : World}

theorem mk_append (a b : List UInt8) : ByteArray.mk a.toArray ++ ByteArray.mk b.toArray = ByteArray.mk (a ++ b).toArray := by
  apply ByteArray.ext
  simp

theorem strOp_sound {op : BinOp} {a b : List UInt8} {v : V} {t : Nat} (h : strOp op a b = some v) : QS P ε w (binOp op t (.string ⟨a.toArray⟩) (.string ⟨b.toArray⟩)) v := by
  have hb : ∀ o : BinOp, o ≠ .shl → o ≠ .shr → binOp o t (.string ⟨a.toArray⟩) (.string ⟨b.toArray⟩) = Op.stringOp o ⟨a.toArray⟩ ⟨b.toArray⟩ := by
    intro o h1 h2; cases o <;> first | rfl | exact absurd rfl h1 | exact absurd rfl h2
  cases op <;> simp only [strOp] at h
  case add =>
    split at h
    · rename_i hl
      cases h
      rw [Nat.blt_eq] at hl
      refine ⟨.string ⟨(a ++ b).toArray⟩, ?_, by rw [VR]⟩
      rw [hb _ (by simp) (by simp)]
      have : ¬ (((ByteArray.mk a.toArray).size + (ByteArray.mk b.toArray).size : Nat) : Int) > IntKind.i64.max := by
        simp [ByteArray.size, IntKind.max, IntKind.signed, IntKind.bits]; omega
      simp only [Op.stringOp, this, if_false, mk_append]
      rfl
    · cases h
  case eql => cases h; exact ⟨_, by rw [hb _ (by simp) (by simp)]; simp [Op.stringOp]; rfl, by rw [VR, bytesEq_eq]⟩
  case neq => cases h; exact ⟨_, by rw [hb _ (by simp) (by simp)]; simp [Op.stringOp]; rfl, by rw [VR, bytesEq_eq]⟩
  case lss => cases h; exact ⟨_, by rw [hb _ (by simp) (by simp)]; simp [Op.stringOp]; rfl, by rw [VR, bytesLt_eq]⟩
  case leq => cases h; exact ⟨_, by rw [hb _ (by simp) (by simp)]; simp [Op.stringOp]; rfl, by rw [VR, bytesLt_eq, bytesEq_eq]⟩
  case gtr => cases h; exact ⟨_, by rw [hb _ (by simp) (by simp)]; simp [Op.stringOp]; rfl, by rw [VR, bytesLt_eq, bytesEq_eq]; simp⟩
  case geq => cases h; exact ⟨_, by rw [hb _ (by simp) (by simp)]; simp [Op.stringOp]; rfl, by rw [VR, bytesLt_eq]⟩
  all_goals cases h

theorem run_equalIn_array (d : Nat) (t n e : Nat) (xs ys : Array Value) (ht : P.underlying t = some (.array n e)) (sz : Nat) (hs : ∀ w, (sizeOf e).run P w = .ok sz w) (w : World) (f : Nat → Nat → Sem Bool)
    (hf0 : ∀ i, f 0 i = pure true)
    (hf : ∀ m i, f (m + 1) i = do
      let a ← part e xs (i * sz)
      let b ← part e ys (i * sz)
      let r ← Op.equalIn d e a b
      if (!r) = true then pure false else f m (i + 1)) :
    (Op.equalIn (d + 1) t (.agg xs) (.agg ys)).run P w = (f n 0).run P w := by
  simp only [Op.equalIn, Sem.run_bind, run_underlying ht, Result.andThen_ok, hs]
  rw [Std.Legacy.Range.forIn_eq_forIn_range']
  simp only [Std.Legacy.Range.size, Nat.sub_zero, Nat.add_sub_cancel, Nat.div_one]
  generalize (0 : Nat) = i
  clear ht
  induction n generalizing w i with
  | zero => simp [hf0]
  | succ m ih =>
    rw [hf]
    simp only [List.range'_succ, List.forIn_cons, Sem.run_bind, Sem.run_ite]
    generalize (part e xs (i * sz)).run P w = r1
    cases r1 with
    | ok a w1 =>
      simp only [Result.andThen_ok]
      generalize (part e ys (i * sz)).run P w1 = r2
      cases r2 with
      | ok b w2 =>
        simp only [Result.andThen_ok]
        generalize (Op.equalIn d e a b).run P w2 = r3
        cases r3 with
        | ok r w3 =>
          cases r
          · simp only [Result.andThen_ok, Bool.not_false, if_true, Sem.run_pure]
          · simp only [Result.andThen_ok, Bool.not_true, Bool.false_eq_true, if_false, Sem.run_pure]
            exact ih w3 (i + 1)
        | halt x w3 => simp [Result.andThen]
      | halt x w2 => simp [Result.andThen]
    | halt x w1 => simp [Result.andThen]

def EqS (P : Program) (w : World) (d : Nat) (t : Nat) (x y : Value) (r : Bool) : Prop := ∀ D, d ≤ D → (Op.equalIn D t x y).run P w = .ok r w

theorem eqFields_sound (hC : CtxOk P C) {d : Nat} {again : Nat → V → V → Option Bool} (hag : ∀ t u v r x y, again t u v = some r → VR ε u x → VR ε v y → EqS P w d t x y r)
    {a b : List V} {xs ys : List Value} (ha : VRs ε a xs) (hb : VRs ε b ys) : ∀ (fs : List Field) (r : Bool), eqFieldsF C again a b fs = some r →
    ∀ D, d ≤ D → (Op.eqFields D xs.toArray ys.toArray fs).run P w = .ok r w
  | [], r, h, D, _ => by simp only [eqFieldsF, Option.some.injEq] at h; subst h; rfl
  | f :: fs, r, h, D, hD => by
    unfold eqFieldsF at h
    unfold Op.eqFields
    split at h
    · rename_i hn
      rw [if_neg (by simpa using hn)]
      exact eqFields_sound hC hag ha hb fs r h D hD
    · rename_i hn
      rw [if_pos (by simpa using hn)]
      split at h
      · cases h
      · rename_i j hj
        have hj := hC.ty _ _ hj
        split at h
        · rename_i u v hu hv
          obtain ⟨x, h1, hx⟩ := partV_sound (w := w) hj hu ha
          obtain ⟨y, h2, hy⟩ := partV_sound (w := w) hj hv hb
          split at h
          · rename_i he
            have := hag _ _ _ _ _ _ he hx hy D hD
            simp only [Sem.run_bind, h1, h2, Result.andThen_ok, this, Bool.not_true, Bool.false_eq_true, if_false]
            exact eqFields_sound hC hag ha hb fs r h D hD
          · rename_i he
            have := hag _ _ _ _ _ _ he hx hy D hD
            cases h
            simp [Sem.run_bind, h1, h2, this]
          · cases h
        · cases h

/-- n elements from i on, in the model's words -/
def eqElemsS (d e sz : Nat) (xs ys : Array Value) : Nat → Nat → Sem Bool
  | 0, _ => pure true
  | m + 1, i => do
    let a ← part e xs (i * sz)
    let b ← part e ys (i * sz)
    let r ← Op.equalIn d e a b
    if (!r) = true then pure false else eqElemsS d e sz xs ys m (i + 1)

theorem eqElems_sound {d e : Nat} {j : TI} (hj : TIok P e j) {again : V → V → Option Bool} (hag : ∀ u v r x y, again u v = some r → VR ε u x → VR ε v y → EqS P w d e x y r)
    {a b : List V} {xs ys : List Value} (ha : VRs ε a xs) (hb : VRs ε b ys) : ∀ (n i : Nat) (r : Bool), eqElemsF again j a b n i = some r →
    ∀ D, d ≤ D → (eqElemsS D e j.size xs.toArray ys.toArray n i).run P w = .ok r w
  | 0, _, r, h, D, _ => by simp only [eqElemsF, Option.some.injEq] at h; subst h; rfl
  | n + 1, i, r, h, D, hD => by
    unfold eqElemsF at h
    unfold eqElemsS
    split at h
    · rename_i u v hu hv
      obtain ⟨x, h1, hx⟩ := partV_sound (w := w) hj hu ha
      obtain ⟨y, h2, hy⟩ := partV_sound (w := w) hj hv hb
      split at h
      · rename_i he
        have := hag _ _ _ _ _ he hx hy D hD
        simp only [Sem.run_bind, h1, h2, Result.andThen_ok, this, Bool.not_true, Bool.false_eq_true, if_false]
        exact eqElems_sound hj hag ha hb n (i + 1) r h D hD
      · rename_i he
        have := hag _ _ _ _ _ he hx hy D hD
        cases h
        simp [Sem.run_bind, h1, h2, this]
      · cases h
    · cases h

theorem eqF_sound (hC : CtxOk P C) : ∀ (d t : Nat) (a b : V) (r : Bool) (x y : Value), eqF C d t a b = some r → VR ε a x → VR ε b y → EqS P w d t x y r
  | 0, _, _, _, _, _, _, h, _, _ => by simp [eqF] at h
  | d + 1, t, a, b, r, x, y, h, hx, hy => by
    intro D hD
    obtain ⟨D, rfl⟩ : ∃ D', D = D' + 1 := ⟨D - 1, by omega⟩
    unfold eqF at h
    split at h
    · cases h
    · rename_i i hi
      have hi := hC.ty _ _ hi
      have hu := hi.und
      split at h
      all_goals (try (rename_i he; rw [he] at hu))
      all_goals (try cases h)
      · rw [VR] at hx hy; subst hx hy; exact run_equalIn_bool' w D t _ _ hu
      · rename_i k a j b
        split at h
        · rename_i hk
          cases h
          have hk := kindN_inj (beq_nat hk); subst hk
          rw [VR] at hx hy; subst hx hy
          rw [run_equalIn_int w D t _ _ _ _ hu, iEq_eq]
        · cases h
      · rw [VR] at hx hy; subst hx hy
        rw [run_equalIn_string w D t _ _ hu, toList_mk, toList_mk, bytesEq_eq]
      · rw [VR] at hx hy; subst hx hy; simp [Op.equalIn, run_underlying hu]
      · simp only [VR] at hx hy; obtain ⟨_, _, rfl⟩ := hy; subst hx; simp [Op.equalIn, run_underlying hu]
      · simp only [VR] at hx hy; obtain ⟨_, _, rfl⟩ := hx; subst hy; simp [Op.equalIn, run_underlying hu]
      · rw [VR] at hx hy; subst hx hy; simp [Op.equalIn, run_underlying hu]
      · simp only [VR] at hx hy; obtain ⟨_, _, _, _, _, rfl⟩ := hy; subst hx; simp [Op.equalIn, run_underlying hu]
      · simp only [VR] at hx hy; obtain ⟨_, _, _, _, _, rfl⟩ := hx; subst hy; simp [Op.equalIn, run_underlying hu]
      · rw [VR] at hx hy; subst hx hy; simp [Op.equalIn, run_underlying hu]
      · simp only [VR] at hx hy; obtain ⟨_, _, rfl⟩ := hy; subst hx; simp [Op.equalIn, run_underlying hu]
      · simp only [VR] at hx hy; obtain ⟨_, _, rfl⟩ := hx; subst hy; simp [Op.equalIn, run_underlying hu]
      · rw [VR] at hx hy; subst hx hy; simp [Op.equalIn, run_underlying hu]
      · simp only [VR] at hx hy; obtain ⟨_, _, _, _, _, rfl⟩ := hy; subst hx; simp [Op.equalIn, run_underlying hu]
      · simp only [VR] at hx hy; obtain ⟨_, _, _, _, _, rfl⟩ := hx; subst hy; simp [Op.equalIn, run_underlying hu]
      · simp only [VR] at hx hy; obtain ⟨_, _, rfl⟩ := hy; subst hx; simp [Op.equalIn, run_underlying hu]
      · simp only [VR] at hx hy; obtain ⟨_, _, rfl⟩ := hx; subst hy; simp [Op.equalIn, run_underlying hu]
      · rw [VR] at hx hy; subst hx hy; simp [Op.equalIn, run_underlying hu]
      · simp only [VR] at hx hy; obtain ⟨_, _, rfl⟩ := hy; subst hx; simp [Op.equalIn, run_underlying hu]
      · simp only [VR] at hx hy; obtain ⟨_, _, rfl⟩ := hx; subst hy; simp [Op.equalIn, run_underlying hu]
      · rename_i fs a b
        split at h
        · cases h
        · rename_i hs
          rw [VR] at hx hy
          obtain ⟨xs, hxs, rfl⟩ := hx
          obtain ⟨ys, hys, rfl⟩ := hy
          have hst : P.stoodInHeld t = false := by rw [← hi.sih]; exact hs
          have hf : P.fieldsOf t = fs := by simp [Program.fieldsOf, hi.und, he]
          rw [run_equalIn_struct w D t _ _ (by rw [hf]; exact hu) hst, hf]
          exact eqFields_sound hC (fun t' u v r' x' y' e g1 g2 => eqF_sound hC d t' u v r' x' y' e g1 g2) hxs hys _ _ h D (by omega)
      · rename_i n e a b
        split at h
        · cases h
        · rename_i j hj
          have hj := hC.ty _ _ hj
          rw [VR] at hx hy
          obtain ⟨xs, hxs, rfl⟩ := hx
          obtain ⟨ys, hys, rfl⟩ := hy
          rw [run_equalIn_array D t n e _ _ hu j.size (fun w => hj.run_size w) w (eqElemsS D e j.size xs.toArray ys.toArray) (fun _ => rfl) (fun _ _ => rfl)]
          exact eqElems_sound hj (fun u v r' x' y' e' g1 g2 => eqF_sound hC d _ u v r' x' y' e' g1 g2) hxs hys _ _ _ h D (by omega)
end
end Go.Lev
namespace Go.Lev
open Go
section
variable {P : Program} {C : Ctx} {ε : Env} {w : World}

theorem guard_plain (op : BinOp) (t : Nat) (xo yo : Operand) (x y : Value) (h1 : x ≠ .nilIface) (h2 : ∀ a, x ≠ .agg a) : (eqGuard op t xo yo x y).run P w = .ok () w := by
  cases x <;> first | exact absurd rfl h1 | exact absurd rfl (h2 _) | (cases op <;> simp [eqGuard])
theorem guard_plain' (op : BinOp) (t : Nat) (xo yo : Operand) (x y : Value) (h1 : y ≠ .nilIface) (h2 : ∀ a, y ≠ .agg a) : (eqGuard op t xo yo x y).run P w = .ok () w := by
  cases x <;> cases y <;> first | exact absurd rfl h1 | exact absurd rfl (h2 _) | (cases op <;> simp [eqGuard])

theorem VR_noIface {v : V} {x : Value} (h : VR ε v x) (h1 : v ≠ .nilif) (h2 : ∀ l, v ≠ .agg l) (h3 : v ≠ .any) : x ≠ .nilIface ∧ ∀ a, x ≠ .agg a := by
  cases v <;> simp only [VR] at h <;> first | exact absurd rfl h1 | exact absurd rfl (h2 _) | exact absurd rfl h3 | (subst h; simp) | (obtain ⟨_, _, rfl⟩ := h; simp) | (obtain ⟨_, _, _, _, _, rfl⟩ := h; simp)

theorem guardF_sound (hC : CtxOk P C) (op : BinOp) {t : Nat} {xo yo : Operand} {a b : V} {x y : Value} (h : guardF C t xo yo a b = true) (hx : VR ε a x) (hy : VR ε b y) : (eqGuard op t xo yo x y).run P w = .ok () w := by
  by_cases ha : a = .any
  · subst ha; cases b <;> simp [guardF] at h
  by_cases hb : b = .any
  · subst hb; cases a <;> simp [guardF] at h
  by_cases h1 : a = .nilif
  · subst h1
    by_cases h2 : b = .nilif
    · subst h2
      simp only [VR] at hx hy; subst hx hy
      simp only [guardF, Bool.or_eq_true] at h
      unfold eqGuard
      have hc : ((match xo with | .const _ => true | _ => false) || (match yo with | .const _ => true | _ => false)) = true := by
        rcases h with h | h
        · cases xo <;> simp [isC] at h; rfl
        · cases yo <;> simp [isC] at h; simp
      cases op <;> simp <;> (first | (cases xo <;> cases yo <;> simp at hc ⊢))
    · by_cases h3 : ∃ l, b = .agg l
      · obtain ⟨l, rfl⟩ := h3
        simp only [VR] at hx hy; subst hx; obtain ⟨_, _, rfl⟩ := hy
        cases op <;> simp [eqGuard]
      · obtain ⟨g1, g2⟩ := VR_noIface hy h2 (fun l e => h3 ⟨l, e⟩) hb
        exact guard_plain' op t xo yo x y g1 g2
  · by_cases h2 : ∃ l, a = .agg l
    · obtain ⟨l, rfl⟩ := h2
      by_cases h3 : ∃ m, b = .agg m
      · obtain ⟨m, rfl⟩ := h3
        simp only [VR] at hx hy; obtain ⟨xs, _, rfl⟩ := hx; obtain ⟨ys, _, rfl⟩ := hy
        unfold guardF at h
        split at h
        all_goals (try (rename_i e1 e2; cases e1; done))
        all_goals (try cases h)
        · rename_i e1 e2
          split at h
          · rename_i i hi
            have hi := hC.ty _ _ hi
            exact run_eqGuard_agg w op t xo yo _ _ (by rw [← hi.egt]; simpa using h)
          · cases h
        all_goals simp_all
      · by_cases h4 : b = .nilif
        · subst h4
          simp only [VR] at hx hy; subst hy; obtain ⟨xs, _, rfl⟩ := hx
          cases op <;> simp [eqGuard]
        · obtain ⟨g1, g2⟩ := VR_noIface hy h4 (fun l e => h3 ⟨l, e⟩) hb
          exact guard_plain' op t xo yo x y g1 g2
    · obtain ⟨g1, g2⟩ := VR_noIface hx h1 (fun l e => h2 ⟨l, e⟩) ha
      exact guard_plain op t xo yo x y g1 g2

theorem binOther_sound (hC : CtxOk P C) {op : BinOp} {t : Nat} {xo yo : Operand} {a b v : V} {x y : Value} (h : binOther C op t xo yo a b = some v) (hx : VR ε a x) (hy : VR ε b y)
    (hplain : ∀ k n, x ≠ .int k n) (hplain2 : ∀ s, x ≠ .string s) (hplain3 : ∀ k n, x ≠ .float k n) (hplain4 : ∀ k n m, x ≠ .complex k n m) :
    QS P ε w (do eqGuard op t xo yo x y; binOp op t x y) v := by
  unfold binOther at h
  have key : ∀ n : Bool, binEq C n t xo yo a b = some v → ∃ r, eqF C 60 t a b = some r ∧ v = .bool (if n then !r else r) ∧ guardF C t xo yo a b = true := by
    intro n hb
    unfold binEq at hb
    split at hb
    · rename_i hg
      unfold eqRes at hb
      split at hb
      · rename_i r hr
        cases hb
        exact ⟨r, hr, by cases n <;> rfl, hg⟩
      · cases hb
    · cases hb
  have hb1 : binOp .eql t x y = (do let r ← Op.equal t x y; pure (.bool r)) := by
    cases x <;> first | exact absurd rfl (hplain _ _) | exact absurd rfl (hplain2 _) | exact absurd rfl (hplain3 _ _) | exact absurd rfl (hplain4 _ _ _) | (cases y <;> rfl)
  have hb2 : binOp .neq t x y = (do let r ← Op.equal t x y; pure (.bool (!r))) := by
    cases x <;> first | exact absurd rfl (hplain _ _) | exact absurd rfl (hplain2 _) | exact absurd rfl (hplain3 _ _) | exact absurd rfl (hplain4 _ _ _) | (cases y <;> rfl)
  split at h
  · obtain ⟨r, hr, rfl, hg⟩ := key _ h
    refine ⟨.bool r, ?_, by simp [VR]⟩
    rw [Sem.run_bind, guardF_sound hC .eql hg hx hy, Result.andThen_ok, hb1]
    have := eqF_sound (w := w) hC 60 t a b r x y hr hx hy 10000 (by omega)
    simp [Op.equal, Op.maxDepth, this]
  · obtain ⟨r, hr, rfl, hg⟩ := key _ h
    refine ⟨.bool (!r), ?_, by simp [VR]⟩
    rw [Sem.run_bind, guardF_sound hC .neq hg hx hy, Result.andThen_ok, hb2]
    have := eqF_sound (w := w) hC 60 t a b r x y hr hx hy 10000 (by omega)
    simp [Op.equal, Op.maxDepth, this]
  · cases h

theorem geCmp_int {op : BinOp} {n c : Nat} {v : V} (h : geCmp op n c = some v) (k : IntKind) (m : Nat) : intOp op k (.ofNat (n + m)) (.ofNat c) = some v := by
  cases op <;> simp only [geCmp] at h <;> first
    | (cases h; done)
    | (split at h
       · rename_i hc
         cases h
         first | (rw [Nat.ble_eq] at hc) | (rw [Nat.blt_eq] at hc)
         simp only [intOp, iLss, iLeq, iGtr, iGeq, iEql, iNeq, iLt_eq, iEq_eq]
         simp
         omega
       · cases h)
theorem binF_sound (hC : CtxOk P C) {op : BinOp} {t : Nat} {xo yo : Operand} {a b v : V} {x y : Value} (h : binF C op t xo yo a b = some v) (hx : VR ε a x) (hy : VR ε b y) :
    QS P ε w (do eqGuard op t xo yo x y; binOp op t x y) v := by
  unfold binF at h
  split at h
  · rename_i k m
    unfold binInt at h
    split at h
    · rename_i j n
      rw [VR] at hx hy; subst hx hy
      have hg : (eqGuard op t xo yo (.int k m) (.int j n)).run P w = .ok () w := guard_plain op t xo yo _ _ (by simp) (by simp)
      have : QS P ε w (binOp op t (.int k m) (.int j n)) v := by
        unfold binInt2 at h
        split at h
        · exact shl_sound h
        · exact shr_sound h
        · unfold sameKind at h
          split at h
          · rename_i hk
            have hk := kindN_inj (beq_nat hk); subst hk
            exact intOp_sound h
          · cases h
      obtain ⟨z, h1, h2⟩ := this
      exact ⟨z, by rw [Sem.run_bind, hg, Result.andThen_ok, h1], h2⟩
    · cases h
  · rename_i k n
    unfold binGe at h
    split at h
    · rename_i j c0
      split at h
      · rename_i c
        split at h
        · rename_i hk
          have hk := kindN_inj (beq_nat hk); subst hk
          simp only [VR] at hx hy
          obtain ⟨m, rfl⟩ := hx
          subst hy
          have hg : (eqGuard op t xo yo (.int k (.ofNat (n + m))) (.int k (.ofNat c))).run P w = .ok () w := guard_plain op t xo yo _ _ (by simp) (by simp)
          obtain ⟨z, h1, h2⟩ : QS P ε w (binOp op t (.int k (.ofNat (n + m))) (.int k (.ofNat c))) v := intOp_sound (geCmp_int h k m)
          exact ⟨z, by rw [Sem.run_bind, hg, Result.andThen_ok, h1], h2⟩
        · cases h
      · cases h
    · cases h
  · rename_i m
    unfold binStr at h
    split at h
    · rename_i n
      rw [VR] at hx hy; subst hx hy
      have hg : (eqGuard op t xo yo (.string ⟨m.toArray⟩) (.string ⟨n.toArray⟩)).run P w = .ok () w := guard_plain op t xo yo _ _ (by simp) (by simp)
      obtain ⟨z, h1, h2⟩ := strOp_sound (P := P) (w := w) (ε := ε) (t := t) h
      exact ⟨z, by rw [Sem.run_bind, hg, Result.andThen_ok, h1], h2⟩
    · cases h
  · rename_i h1 h2 h3
    refine binOther_sound hC h hx hy ?_ ?_ ?_ ?_
    all_goals
      intros
      cases a <;> simp only [VR] at hx <;> first | exact absurd rfl (h1 _ _) | exact absurd rfl (h2 _ _) | exact absurd rfl (h3 _) | (subst hx; simp; done) | (obtain ⟨_, _, rfl⟩ := hx; simp; done) | (obtain ⟨_, _, _, _, _, rfl⟩ := hx; simp; done) | skip
    all_goals
      exfalso
      cases op <;> simp [binOther, binEq, guardF] at h

theorem unF_sound {op : UnOp} {a v : V} {x : Value} (h : unF op a = some v) (hx : VR ε a x) : QS P ε w (Op.unary op x) v := by
  unfold unF at h
  split at h
  · cases h; rw [VR] at hx; subst hx; exact ⟨_, rfl, by rw [VR]⟩
  · cases h; rw [VR] at hx; subst hx
    exact ⟨_, rfl, by rw [VR, wrapF_eq]; rfl⟩
  · cases h; rw [VR] at hx; subst hx; exact ⟨_, rfl, by rw [VR]⟩
  · cases h
end
end Go.Lev
namespace Go.Lev
open Go
section
variable {P : Program} {C : Ctx} {ε : Env} {h : Hp} {w : World}

theorem cellsOf_sl (hr : HR ε h w) {b o d len n : Nat} {cp : Cap} {l : List V} {c Cc : Nat} (hf : cellsOf h (.sl b o d len cp) n = some l) (hc : ε.φ b = some c) :
    ∃ ys, (loadCells ⟨c, if Cc = 0 then o else o + d, none⟩ n).run P w = .ok ys.toArray w ∧ VRs ε l ys := by
  simp only [cellsOf] at hf
  split at hf
  · rename_i hn
    cases hf
    have hn := beq_nat hn; subst hn
    exact ⟨[], by simp [loadCells, loadCellsFrom], VRs.nil⟩
  · split at hf
    · rename_i e sz m cs ex tl hd hob
      have hd := beq_nat hd; subst hd
      split at hf
      · rename_i hle
        cases hf
        obtain ⟨o', ho', hro⟩ := hr.blk b c hc
        rw [hob] at hro
        obtain ⟨Ca, fz, rfl, hk, _⟩ := hro
        have := run_loadCells (P := P) (ε := ε) ho' cs o n m hk (by simpa using hle)
        simpa using this
      · cases hf
    · cases hf

theorem bytesOfCells_sound : ∀ {l : List V} {r : List UInt8} {ys : List Value}, bytesOfCells l = some r → VRs ε l ys → ∃ ns : List Int, ys = ns.map (Value.int .u8) ∧ r = ns.map fun n => UInt8.ofNat n.toNat
  | [], r, ys, h, hl => by
    simp only [bytesOfCells, Option.some.injEq] at h; subst h
    rw [VRs] at hl; subst hl; exact ⟨[], rfl, rfl⟩
  | v :: l, r, ys, h, hl => by
    unfold bytesOfCells at h
    split at h
    · rename_i heq; cases heq
    · rename_i n l' heq
      cases heq
      split at h
      · rename_i r' hr'
        cases h
        obtain ⟨y, ys', hy, hl', rfl⟩ := hl.cons_inv
        rw [VR] at hy; subst hy
        obtain ⟨ns, rfl, rfl⟩ := bytesOfCells_sound hr' hl'
        exact ⟨(n : Int) :: ns, rfl, by simp⟩
      · cases h
    · cases h

theorem foldl_push (ns : List Int) (l : List UInt8) : ns.foldl (fun r n => r.push (UInt8.ofNat n.toNat)) (ByteArray.mk l.toArray) = ByteArray.mk (l ++ ns.map fun n => UInt8.ofNat n.toNat).toArray := by
  induction ns generalizing l with
  | nil => simp
  | cons n ns ih =>
    simp only [List.foldl_cons, List.map_cons]
    have : (ByteArray.mk l.toArray).push (UInt8.ofNat n.toNat) = ByteArray.mk (l ++ [UInt8.ofNat n.toNat]).toArray := by
      apply ByteArray.ext; simp
    rw [this, ih]; simp

theorem convF_sound (hC : CtxOk P C) (hr : HR ε h w) {s d : Nat} {a v : V} {x : Value} (hf : convF C h s d a = some v) (hx : VR ε a x) : QS P ε w (convert s d x) v := by
  unfold convF at hf
  split at hf
  · rename_i i j hi hj
    have hi := hC.ty _ _ hi
    have hj := hC.ty _ _ hj
    have hu := hi.und
    have hv := hj.und
    split at hf
    · rename_i k k' n hk
      cases hf
      rw [VR] at hx; subst hx
      rw [hk] at hv
      refine ⟨.int k (k.wrap n), ?_, by rw [VR, wrapF_eq]⟩
      simp [convert, run_underlying hu, run_underlying hv, Conv.intToInt]
    · rename_i l hk
      cases hf
      rw [VR] at hx; subst hx
      rw [hk] at hv
      refine ⟨.string ⟨l.toArray⟩, ?_, by rw [VR]⟩
      simp [convert, run_underlying hu, run_underlying hv]
    · rename_i e hk1 hk2 hn
      rw [hk1] at hu
      rw [hk2] at hv
      split at hf
      · rename_i q hq
        have hq := hC.ty _ _ hq
        have hw := hq.und
        split at hf
        · rename_i hqu
          cases hf
          rw [VR] at hx; subst hx
          rw [hqu] at hw
          refine ⟨.string ⟨#[]⟩, ?_, by rw [VR]⟩
          rw [run_convert_bytes_string w s d e none 0 0 hu hw hv]
          rfl
        · rename_i hqu
          rw [hqu] at hw
          split at hf
          · rename_i l hl
            split at hf
            · rename_i r hr'
              cases hf
              rw [VR] at hx; obtain ⟨c, Cc, hc, hcap, hn', rfl⟩ := hx
              rw [hqu] at *
              obtain ⟨ys, h1, h2⟩ := cellsOf_sl (P := P) (Cc := Cc) hr hl hc
              obtain ⟨ns, rfl, rfl⟩ := bytesOfCells_sound hr' h2
              refine ⟨_, ?_, by rw [VR]⟩
              rw [run_convert_bytes_string w s d e _ _ _ hu hw hv, run_bytesToString w _ _ _ ns h1]
              congr 2
              have := foldl_push ns []
              rw [show ByteArray.empty = ByteArray.mk ([] : List UInt8).toArray from rfl, this]; rfl
            · cases hf
          · cases hf
        · cases hf
      · cases hf
    · cases hf
  · cases hf
end
end Go.Lev
namespace Go.Lev
open Go
section
variable {P : Program} {C : Ctx} {ε : Env} {h : Hp} {w : World}
/-! ### slice expressions -/
theorem boundF_some {v : V} {y n : Nat} (hf : boundF v y = some n) : ∃ k, v = .int k n ∧ n ≤ y := by
  unfold boundF at hf
  split at hf
  · split at hf
    · rename_i hle; cases hf; exact ⟨_, rfl, by simpa using hle⟩
    · cases hf
  · cases hf
theorem run_sliceBound (k : IntKind) (n y : Nat) (code : BoundsCode) (hn : n ≤ y) : (Instr.sliceBound (.int k n) y code).run P w = .ok n w := by
  unfold Instr.sliceBound; simp [asIntOf, hn]

/-- an operand that may be missing -/
def VRo (ε : Env) : Option V → Option Value → Prop
  | none, x => x = none
  | some v, x => ∃ y, VR ε v y ∧ x = some y
theorem VRo.isSome {a : Option V} {x : Option Value} (h : VRo ε a x) : x.isSome = a.isSome := by
  cases a <;> simp only [VRo] at h
  · subst h; rfl
  · obtain ⟨_, _, rfl⟩ := h; rfl

def okM (mx : Option V) (m cap : Nat) : Prop := match mx with | none => m = cap | some v => ∃ k, v = .int k m ∧ m ≤ cap
def okH (hi mx : Option V) (hh len m : Nat) : Prop := match hi with | none => hh = len ∧ mx = none | some v => ∃ k, v = .int k hh ∧ hh ≤ m
def okL (lo : Option V) (l hh : Nat) : Prop := match lo with | none => l = 0 | some v => ∃ k, v = .int k l ∧ l ≤ hh
/-- the bounds of a slice expression -/
theorem run_bounds (isS : Bool) (len cap m hh l : Nat) {lo hi mx : Option V} {lo' hi' mx' : Option Value} (hlo : VRo ε lo lo') (hhi : VRo ε hi hi') (hmx : VRo ε mx mx')
    (hm : okM mx m cap) (hh' : okH hi mx hh len m) (hl : okL lo l hh) :
    (Instr.sliceBounds isS len cap lo' hi' mx').run P w = .ok (l, hh, m) w := by
  unfold Instr.sliceBounds
  unfold okM at hm
  unfold okH at hh'
  unfold okL at hl
  cases mx with
  | none =>
    simp only [VRo] at hmx; subst hmx; subst hm
    cases hi with
    | none =>
      simp only [VRo] at hhi; subst hhi
      obtain ⟨rfl, _⟩ := hh'
      cases lo with
      | none => simp only [VRo] at hlo; subst hlo; subst hl; simp
      | some v =>
        obtain ⟨k, rfl, hle⟩ := hl
        simp only [VRo, VR] at hlo; obtain ⟨_, rfl, rfl⟩ := hlo
        simp [run_sliceBound, hle]
    | some v =>
      obtain ⟨k, rfl, hle⟩ := hh'
      simp only [VRo, VR] at hhi; obtain ⟨_, rfl, rfl⟩ := hhi
      cases lo with
      | none => simp only [VRo] at hlo; subst hlo; subst hl; simp [run_sliceBound, hle]
      | some v =>
        obtain ⟨k, rfl, hle2⟩ := hl
        simp only [VRo, VR] at hlo; obtain ⟨_, rfl, rfl⟩ := hlo
        simp [run_sliceBound, hle, hle2]
  | some v =>
    obtain ⟨k, rfl, hle0⟩ := hm
    simp only [VRo, VR] at hmx; obtain ⟨_, rfl, rfl⟩ := hmx
    cases hi with
    | none => simp at hh'
    | some v =>
      obtain ⟨k, rfl, hle⟩ := hh'
      simp only [VRo, VR] at hhi; obtain ⟨_, rfl, rfl⟩ := hhi
      cases lo with
      | none => simp only [VRo] at hlo; subst hlo; subst hl; simp [run_sliceBound, hle, hle0]
      | some v =>
        obtain ⟨k, rfl, hle2⟩ := hl
        simp only [VRo, VR] at hlo; obtain ⟨_, rfl, rfl⟩ := hlo
        simp [run_sliceBound, hle, hle2, hle0]

theorem boundsF_sound {isS : Bool} {len c cap l hh m : Nat} {lo hi mx : Option V} {lo' hi' mx' : Option Value} (hlo : VRo ε lo lo') (hhi : VRo ε hi hi') (hmx : VRo ε mx mx')
    (hf : boundsF len c lo hi mx = some (l, hh, m)) (hc : mx = none → hi ≠ none → c ≤ cap) (hc2 : mx ≠ none → c ≤ cap) :
    (Instr.sliceBounds isS len cap lo' hi' mx').run P w = .ok (l, hh, (if mx = none then cap else m)) w ∧ l ≤ hh ∧ (hi = none → hh = len) ∧ (mx = none → m = c) ∧ (hi ≠ none → hh ≤ m) := by
  unfold boundsF at hf
  split at hf
  · cases hf
  · rename_i m' hm
    split at hf
    · cases hf
    · rename_i h' hh'
      split at hf
      · cases hf
      · rename_i l' hl
        simp only [Option.some.injEq, Prod.mk.injEq] at hf
        obtain ⟨rfl, rfl, rfl⟩ := hf
        have hL : okL lo l' h' ∧ l' ≤ h' := by
          unfold boundL at hl
          unfold okL
          cases lo with
          | none => simp only [Option.some.injEq] at hl; subst hl; simp
          | some v => obtain ⟨k, rfl, hle⟩ := boundF_some hl; exact ⟨⟨k, rfl, hle⟩, hle⟩
        unfold boundM at hm
        unfold boundH at hh'
        cases mx with
        | none =>
          simp only [Option.some.injEq] at hm; subst hm
          cases hi with
          | none =>
            simp only [Option.some.injEq] at hh'; subst hh'
            refine ⟨?_, hL.2, fun _ => rfl, fun _ => rfl, fun e => absurd rfl e⟩
            rw [if_pos rfl]
            exact run_bounds isS len cap cap len l' hlo hhi hmx rfl ⟨rfl, rfl⟩ hL.1
          | some v =>
            obtain ⟨k, rfl, hle⟩ := boundF_some hh'
            refine ⟨?_, hL.2, (fun e => by cases e), fun _ => rfl, fun _ => hle⟩
            rw [if_pos rfl]
            exact run_bounds isS len cap cap h' l' hlo hhi hmx rfl ⟨k, rfl, Nat.le_trans hle (hc rfl (by simp))⟩ hL.1
        | some u =>
          obtain ⟨k, rfl, hle⟩ := boundF_some hm
          cases hi with
          | none => simp at hh'
          | some v =>
            obtain ⟨k', rfl, hle'⟩ := boundF_some hh'
            refine ⟨?_, hL.2, (fun e => by cases e), (fun e => by cases e), fun _ => hle'⟩
            rw [if_neg (by simp)]
            exact run_bounds isS len cap m' h' l' hlo hhi hmx ⟨k, rfl, Nat.le_trans hle (hc2 (by simp))⟩ ⟨k', rfl, hle'⟩ hL.1

/-- the slice that comes of the bounds, in the model's words -/
def slVal (c o sz l hh m : Nat) : Value := .slice (some (if m = l then ⟨c, o, none⟩ else (⟨c, o, none⟩ : Addr).add (l * sz))) (hh - l) (m - l)

theorem mkSl_sound {b o sz l hh m c : Nat} {v : V} (hc : ε.φ b = some c) (hf : mkSl b o sz (some (l, hh, m)) = some v) (hle : hh ≤ m) : VR ε v (slVal c o sz l hh m) := by
  simp only [mkSl, Option.some.injEq] at hf; subst hf
  rw [VR]
  refine ⟨c, m - l, hc, rfl, ?_, ?_⟩
  · show hh - l ≤ m - l; omega
  · unfold slVal
    by_cases e : m = l
    · subst e; simp
    · have : Nat.beq m l = false := by
        cases hb : Nat.beq m l with
        | true => exact absurd (beq_nat hb) e
        | false => rfl
      simp [this, e, add_addr]

theorem mkSlU_sound {b o j e sz l hh m c cap : Nat} {v : V} (hc : ε.φ b = some c) (hcap : capR ε (.u j e) cap) (hf : mkSlU b o j e sz (some (l, hh, m)) = some v) (hl : l ≤ hh) (hle : hh ≤ cap) : VR ε v (slVal c o sz l hh cap) := by
  simp only [mkSlU] at hf
  obtain ⟨hj, hk⟩ := hcap
  split at hf
  · rename_i hlt
    cases hf
    have hlt : l < hh := by simpa [Nat.blt_eq] using hlt
    rw [VR]
    refine ⟨c, cap - l, hc, ⟨hj, ?_⟩, ?_, ?_⟩
    · show cap - l + (e + l) = _; omega
    · show hh - l ≤ cap - l; omega
    · unfold slVal
      rw [if_neg (by omega), if_neg (by omega)]
      simp [add_addr]
  · rename_i hlt
    cases hf
    have hlt : ¬ l < hh := fun h => by rw [← Nat.blt_eq] at h; rw [h] at hlt; cases hlt
    have : l = hh := by omega
    subst this
    rw [VR]
    refine ⟨c, cap - l, hc, ⟨hj, ?_⟩, by omega, ?_⟩
    · show cap - l + (e + l) = _; omega
    · unfold slVal
      by_cases h0 : cap = l
      · subst h0; simp
      · rw [if_neg h0, if_neg (by omega)]
        simp [add_addr]

theorem sliceSl_sound {b o d len sz c Cc : Nat} {cp : Cap} {lo hi mx : Option V} {lo' hi' mx' : Option Value} {v : V} (hlo : VRo ε lo lo') (hhi : VRo ε hi hi') (hmx : VRo ε mx mx')
    (hf : sliceSl b o d len cp sz lo hi mx = some v) (hc : ε.φ b = some c) (hcap : capR ε cp Cc) (hn : len ≤ Cc) (isS : Bool) :
    ∃ l hh m, (Instr.sliceBounds isS len Cc lo' hi' mx').run P w = .ok (l, hh, m) w ∧ VR ε v (slVal c o sz l hh m) ∧ d = 0 := by
  unfold sliceSl at hf
  split at hf
  · cases hf
  · rename_i hd
    have hd := beq_nat hd; subst hd
    unfold sliceCp at hf
    split at hf
    · rename_i k
      have : Cc = k := hcap
      subst this
      cases hb : boundsF len Cc lo hi mx with
      | none => rw [hb] at hf; cases hf
      | some r =>
        obtain ⟨l, hh, m⟩ := r
        rw [hb] at hf
        obtain ⟨h1, h2, h3, h4, h5⟩ := boundsF_sound (P := P) (w := w) (isS := isS) (cap := Cc) hlo hhi hmx hb (fun _ _ => Nat.le_refl _) (fun _ => Nat.le_refl _)
        have hm : (if mx = none then Cc else m) = m := by
          split
          · rename_i e; exact (h4 e).symm
          · rfl
        rw [hm] at h1
        refine ⟨l, hh, m, h1, mkSl_sound hc hf ?_, rfl⟩
        cases hi with
        | none =>
          cases mx with
          | none => rw [h3 rfl, h4 rfl]; exact hn
          | some u => simp only [boundsF, boundM, boundH] at hb; split at hb <;> simp at hb
        | some u => exact h5 (by simp)
    · rename_i j e
      unfold sliceU at hf
      split at hf
      · rename_i u
        cases hb : boundsF len len lo hi (some u) with
        | none => rw [hb] at hf; cases hf
        | some r =>
          obtain ⟨l, hh, m⟩ := r
          rw [hb] at hf
          obtain ⟨h1, h2, h3, h4, h5⟩ := boundsF_sound (P := P) (w := w) (isS := isS) (cap := Cc) hlo hhi hmx hb (fun e => by cases e) (fun _ => hn)
          rw [if_neg (by simp)] at h1
          refine ⟨l, hh, m, h1, mkSl_sound hc hf ?_, rfl⟩
          cases hi with
          | none => simp only [boundsF, boundM, boundH] at hb; split at hb <;> simp at hb
          | some u => exact h5 (by simp)
      · cases hb : boundsF len len lo hi none with
        | none => rw [hb] at hf; cases hf
        | some r =>
          obtain ⟨l, hh, m⟩ := r
          rw [hb] at hf
          obtain ⟨h1, h2, h3, h4, h5⟩ := boundsF_sound (P := P) (w := w) (isS := isS) (cap := Cc) hlo hhi hmx hb (fun _ _ => hn) (fun e => absurd rfl e)
          rw [if_pos rfl] at h1
          refine ⟨l, hh, Cc, h1, mkSlU_sound hc hcap hf h2 ?_, rfl⟩
          cases hi with
          | none => rw [h3 rfl]; exact hn
          | some u => have := h5 (by simp); have := h4 rfl; omega

theorem bounds_zero {lo hi mx : Option V} {l hh m : Nat} (hb : boundsF 0 0 lo hi mx = some (l, hh, m)) : l = 0 ∧ hh = 0 ∧ m = 0 := by
  unfold boundsF at hb
  split at hb
  · cases hb
  · rename_i m' hm
    split at hb
    · cases hb
    · rename_i h' hh'
      split at hb
      · cases hb
      · rename_i l' hl
        simp only [Option.some.injEq, Prod.mk.injEq] at hb
        obtain ⟨rfl, rfl, rfl⟩ := hb
        have h1 : m' = 0 := by
          unfold boundM at hm
          cases mx with
          | none => simp only [Option.some.injEq] at hm; exact hm.symm
          | some v => obtain ⟨k, _, hle⟩ := boundF_some hm; omega
        have h2 : h' = 0 := by
          unfold boundH at hh'
          cases hi with
          | none => cases mx with
            | none => simp only [Option.some.injEq] at hh'; exact hh'.symm
            | some v => simp at hh'
          | some v => obtain ⟨k, _, hle⟩ := boundF_some hh'; omega
        have h3 : l' = 0 := by
          unfold boundL at hl
          cases lo with
          | none => simp only [Option.some.injEq] at hl; exact hl.symm
          | some v => obtain ⟨k, _, hle⟩ := boundF_some hl; omega
        exact ⟨h3, h2, h1⟩

theorem sliceF_sound (hC : CtxOk P C) {t : Nat} {a v : V} {x : Value} {lo hi mx : Option V} {lo' hi' mx' : Option Value} (hlo : VRo ε lo lo') (hhi : VRo ε hi hi') (hmx : VRo ε mx mx')
    (hf : sliceF C t a lo hi mx = some v) (hx : VR ε a x) : QS P ε w (Instr.sliceAt t x lo' hi' mx') v := by
  unfold sliceF at hf
  split at hf
  · cases hf
  · rename_i i hi
    have hi := hC.ty _ _ hi
    have hu := hi.und
    split at hf
    · rename_i s hk
      rw [hk] at hu
      rw [VR] at hx; subst hx
      unfold sliceStr at hf
      split at hf
      · rename_i l hh m hb
        cases hf
        simp only [VRo] at hmx; subst hmx
        obtain ⟨h1, h2, h3, h4, h5⟩ := boundsF_sound (P := P) (w := w) (isS := false) (cap := s.length) hlo hhi (mx := none) rfl hb (fun _ _ => Nat.le_refl _) (fun e => absurd rfl e)
        refine ⟨.string ⟨((s.drop l).take (hh - l)).toArray⟩, ?_, by rw [VR]⟩
        unfold Instr.sliceAt
        rw [Sem.run_bind, run_underlying hu, Result.andThen_ok]
        unfold Instr.slice
        rw [Sem.run_bind, run_underlying hu, Result.andThen_ok]
        have hs : (ByteArray.mk s.toArray).size = s.length := by simp [ByteArray.size]
        simp only [Option.isSome_none, Bool.false_eq_true, if_false, hs, Sem.run_bind, h1, Result.andThen_ok, Sem.run_pure]
        congr 2
        apply ByteArray.ext
        simp [List.extract_eq_take_drop]
      · cases hf
    · rename_i e b o d len cp hk
      rw [hk] at hu
      rw [VR] at hx; obtain ⟨c, Cc, hc, hcap, hn, rfl⟩ := hx
      split at hf
      · cases hf
      · rename_i j hj
        have hj := hC.ty _ _ hj
        obtain ⟨l, hh, m, h1, h2, rfl⟩ := sliceSl_sound (P := P) (w := w) hlo hhi hmx hf hc hcap hn true
        refine ⟨_, ?_, h2⟩
        unfold Instr.sliceAt
        rw [Sem.run_bind, run_underlying hu, Result.andThen_ok]
        unfold Instr.slice
        rw [Sem.run_bind, run_underlying hu, Result.andThen_ok]
        simp only [Sem.run_bind, h1, Result.andThen_ok, hj.run_size, Sem.run_pure, slVal, Nat.add_zero, ite_self]
        congr 2
        split <;> rfl
    · rename_i e hk
      rw [hk] at hu
      rw [VR] at hx; subst hx
      split at hf
      · rename_i j r hj hb
        have hj := hC.ty _ _ hj
        cases hf
        obtain ⟨l, hh, m⟩ := r
        obtain ⟨h1, h2, h3, h4, h5⟩ := boundsF_sound (P := P) (w := w) (isS := true) (cap := 0) hlo hhi hmx hb (fun _ _ => Nat.le_refl _) (fun _ => Nat.le_refl _)
        refine ⟨.slice none 0 0, ?_, by rw [VR]⟩
        obtain ⟨rfl, rfl, rfl⟩ := bounds_zero hb
        unfold Instr.sliceAt
        rw [Sem.run_bind, run_underlying hu, Result.andThen_ok]
        unfold Instr.slice
        rw [Sem.run_bind, run_underlying hu, Result.andThen_ok]
        simp only [Sem.run_bind, h1, Result.andThen_ok, hj.run_size, Sem.run_pure, ite_self, Nat.sub_zero, Option.map_none]
      · cases hf
    · rename_i n e b o hk
      rw [hk] at hu
      rw [VR] at hx; obtain ⟨c, hc, rfl⟩ := hx
      split at hf
      · cases hf
      · rename_i j hj
        have hj := hC.ty _ _ hj
        obtain ⟨l, hh, m, h1, h2, _⟩ := sliceSl_sound (P := P) (w := w) (Cc := n) hlo hhi hmx hf hc rfl (Nat.le_refl n) false
        refine ⟨_, ?_, h2⟩
        unfold Instr.sliceAt
        rw [Sem.run_bind, run_underlying hu, Result.andThen_ok]
        simp only [Instr.sureAddr, pure_bind, Sem.run_bind, h1, Result.andThen_ok, hj.run_size, Sem.run_pure, slVal]
    · cases hf
end
end Go.Lev
namespace Go.Lev
open Go
section
variable {P : Program} {C : Ctx} {ε : Env} {h : Hp} {w : World}
/-! ### maps: looking -/
theorem keyNow_some (hC : CtxOk P C) {kt : Nat} {k : V} {K : Value} (hk : keyNow C kt k = true) (hK : VR ε k K) :
    (∃ kk n q, k = .int kk n ∧ K = .int kk n ∧ P.underlying kt = some (.int q)) ∨ (∃ s, k = .str s ∧ K = .string ⟨s.toArray⟩ ∧ P.underlying kt = some .string) ∨
    (∃ l ys fs, k = .agg l ∧ K = .agg ys.toArray ∧ VRs ε l ys ∧ P.underlying kt = some (.struct fs) ∧ l.all det1 = true ∧ fieldsPlain C l fs.toList = true) := by
  unfold keyNow at hk
  split at hk
  · cases hk
  · rename_i i hi
    have hi := hC.ty _ _ hi
    have hu := hi.und
    split at hk
    · rename_i q kk n hq
      rw [VR] at hK; rw [hq] at hu
      exact .inl ⟨kk, n, q, rfl, hK, hu⟩
    · rename_i s hq
      rw [VR] at hK; rw [hq] at hu
      exact .inr (.inl ⟨s, rfl, hK, hu⟩)
    · rename_i fs l hq
      rw [VR] at hK; rw [hq] at hu
      obtain ⟨ys, hys, rfl⟩ := hK
      rw [Bool.and_eq_true] at hk
      exact .inr (.inr ⟨l, ys, fs, rfl, rfl, hys, hu, hk.1, hk.2⟩)
    · cases hk
theorem det1_eq {v : V} {x y : Value} (h : det1 v = true) (hx : VR ε v x) (hy : VR ε v y) : x = y := by
  cases v <;> simp [det1] at h <;> (rw [VR] at hx hy; rw [hx, hy])
theorem dets_eq : ∀ {l : List V} {xs ys : List Value}, l.all det1 = true → VRs ε l xs → VRs ε l ys → xs = ys
  | [], xs, ys, _, hx, hy => by rw [hx.nil_inv, hy.nil_inv]
  | v :: l, xs, ys, h, hx, hy => by
    obtain ⟨x, xs', h1, h2, rfl⟩ := hx.cons_inv
    obtain ⟨y, ys', g1, g2, rfl⟩ := hy.cons_inv
    simp only [List.all_cons, Bool.and_eq_true] at h
    rw [det1_eq h.1 h1 g1, dets_eq h.2 h2 g2]
theorem run_checkPlain (hC : CtxOk P C) {t : Nat} {i : TI} {x : Value} (hi : C.ti t = some i) (hp : plainTi (some i) = true) (e : Bool) (n : Nat) : (Instr.checkKey e (n + 1) t x).run P w = .ok () w := by
  have hu := (hC.ty _ _ hi).und
  unfold plainTi at hp
  simp only at hp
  split at hp
  · rename_i q hq
    rw [hq] at hu; simp [Instr.checkKey, run_underlying hu]
  · rename_i hq
    rw [hq] at hu; simp [Instr.checkKey, run_underlying hu]
  · rename_i hq
    rw [hq] at hu; simp [Instr.checkKey, run_underlying hu]
  · cases hp
theorem run_checkFields (hC : CtxOk P C) {l : List V} {ys : List Value} (hl : VRs ε l ys) (e : Bool) (n : Nat) : ∀ fs : List Field, fieldsPlain C l fs = true →
    (forIn fs PUnit.unit (fun f (_ : PUnit) => if f.name ≠ "_" then (do
              let d ← part f.type ys.toArray f.offset
              Instr.checkKey e (n + 1) f.type d
              pure (ForInStep.yield PUnit.unit))
            else pure (ForInStep.yield PUnit.unit)) : Sem PUnit).run P w = .ok PUnit.unit w
  | [], _ => rfl
  | f :: fs, h => by
    unfold fieldsPlain at h
    split at h
    · rename_i i hi
      simp only [Bool.and_eq_true] at h
      have ih := run_checkFields hC hl e n fs h.2
      rw [List.forIn_cons]
      by_cases hn : f.name ≠ "_"
      · obtain ⟨v, hv⟩ : ∃ v, partV i l f.offset = some v := by
          have := h.1.2
          unfold isSomeV at this
          split at this
          · rename_i v hv; exact ⟨v, hv⟩
          · cases this
        obtain ⟨x, h1, hx⟩ := partV_sound (w := w) (hC.ty _ _ hi) hv hl
        simp only [if_pos hn, Sem.run_bind, h1, Result.andThen_ok, run_checkPlain hC hi h.1.1, Sem.run_pure]
        exact ih
      · simp only [if_neg hn, Sem.run_bind, Result.andThen_ok, Sem.run_pure]
        exact ih
    · cases h
theorem run_checkOf {t : Nat} {d : TypeDesc} (hu : P.underlying t = some d) (e : Bool) (n : Nat) (x : Value) (hd : ∀ a, d ≠ .interface a) (ha : ∀ a b, d ≠ .array a b) (hs : ∀ a, d ≠ .struct a) : (Instr.checkKey e (n + 1) t x).run P w = .ok () w := by
  unfold Instr.checkKey
  rw [Sem.run_bind, run_underlying hu, Result.andThen_ok]
  cases d <;> first | rfl | exact absurd rfl (hd _) | exact absurd rfl (ha _ _) | exact absurd rfl (hs _)
theorem run_checkKey (hC : CtxOk P C) {kt : Nat} {k : V} {K : Value} (hk : keyNow C kt k = true) (hK : VR ε k K) (e : Bool) : (Instr.checkKey e 10000 kt K).run P w = .ok () w := by
  show (Instr.checkKey e (9999 + 1) kt K).run P w = .ok () w
  rcases keyNow_some hC hk hK with ⟨kk, n, q, rfl, rfl, hu⟩ | ⟨s, rfl, rfl, hu⟩ | ⟨l, ys, fs, rfl, rfl, hys, hu, hd, hp⟩
  · exact run_checkOf hu e 9999 _ (by simp) (by simp) (by simp)
  · exact run_checkOf hu e 9999 _ (by simp) (by simp) (by simp)
  · unfold Instr.checkKey
    simp only [Sem.run_bind, run_underlying hu, Result.andThen_ok]
    rw [← Array.forIn_toList]
    rw [run_checkFields hC hys e 9998 fs.toList hp]
    rfl

def FoundR (ε : Env) (K : Value) (es : List En) (es' : List MapEntry) (i : Nat) : Option En → Option (Nat × Value) → Prop
  | none, r => r = none
  | some e, r => ∃ q E, es[q]? = some e ∧ es'[q]? = some E ∧ EnR ε e E ∧ r = some (i + q, E.val) ∧ E.key = K

theorem findNow_sound {d : TypeDesc} {k : V} {K : Value} (hd : (∃ kk n q, k = .int kk n ∧ K = .int kk n ∧ d = .int q) ∨ (∃ s, k = .str s ∧ K = .string ⟨s.toArray⟩ ∧ d = .string)) :
    ∀ (es : List En) (es' : List MapEntry) (i : Nat) (r : Option En), EnRs ε es es' → findNowF k es = some r → ∃ r', Instr.findNow d K es' i = some r' ∧ FoundR ε K es es' i r r'
  | [], es', i, r, he, hf => by
    rw [EnRs] at he; subst he
    simp only [findNowF, Option.some.injEq] at hf; subst hf
    exact ⟨none, rfl, rfl⟩
  | e :: es, es', i, r, he, hf => by
    rw [EnRs] at he; obtain ⟨E, Es, hE, hEs, rfl⟩ := he
    have later : findNowF k es = some r → ∃ r', Instr.findNow d K Es (i + 1) = some r' ∧ FoundR ε K (e :: es) (E :: Es) i r r' := by
      intro hf
      obtain ⟨r', h1, h2⟩ := findNow_sound hd es Es (i + 1) r hEs hf
      refine ⟨r', h1, ?_⟩
      cases r with
      | none => exact h2
      | some e' =>
        obtain ⟨q, E', g1, g2, g3, g4, g5⟩ := h2
        exact ⟨q + 1, E', by simpa using g1, by simpa using g2, g3, by rw [g4]; congr 2; omega, g5⟩
    have here : r = some e → E.key = K → FoundR ε K (e :: es) (E :: Es) i r (some (i, E.val)) := by
      rintro rfl hk; exact ⟨0, E, rfl, rfl, hE, rfl, hk⟩
    unfold findNowF at hf
    unfold Instr.findNow
    split at hf
    · rename_i a x b y hkey
      have hEk := hE.1; rw [hkey, VR] at hEk
      split at hf
      · rename_i hab
        have hab := kindN_inj (beq_nat hab); subst hab
        rcases hd with ⟨kk, n, q, hk, rfl, rfl⟩ | ⟨s, hk, _, _⟩
        · cases hk
          split at hf
          · rename_i hxy
            cases hf
            have hxy := iEq_iff.1 hxy; subst hxy
            exact ⟨some (i, E.val), by simp [Instr.sameNow, hEk], here rfl hEk⟩
          · rename_i hxy
            have hne : (x == y) = false := by rw [← iEq_eq]; exact hxy
            obtain ⟨r', h1, h2⟩ := later hf
            exact ⟨r', by simp [Instr.sameNow, hEk, hne, h1], h2⟩
        · cases hk
      · cases hf
    · rename_i x y hkey
      have hEk := hE.1; rw [hkey, VR] at hEk
      rcases hd with ⟨kk, n, q, hk, rfl, rfl⟩ | ⟨s, hk, rfl, rfl⟩
      · cases hk
      · cases hk
        have hb : ((ByteArray.mk x.toArray) == (ByteArray.mk y.toArray)) = (x == y) := by
          rw [beq_toListBytes, toList_mk, toList_mk]
        split at hf
        · rename_i hxy
          cases hf
          have hxy := bytesEq_iff.1 hxy; subst hxy
          have hb' : ((ByteArray.mk x.toArray) == (ByteArray.mk x.toArray)) = true := by rw [hb]; simp
          exact ⟨some (i, E.val), by simp [Instr.sameNow, hEk, hb'], here rfl hEk⟩
        · rename_i hxy
          have hne : (x == y) = false := by rw [← bytesEq_eq]; exact hxy
          obtain ⟨r', h1, h2⟩ := later hf
          exact ⟨r', by simp [Instr.sameNow, hEk, hb, hne, h1], h2⟩
    · cases hf

theorem findAsk_sound (hC : CtxOk P C) {kt : Nat} {l : List V} {ys : List Value} (hl : VRs ε l ys) (hd : l.all det1 = true) :
    ∀ (es : List En) (es' : List MapEntry) (i : Nat) (r : Option En), EnRs ε es es' → findAskF C kt (.agg l) es = some r → ∃ r', (Instr.findAsking kt (.agg ys.toArray) es' i).run P w = .ok r' w ∧ FoundR ε (.agg ys.toArray) es es' i r r'
  | [], es', i, r, he, hf => by
    rw [EnRs] at he; subst he
    simp only [findAskF, Option.some.injEq] at hf; subst hf
    exact ⟨none, rfl, rfl⟩
  | e :: es, es', i, r, he, hf => by
    rw [EnRs] at he; obtain ⟨E, Es, hE, hEs, rfl⟩ := he
    unfold findAskF at hf
    unfold Instr.findAsking
    have hK : VR ε (.agg l) (.agg ys.toArray) := by rw [VR]; exact ⟨ys, hl, rfl⟩
    split at hf
    · rename_i heq
      have hrun : (Op.equal kt (.agg ys.toArray) E.key).run P w = .ok true w := eqF_sound hC 60 _ _ _ _ _ _ heq hK hE.1 Op.maxDepth (by decide)
      split at hf
      · rename_i hsame
        cases hf
        have hke := V.same_eq hsame
        have hEk := hE.1
        rw [← hke, VR] at hEk
        obtain ⟨zs, hz, hzk⟩ := hEk
        have := dets_eq hd hl hz; subst this
        refine ⟨some (i, E.val), ?_, 0, E, rfl, rfl, hE, rfl, hzk⟩
        simp only [Sem.run_bind, hrun, Result.andThen_ok, if_true, Sem.run_pure]
      · cases hf
    · rename_i heq
      have hrun : (Op.equal kt (.agg ys.toArray) E.key).run P w = .ok false w := eqF_sound hC 60 _ _ _ _ _ _ heq hK hE.1 Op.maxDepth (by decide)
      obtain ⟨r', h1, h2⟩ := findAsk_sound hC hl hd es Es (i + 1) r hEs hf
      refine ⟨r', ?_, ?_⟩
      · simp only [Sem.run_bind, hrun, Result.andThen_ok, Bool.false_eq_true, if_false]
        exact h1
      · cases r with
        | none => exact h2
        | some e' =>
          obtain ⟨q, E', g1, g2, g3, g4, g5⟩ := h2
          exact ⟨q + 1, E', by simpa using g1, by simpa using g2, g3, by rw [g4]; congr 2; omega, g5⟩
    · cases hf
theorem run_findKey (hC : CtxOk P C) {kt : Nat} {k : V} {K : Value} (hk : keyNow C kt k = true) (hK : VR ε k K) {es : List En} {es' : List MapEntry} {r : Option En} (he : EnRs ε es es') (hf : findKF C kt k es = some r) :
    ∃ r', (Instr.findKey kt K es').run P w = .ok r' w ∧ FoundR ε K es es' 0 r r' := by
  have basic : ∀ {d : TypeDesc}, P.underlying kt = some d → ((∃ kk n q, k = .int kk n ∧ K = .int kk n ∧ d = .int q) ∨ (∃ s, k = .str s ∧ K = .string ⟨s.toArray⟩ ∧ d = .string)) → findNowF k es = some r → ∃ r', (Instr.findKey kt K es').run P w = .ok r' w ∧ FoundR ε K es es' 0 r r' := by
    intro d hd hd2 hf
    obtain ⟨r', h1, h2⟩ := findNow_sound hd2 es es' 0 r he hf
    refine ⟨r', ?_, h2⟩
    unfold Instr.findKey
    simp [run_underlying hd, h1]
  rcases keyNow_some hC hk hK with ⟨kk, n, q, rfl, rfl, hu⟩ | ⟨s, rfl, rfl, hu⟩ | ⟨l, ys, fs, rfl, rfl, hys, hu, hd, hp⟩
  · exact basic hu (.inl ⟨kk, n, q, rfl, rfl, rfl⟩) hf
  · exact basic hu (.inr ⟨s, rfl, rfl, rfl⟩) hf
  · obtain ⟨r', h1, h2⟩ := findAsk_sound (w := w) hC hys hd es es' 0 r he hf
    cases es' with
    | nil =>
      refine ⟨r', ?_, h2⟩
      unfold Instr.findKey
      simp only [Sem.run_bind, run_underlying hu, Result.andThen_ok]
      exact h1
    | cons E Es =>
      refine ⟨r', ?_, h2⟩
      unfold Instr.findKey
      have : Instr.findNow (.struct fs) (.agg ys.toArray) (E :: Es) 0 = none := by
        unfold Instr.findNow; rfl
      simp only [Sem.run_bind, run_underlying hu, Result.andThen_ok, this]
      exact h1

theorem run_getObj {c : Nat} {o : Obj} (ho : w.heap[c]? = some o) (hn : ∀ a b d, o ≠ .cells a b d) : (getObj c).run P w = .ok o w := by
  unfold getObj
  simp only [Sem.run, ho]

theorem map_at (hr : HR ε h w) {b c : Nat} {es : List En} {clock : Nat} (hc : ε.φ b = some c) (hb : h.get b = .map es clock) :
    ∃ es', w.heap[c]? = some (.map es'.toArray clock) ∧ EnRs ε es es' ∧ es.Pairwise (fun x y => x.born ≠ y.born) ∧ ∀ e ∈ es, e.born < clock := by
  obtain ⟨o, ho, hro⟩ := hr.blk b c hc
  rw [hb] at hro
  obtain ⟨es', rfl, h1, h2, h3⟩ := hro
  exact ⟨es', ho, h1, h2, h3⟩

theorem mapEs_cases (hr : HR ε h w) {a : V} {x : Value} {es : List En} (hf : mapEs h a = some es) (hx : VR ε a x) :
    (x = .map none ∧ es = []) ∨ ∃ c clock es', x = .map (some c) ∧ w.heap[c]? = some (.map es' clock) ∧ EnRs ε es es'.toList := by
  unfold mapEs at hf
  split at hf
  · cases hf
    rw [VR] at hx; exact .inl ⟨hx, rfl⟩
  · rename_i b
    rw [VR] at hx; obtain ⟨c, hc, rfl⟩ := hx
    split at hf
    · rename_i es0 clock hb
      cases hf
      obtain ⟨es', h1, h2, _, _⟩ := map_at hr hc hb
      exact .inr ⟨c, clock, es'.toArray, rfl, h1, h2⟩
    · cases hf
  · cases hf

theorem okV_sound {ok : Bool} {u : V} {y : Value} (is : Bool) (hu : VR ε u y) : VR ε (okV ok u is) (if ok then .tuple #[y, .bool is] else y) := by
  cases ok
  · exact hu
  · rw [if_pos rfl]; unfold okV; rw [VR]; exact ⟨[y, .bool is], VRs.cons hu (VRs.cons (VR_bool _ _) VRs.nil), rfl⟩

theorem lookupF_sound (hC : CtxOk P C) (hr : HR ε h w) {t : Nat} {a k v : V} {x K : Value} {ok : Bool} (hf : lookupF C h t a k ok = some v) (hx : VR ε a x) (hK : VR ε k K) : QS P ε w (Instr.lookup t x K ok) v := by
  unfold lookupF at hf
  split at hf
  · cases hf
  · rename_i i hi
    have hi := hC.ty _ _ hi
    have hu := hi.und
    split at hf
    · rename_i kt et hk
      rw [hk] at hu
      split at hf
      · rename_i es ei hkn hes het
        have het := hC.ty _ _ het
        split at hf
        · cases hf
        · rename_i r hr'
          have tail : ∀ es' : Array MapEntry, EnRs ε es es'.toList → QS P ε w (do
              Instr.checkKey es'.isEmpty 10000 kt K
              match ← Instr.findKey kt K es'.toList with
              | some (_, v) => do
                let __x ← pure (v, true)
                pure (if ok = true then Value.tuple #[__x.fst, Value.bool __x.snd] else __x.fst)
              | none => do
                let __do_lift ← zeroValue et
                let __x ← pure (__do_lift, false)
                pure (if ok = true then Value.tuple #[__x.fst, Value.bool __x.snd] else __x.fst)) v := by
            intro es' h2
            obtain ⟨r', h3, h4⟩ := run_findKey (w := w) hC hkn hK h2 hr'
            have h5 := run_checkKey (w := w) hC hkn hK es'.isEmpty
            cases r with
            | some e =>
              simp only [foundV, Option.some.injEq] at hf; subst hf
              obtain ⟨q, E, g1, g2, g3, rfl, _⟩ := h4
              refine ⟨_, ?_, okV_sound true g3.2.1⟩
              simp only [Sem.run_bind, h5, h3, Result.andThen_ok, Sem.run_pure]
            | none =>
              cases h4
              unfold foundV at hf
              cases hz : zeroV ei with
              | none => rw [hz] at hf; simp at hf
              | some z =>
                rw [hz] at hf
                simp only [Option.some.injEq] at hf; subst hf
                obtain ⟨y, g1, g2⟩ := het.run_zeroV w ε hz
                refine ⟨_, ?_, okV_sound false g2⟩
                simp only [Sem.run_bind, h5, h3, Result.andThen_ok, g1, Sem.run_pure]
          rcases mapEs_cases hr hes hx with ⟨rfl, rfl⟩ | ⟨c, clock, es', rfl, h1, h2⟩
          · obtain ⟨y, g1, g2⟩ := tail #[] (by simp [EnRs])
            refine ⟨y, ?_, g2⟩
            rw [← g1]
            unfold Instr.lookup
            rw [Sem.run_bind, run_underlying hu, Result.andThen_ok]
            rfl
          · obtain ⟨y, g1, g2⟩ := tail es' h2
            refine ⟨y, ?_, g2⟩
            rw [← g1]
            unfold Instr.lookup
            rw [Sem.run_bind, run_underlying hu, Result.andThen_ok]
            simp only
            rw [Sem.run_bind, run_getObj h1 (by simp), Result.andThen_ok]
            rfl
      · cases hf
    · cases hf
end
end Go.Lev
namespace Go.Lev
open Go
section
variable {P : Program} {C : Ctx} {ε : Env} {h : Hp} {w : World}

theorem assertF_sound (hC : CtxOk P C) {t xt : Nat} {ok : Bool} {a v : V} {x : Value} (hf : assertF C a t ok = some v) (hx : VR ε a x) : QS P ε w (Instr.typeAssert x xt t ok) v := by
  unfold assertF at hf
  split at hf
  · cases hf
  · rename_i i hi
    have hi := hC.ty _ _ hi
    have hu := hi.und
    split at hf
    · cases hf
    · rename_i hni
      have miss : ∀ (z : V), zeroV i = some z → ∃ y, (zeroValue t).run P w = .ok y w ∧ VR ε (.tup [z, .bool false]) (.tuple #[y, .bool false]) := by
        intro z hz
        obtain ⟨y, g1, g2⟩ := hi.run_zeroV w ε hz
        exact ⟨y, g1, by rw [VR]; exact ⟨[y, .bool false], VRs.cons g2 (VRs.cons (VR_bool _ _) VRs.nil), rfl⟩⟩
      split at hf
      · rw [VR] at hx; subst hx
        split at hf
        · split at hf
          · rename_i z hz
            cases hf
            obtain ⟨y, g1, g2⟩ := miss z hz
            refine ⟨_, ?_, g2⟩
            unfold Instr.typeAssert
            rw [Sem.run_bind, run_underlying hu, Result.andThen_ok]
            cases hk : i.u <;> first | exact absurd hk (hni _) | simp [g1]
          · cases hf
        · cases hf
      · rename_i tt u
        rw [VR] at hx; obtain ⟨y0, hy0, rfl⟩ := hx
        split at hf
        · rename_i htt
          have htt := beq_nat htt; subst htt
          cases hf
          refine ⟨_, ?_, okV_sound true hy0⟩
          unfold Instr.typeAssert
          rw [Sem.run_bind, run_underlying hu, Result.andThen_ok]
          cases hk : i.u <;> first | exact absurd hk (hni _) | simp
        · rename_i htt
          have hne : ¬ tt = t := fun e => by subst e; simp at htt
          split at hf
          · split at hf
            · rename_i z hz
              cases hf
              obtain ⟨y, g1, g2⟩ := miss z hz
              refine ⟨_, ?_, g2⟩
              unfold Instr.typeAssert
              rw [Sem.run_bind, run_underlying hu, Result.andThen_ok]
              cases hk : i.u <;> first | exact absurd hk (hni _) | simp [hne, g1]
            · cases hf
          · cases hf
      · cases hf

/-! ### building -/
theorem foldl_set (off : Nat) : ∀ (ys : List Value) (j : Nat) (xs : List Value), off + j + ys.length ≤ xs.length →
    (ys.zipIdx j).foldl (fun (cs : Array Value) (p : Value × Nat) => cs.setIfInBounds (off + p.2) p.1) xs.toArray = (xs.take (off + j) ++ ys ++ xs.drop (off + j + ys.length)).toArray
  | [], j, xs, _ => by simp
  | y :: ys, j, xs, h => by
    simp only [List.length_cons] at h
    simp only [List.zipIdx_cons, List.foldl_cons, List.setIfInBounds_toArray]
    rw [foldl_set off ys (j + 1) _ (by simp; omega)]
    congr 1
    have e1 : (xs.set (off + j) y).take (off + (j + 1)) = xs.take (off + j) ++ [y] := by
      rw [show off + (j + 1) = (off + j) + 1 by omega, List.take_add_one, List.take_set_of_le (by omega)]
      rw [List.getElem?_set_self (by omega)]; rfl
    have e2 : (xs.set (off + j) y).drop (off + (j + 1) + ys.length) = xs.drop (off + j + (ys.length + 1)) := by
      rw [List.drop_set_of_lt (by omega)]; congr 1; omega
    rw [e1, e2]
    simp

/-- numbered parts -/
def PartsR (ε : Env) : List (Nat × V) → List (Nat × Value) → Prop
  | [], qs => qs = []
  | p :: ps, qs => ∃ y qs', VR ε p.2 y ∧ PartsR ε ps qs' ∧ qs = (p.1, y) :: qs'

theorem fill_sound {placeV : Nat → Option (Nat × Nat)} {place : Nat → Option (Nat × Nat)} (hp : ∀ k p, placeV k = some p → place k = some p) :
    ∀ (ps : List (Nat × V)) (qs : List (Nat × Value)) (l r : List V) (xs : List Value), fillF placeV l ps = some r → VRs ε l xs →
    PartsR ε ps qs → ∃ ys, Instr.fill place xs.toArray qs = some ys.toArray ∧ VRs ε r ys
  | [], qs, l, r, xs, hf, hl, hq => by
    simp only [fillF, Option.some.injEq] at hf; subst hf
    rw [PartsR] at hq; subst hq
    exact ⟨xs, rfl, hl⟩
  | (k, v) :: ps, qs, l, r, xs, hf, hl, hq => by
      rw [PartsR] at hq; obtain ⟨y, qs', hv, hq', rfl⟩ := hq
      have hv : VR ε v y := hv
      unfold fillF at hf
      split at hf
      · cases hf
      · rename_i off size hplace
        split at hf
        · cases hf
        · rename_i hsz
          simp only [Bool.and_eq_true, Bool.not_eq_true'] at hsz
          obtain ⟨hsz, hany⟩ := hsz
          have hsz := beq_nat hsz
          have hna : v ≠ .any := fun e => by subst e; simp [isAny] at hany
          have hc := VR.cells hv hna
          have hcl := hc.length
          split at hf
          · cases hf
          · rename_i l' hl'
            unfold setParts at hl'
            split at hl'
            · rename_i hle
              cases hl'
              have hle : off + v.cells.length ≤ l.length := by simpa using hle
              have hxl := hl.length
              have e1 : y.cells.size = size := by rw [← Array.length_toList, hcl, hsz]
              have e2 : ¬ off + y.cells.size > xs.length := by rw [← Array.length_toList, hcl, hxl]; omega
              unfold Instr.fill
              rw [hp _ _ hplace]
              simp only [e1, ne_eq, not_true_eq_false, decide_false, Bool.false_or, List.size_toArray]
              rw [e1] at e2
              simp only [e2, decide_false, Bool.false_eq_true, if_false]
              have e3 : (y.cells.zipIdx.foldl (fun (cs : Array Value) (p : Value × Nat) => cs.setIfInBounds (off + p.2) p.1) xs.toArray) = (xs.take off ++ y.cells.toList ++ xs.drop (off + v.cells.length)).toArray := by
                rw [← Array.foldl_toList, Array.toList_zipIdx]
                rw [foldl_set off y.cells.toList 0 xs (by rw [hcl, hxl]; omega), hcl]
                rfl
              obtain ⟨ys, h1, h2⟩ := fill_sound hp ps qs' _ r _ hf (VRs.append (VRs.append (hl.take off) hc) (hl.drop _)) hq'
              refine ⟨ys, ?_, h2⟩
              rw [← h1, ← e3]
            · cases hl'

/-! ### the operands -/
/-- the frame's slots are as the evaluator's -/
def EvR (ε : Env) (tm : T V) (ρ : Operand → Value) (x : Operand) : Prop := VR ε (ev tm x) (ρ x)
theorem evs_sound {tm : T V} {ρ : Operand → Value} : ∀ (l : List Operand), (∀ x ∈ l, EvR ε tm ρ x) → VRs ε (evs tm l) (l.map ρ)
  | [], _ => by simp [evs, VRs]
  | x :: l, hx => by
    simp only [evs, List.map_cons]
    exact VRs.cons (hx x (by simp)) (evs_sound l fun y hy => hx y (by simp [hy]))
theorem evo_sound {tm : T V} {ρ : Operand → Value} (o : Option Operand) (ho : ∀ x ∈ o.toArray, EvR ε tm ρ x) : VRo ε (evo tm o) (o.map ρ) := by
  cases o with
  | none => simp [evo, VRo]
  | some x => simp only [evo, VRo, Option.map_some]; exact ⟨ρ x, ho x (by simp), rfl⟩
theorem evParts_sound {tm : T V} {ρ : Operand → Value} : ∀ (l : List (Nat × Operand)), (∀ p ∈ l, EvR ε tm ρ p.2) → PartsR ε (evParts tm l) (l.map fun (i, x) => (i, ρ x))
  | [], _ => by simp [evParts, PartsR]
  | p :: l, hx => by
    simp only [evParts, List.map_cons, PartsR]
    exact ⟨ρ p.2, _, hx p (by simp), evParts_sound l fun y hy => hx y (by simp [hy]), rfl⟩

theorem run_mapM_places (hC : CtxOk P C) : ∀ (fs : List Field) (pl : List (Nat × Nat)), placesF C fs = some pl → ((fs.mapM fun (f : Field) => do pure (f.offset, ← sizeOf f.type)) : Sem (List (Nat × Nat))).run P w = .ok pl w
  | [], pl, h => by simp only [placesF, Option.some.injEq] at h; subst h; rfl
  | f :: fs, pl, h => by
    unfold placesF at h
    split at h
    · rename_i j l hj hl
      cases h
      have hj := hC.ty _ _ hj
      have ih := run_mapM_places hC fs l hl
      rw [List.mapM_cons]
      simp only [Sem.run_bind, hj.run_size, Result.andThen_ok, Sem.run_pure, ih]
    · cases h

theorem aggO_some {r : Option (List V)} {v : V} (h : aggO r = some v) : ∃ l, r = some l ∧ v = .agg l := by
  unfold aggO at h; split at h
  · cases h; exact ⟨_, rfl, rfl⟩
  · cases h

theorem buildF_sound (hC : CtxOk P C) {t : Nat} {ps : List (Nat × V)} {qs : List (Nat × Value)} {v : V} (hf : buildF C t ps = some v) (hq : PartsR ε ps qs) : QS P ε w (Instr.build t qs.toArray) v := by
  unfold buildF build1 at hf
  split at hf
  · cases hf
  · rename_i i hi
    have hi := hC.ty _ _ hi
    have hu := hi.und
    split at hf
    · cases hf
    · rename_i hz
      obtain ⟨z, g1, g2⟩ := hi.run_zeroCells w ε hz
      unfold QS Instr.build
      simp only [Sem.run_bind, g1, Result.andThen_ok, run_underlying hu]
      split at hf
      · rename_i fs hk
        rw [hk]
        unfold buildStruct at hf
        split at hf
        · rename_i pl hpl
          obtain ⟨l, hl, rfl⟩ := aggO_some hf
          obtain ⟨ys, h1, h2⟩ := fill_sound (ε := ε) (place := fun k => pl.toArray[k]?) (fun k p e => by simpa using e) ps qs _ l _ hl g2 hq
          refine ⟨.agg ys.toArray, ?_, by rw [VR]; exact ⟨ys, h2, rfl⟩⟩
          have hm := run_mapM_places (w := w) hC fs.toList pl hpl
          simp only [Array.mapM_eq_mapM_toList, Sem.run_bind, Sem.run_map, hm, Result.andThen_ok, Array.toArray_toList] at h1 ⊢
          rw [h1]; rfl
        · cases hf
      · rename_i n e hk
        rw [hk]
        unfold buildArray at hf
        split at hf
        · rename_i j hj
          have hj := hC.ty _ _ hj
          obtain ⟨l, hl, rfl⟩ := aggO_some hf
          obtain ⟨ys, h1, h2⟩ := fill_sound (ε := ε) (place := fun k => some (k * j.size, j.size)) (fun k p e => e) ps qs _ l _ hl g2 hq
          refine ⟨.agg ys.toArray, ?_, by rw [VR]; exact ⟨ys, h2, rfl⟩⟩
          simp only [Sem.run_bind, hj.run_size, Result.andThen_ok, Array.toArray_toList] at h1 ⊢
          rw [h1]; rfl
        · cases hf
      · cases hf

theorem lenF_sound (hC : CtxOk P C) (hr : HR ε h w) {t : Nat} {a v : V} {x : Value} {ats : Array TypeId} {ty : TypeId} {args : Array Value} (hf : lenF C h t a = some v) (hx : VR ε a x) (h0 : ats[0]? = some t) (h1 : args[0]? = some x) :
    QS P ε w (Builtin.len_ ats ty args) v := by
  unfold lenF at hf
  split at hf
  · cases hf
  · rename_i i hi
    have hi := hC.ty _ _ hi
    have hu := hi.und
    unfold QS Builtin.len_
    rw [h0, h1]
    simp only [Sem.run_bind, run_underlying hu, Result.andThen_ok]
    split at hf
    · rename_i s hk; cases hf; rw [VR] at hx; subst hx; rw [hk]; exact ⟨_, rfl, by rw [VR]; simp [goInt, ByteArray.size]⟩
    · rename_i n e hk; cases hf; rw [hk]; exact ⟨_, rfl, by rw [VR]; rfl⟩
    · rename_i e hk
      rw [hk]
      split at hf
      · rename_i j hj
        have hj := hC.ty _ _ hj
        split at hf
        · rename_i n e' hk'
          cases hf
          have hv := hj.und; rw [hk'] at hv
          exact ⟨goInt n, by simp [run_underlying hv], by rw [VR]; rfl⟩
        · cases hf
      · cases hf
    · rename_i e hk; cases hf; rw [VR] at hx; subst hx; rw [hk]; exact ⟨_, rfl, by rw [VR]; rfl⟩
    · rename_i e b o d n c hk; cases hf; rw [VR] at hx; obtain ⟨_, _, _, _, _, rfl⟩ := hx; rw [hk]; exact ⟨_, rfl, by rw [VR]; rfl⟩
    · rename_i k e hk; cases hf; rw [VR] at hx; subst hx; rw [hk]; exact ⟨_, rfl, by rw [VR]; rfl⟩
    · rename_i k e b hk
      rw [VR] at hx; obtain ⟨c, hc, rfl⟩ := hx
      rw [hk]
      split at hf
      · rename_i es clock hb
        cases hf
        obtain ⟨es', g1, g2, _, _⟩ := map_at hr hc hb
        have hl : ∀ (a : List En) (b : List MapEntry), EnRs ε a b → b.length = a.length := by
          intro a
          induction a with
          | nil => intro b hb; rw [EnRs] at hb; subst hb; rfl
          | cons e a ih => intro b hb; rw [EnRs] at hb; obtain ⟨_, _, _, hr, rfl⟩ := hb; simp [ih _ hr]
        refine ⟨goInt es'.length, ?_, by rw [VR, hl _ _ g2]; rfl⟩
        simp [run_getObj g1]
      · cases hf
    · cases hf

theorem capF_sound (hC : CtxOk P C) {t : Nat} {a v : V} {x : Value} {ats : Array TypeId} {ty : TypeId} {args : Array Value} (hf : capF C t a = some v) (hx : VR ε a x) (h0 : ats[0]? = some t) (h1 : args[0]? = some x) :
    QS P ε w (Builtin.cap_ ats ty args) v := by
  unfold capF at hf
  split at hf
  · cases hf
  · rename_i i hi
    have hi := hC.ty _ _ hi
    have hu := hi.und
    unfold QS Builtin.cap_
    rw [h0, h1]
    simp only [Sem.run_bind, run_underlying hu, Result.andThen_ok]
    split at hf
    · rename_i e hk; cases hf; rw [VR] at hx; subst hx; rw [hk]; exact ⟨_, rfl, by rw [VR]; rfl⟩
    · rename_i e b o d n c hk; cases hf; rw [VR] at hx; obtain ⟨_, _, _, hcap, _, rfl⟩ := hx; rw [hk]
      have : _ = c := hcap
      subst this
      exact ⟨_, rfl, by rw [VR]; rfl⟩
    · cases hf

theorem minF_sound : ∀ (l : List V) (a v : V) (x : Value) (ys : List Value), minF a l = some v → VR ε a x → VRs ε l ys → QS P ε w (ys.foldlM Builtin.min2 x) v
  | [], a, v, x, ys, h, hx, hl => by
    simp only [minF, Option.some.injEq] at h; subst h
    rw [VRs] at hl; subst hl
    exact ⟨x, rfl, hx⟩
  | b :: l, a, v, x, ys, h, hx, hl => by
    obtain ⟨y, ys', hy, hl', rfl⟩ := hl.cons_inv
    unfold minF at h
    split at h
    · rename_i k m j n
      rw [VR] at hx hy; subst hx hy
      rw [List.foldlM_cons]
      obtain ⟨z, g1, g2⟩ := minF_sound l _ v (.int k (if n < m then n else m)) ys' h (by rw [VR]; cases e : iLt n m <;> simp [iLt_eq] at e <;> simp [e]; omega) hl'
      exact ⟨z, by rw [Sem.run_bind]; simpa [Builtin.min2] using g1, g2⟩
    · cases h
theorem maxF_sound : ∀ (l : List V) (a v : V) (x : Value) (ys : List Value), maxF a l = some v → VR ε a x → VRs ε l ys → QS P ε w (ys.foldlM Builtin.max2 x) v
  | [], a, v, x, ys, h, hx, hl => by
    simp only [maxF, Option.some.injEq] at h; subst h
    rw [VRs] at hl; subst hl
    exact ⟨x, rfl, hx⟩
  | b :: l, a, v, x, ys, h, hx, hl => by
    obtain ⟨y, ys', hy, hl', rfl⟩ := hl.cons_inv
    unfold maxF at h
    split at h
    · rename_i k m j n
      rw [VR] at hx hy; subst hx hy
      rw [List.foldlM_cons]
      obtain ⟨z, g1, g2⟩ := maxF_sound l _ v (.int k (if n > m then n else m)) ys' h (by rw [VR]; cases e : iLt m n <;> simp [iLt_eq] at e <;> simp [e]; omega) hl'
      exact ⟨z, by rw [Sem.run_bind]; simpa [Builtin.max2] using g1, g2⟩
    · cases h
end
end Go.Lev
namespace Go.Lev
open Go
section
variable {P : Program} {C : Ctx} {ε : Env} {h : Hp} {w : World}

/-- what only looks: the machine's answer is the evaluator's, and nothing is turned -/
theorem quiet_sound (hC : CtxOk P C) (hr : HR ε h w) {o : Oper} {tm : T V} {ρ : Operand → Value} {v : V} (hq : quiet C h tm o = some v) (hρ : ∀ x ∈ o.op.operands, EvR ε tm ρ x) :
    ∃ y, (execOp ρ o).run P w = .ok (.value y) w ∧ VR ε v y := by
  obtain ⟨dst, op, ty, pos, after, guard⟩ := o
  have wrap : ∀ {s : Sem Value} {v : V}, QS P ε w s v → ∃ y, (do pure (Next.value (← s)) : Sem Next).run P w = .ok (.value y) w ∧ VR ε v y := by
    rintro s v ⟨y, h1, h2⟩
    exact ⟨y, by rw [Sem.run_bind, h1]; rfl, h2⟩
  unfold quiet at hq
  cases op
  case move x =>
    simp only [quietTab, qMove, Option.some.injEq] at hq; subst hq
    exact ⟨ρ x, rfl, hρ x (by simp [Op.operands])⟩
  case pick c a b =>
    simp only [quietTab, qPick, pick2] at hq
    split at hq
    · rename_i t ht
      cases hq
      have hc : EvR ε tm ρ c := hρ c (by simp [Op.operands])
      unfold EvR at hc
      rw [ht, VR] at hc
      cases t
      · exact ⟨ρ b, by simp [execOp, hc, asBool], hρ b (by simp [Op.operands])⟩
      · exact ⟨ρ a, by simp [execOp, hc, asBool], hρ a (by simp [Op.operands])⟩
    · cases hq
  case load t a => exact wrap (loadF_sound hC hr hq (hρ a (by simp [Op.operands])))
  case fieldAddr t x f => exact wrap (fieldAddrF_sound hC hq (hρ x (by simp [Op.operands])))
  case nilCheck x => exact nilOk_sound hq (hρ x (by simp [Op.operands])) rfl rfl
  case binOp op t x y u => exact wrap (binF_sound hC hq (hρ x (by simp [Op.operands])) (hρ y (by simp [Op.operands])))
  case unOp op t x => exact wrap (unF_sound hq (hρ x (by simp [Op.operands])))
  case convert s d x => exact wrap (convF_sound hC hr hq (hρ x (by simp [Op.operands])))
  case extract x n => exact wrap (tupAt_sound hq (hρ x (by simp [Op.operands])))
  case indexAddr t x i => exact wrap (indexAddrF_sound hC hq (hρ x (by simp [Op.operands])) (hρ i (by simp [Op.operands])))
  case index t x i => exact wrap (indexF_sound hC hq (hρ x (by simp [Op.operands])) (hρ i (by simp [Op.operands])))
  case field t x f => exact wrap (fieldF_sound hC hq (hρ x (by simp [Op.operands])))
  case slice t x lo hi mx =>
    exact wrap (sliceF_sound hC (evo_sound lo fun y hy => hρ y (by simp only [Op.operands, Array.mem_append]; exact .inl (.inl (.inr hy)))) (evo_sound hi fun y hy => hρ y (by simp only [Op.operands, Array.mem_append]; exact .inl (.inr hy)))
      (evo_sound mx fun y hy => hρ y (by simp only [Op.operands, Array.mem_append]; exact .inr hy)) hq (hρ x (by simp [Op.operands])))
  case makeInterface t x => exact wrap (ifcOf_sound hC hq (hρ x (by simp [Op.operands])))
  case makeFunc f a b =>
    simp only [quietTab, qMakeFunc] at hq
    split at hq
    · cases hq
    · rename_i hf
      cases hq
      have ha := evs_sound (ε := ε) (tm := tm) (ρ := ρ) a.toList (fun x hx => hρ x (by simp [Op.operands]; exact .inl (by simpa using hx)))
      have hb := evs_sound (ε := ε) (tm := tm) (ρ := ρ) b.toList (fun x hx => hρ x (by simp [Op.operands]; exact .inr (by simpa using hx)))
      refine ⟨.func f (a.map ρ) (b.map ρ), rfl, ?_⟩
      rw [VR]
      exact ⟨fun l e => hf l e, _, _, ha, hb, by rw [← Array.toList_map, ← Array.toList_map, Array.toArray_toList, Array.toArray_toList]⟩
  case lookup t x k ok => exact wrap (lookupF_sound hC hr hq (hρ x (by simp [Op.operands])) (hρ k (by simp [Op.operands])))
  case typeAssert x s t ok => exact wrap (assertF_sound hC hq (hρ x (by simp [Op.operands])))
  case build t ps =>
    refine wrap ?_
    have := buildF_sound (w := w) (ε := ε) hC hq (evParts_sound (ρ := ρ) ps.toList fun p hp => hρ p.2 (by simp only [Op.operands]; exact List.mem_toArray.2 (List.mem_map.2 ⟨p, hp, rfl⟩)))
    rw [← List.map_toArray] at this
    simpa using this
  case sliceToArrayPointer t x => exact wrap (s2ap_sound hC hq (hρ x (by simp [Op.operands])))
  case call c =>
    obtain ⟨callee, args, argTypes⟩ := c
    simp only [quietTab, qCall] at hq
    split at hq
    · rename_i b
      have hargs : ∀ x ∈ args.toList, EvR ε tm ρ x := fun x hx => hρ x (by simpa [Op.operands, Call.operands] using hx)
      unfold qBuiltin at hq
      split at hq
      · unfold qLen at hq
        split at hq
        · rename_i t ts x xs h1 h2
          refine wrap (lenF_sound (ats := argTypes) (ty := ty) (args := args.map ρ) hC hr hq (hargs x (by rw [h2]; simp)) ?_ ?_)
          · have : argTypes = (t :: ts).toArray := by rw [← h1]
            rw [this]; simp
          · have : args = (x :: xs).toArray := by rw [← h2]
            rw [this]; simp
        · cases hq
      · unfold qCap at hq
        split at hq
        · rename_i t ts x xs h1 h2
          refine wrap (capF_sound (ats := argTypes) (ty := ty) (args := args.map ρ) hC hq (hargs x (by rw [h2]; simp)) ?_ ?_)
          · have : argTypes = (t :: ts).toArray := by rw [← h1]
            rw [this]; simp
          · have : args = (x :: xs).toArray := by rw [← h2]
            rw [this]; simp
        · cases hq
      · unfold qMin at hq
        split at hq
        · rename_i x xs h2
          have : QS P ε w (Builtin.min_ argTypes ty (args.map ρ)) v := by
            unfold Builtin.min_
            have : (args.map ρ).toList = ρ x :: xs.map ρ := by rw [Array.toList_map, h2]; rfl
            rw [this]
            exact minF_sound (evs tm xs) _ v (ρ x) _ hq (hargs x (by rw [h2]; simp)) (evs_sound xs fun y hy => hargs y (by rw [h2]; simp [hy]))
          exact wrap this
        · cases hq
      · unfold qMax at hq
        split at hq
        · rename_i x xs h2
          have : QS P ε w (Builtin.max_ argTypes ty (args.map ρ)) v := by
            unfold Builtin.max_
            have : (args.map ρ).toList = ρ x :: xs.map ρ := by rw [Array.toList_map, h2]; rfl
            rw [this]
            exact maxF_sound (evs tm xs) _ v (ρ x) _ hq (hargs x (by rw [h2]; simp)) (evs_sound xs fun y hy => hargs y (by rw [h2]; simp [hy]))
          exact wrap this
        · cases hq
      · cases hq
    · cases hq
  all_goals cases hq
end
end Go.Lev
namespace Go.Lev
open Go
/-! ### what makes one block -/
theorem putRow_get {d : V} : ∀ (l : List V) (t t' : T V) (i : Nat), putRow l t i = some t' → ∀ j, t'.get d j = if i ≤ j ∧ j < i + l.length then (l[j - i]?).getD d else t.get d j
  | [], t, t', i, h, j => by simp only [putRow, Option.some.injEq] at h; subst h; rw [if_neg (by simp)]
  | v :: l, t, t', i, h, j => by
    unfold putRow at h
    split at h
    · rename_i t1 ht
      rw [putRow_get l t1 t' (i + 1) h j, T.get_set ht]
      simp only [List.length_cons]
      by_cases e1 : i + 1 ≤ j ∧ j < i + 1 + l.length
      · rw [if_pos e1, if_pos (by omega)]
        rw [show j - i = (j - (i + 1)) + 1 by omega]; rfl
      · rw [if_neg e1]
        by_cases e2 : j = i
        · subst e2; rw [if_pos rfl, if_pos (by omega)]; simp
        · rw [if_neg e2, if_neg (by omega)]
    · cases h
theorem freshRow_get {l : List V} {t : T V} (h : freshRow l = some t) (j : Nat) (hj : j < l.length) : t.get .any j = (l[j]?).getD .any := by
  unfold freshRow at h
  rw [putRow_get l _ t 0 h j, if_pos (by omega), Nat.sub_zero]
theorem full_get (d v : V) (n j : Nat) : (T.full v n).get d j = v ∨ (T.full v n).get d j = d := by
  induction n generalizing j with
  | zero => exact .inr rfl
  | succ n ih =>
    rw [T.full_succ]
    cases j with
    | zero => exact .inl rfl
    | succ j => rw [T.get_succ]; split <;> exact ih _

/-- a row's cells stand for these values -/
def RowR (ε : Env) (cs : T V) (n : Nat) (C : Array Value) : Prop := ∀ i, i < n → ∃ x, C[i]? = some x ∧ VR ε (cs.get .any i) x
theorem VRs.at {ε : Env} : ∀ {l : List V} {ys : List Value}, VRs ε l ys → ∀ i, i < l.length → ∃ x, ys[i]? = some x ∧ VR ε ((l[i]?).getD .any) x
  | [], _, _, i, hi => by simp at hi
  | v :: l, _, h, i, hi => by
    obtain ⟨y, ys', hy, hl, rfl⟩ := h.cons_inv
    cases i with
    | zero => exact ⟨y, rfl, hy⟩
    | succ i => obtain ⟨x, h1, h2⟩ := VRs.at hl i (by simpa using hi); exact ⟨x, by simpa using h1, by simpa using h2⟩
theorem freshRow_row {ε : Env} {l : List V} {t : T V} {ys : List Value} (h : freshRow l = some t) (hl : VRs ε l ys) : RowR ε t l.length ys.toArray := by
  intro i hi
  obtain ⟨x, h1, h2⟩ := hl.at i hi
  exact ⟨x, by simpa using h1, by rw [freshRow_get h i hi]; exact h2⟩

theorem cells_obR {ε : Env} {b e sz n : Nat} {cs : T V} {C : Array Value} (h : RowR ε cs n C) (hn : C.size = n) : obR ε b (.cells e sz n cs true false) (.cells C e (0, 0)) :=
  ⟨C, (0, 0), rfl, h, by omega, fun _ => hn, (fun e => by cases e), rfl⟩

theorem zeros_length (z : List V) : ∀ n, (zeros z n).length = n * z.length
  | 0 => by simp [zeros]
  | n + 1 => by simp [zeros, zeros_length z n, Nat.add_mul]; omega

theorem range_zero (zc : List Value) (n : Nat) : ((List.range ((n + 1) * zc.length)).map fun i => zc.toArray[i % zc.toArray.size]!) = zc ++ ((List.range (n * zc.length)).map fun i => zc.toArray[i % zc.toArray.size]!) := by
  rw [show (n + 1) * zc.length = zc.length + n * zc.length by rw [Nat.add_mul]; omega, List.range_add, List.map_append, List.map_map]
  congr 1
  · apply List.ext_getElem
    · simp
    · intro i h1 h2
      have hi : i < zc.length := h2
      simp [Nat.mod_eq_of_lt hi, hi]
  · apply List.map_congr_left
    intro i _
    simp
theorem zeros_sound {ε : Env} {z : List V} {zc : List Value} (hz : VRs ε z zc) : ∀ n, VRs ε (zeros z n) ((List.range (n * zc.length)).map fun i => zc.toArray[i % zc.toArray.size]!)
  | 0 => by simp [zeros, VRs]
  | n + 1 => by
    rw [range_zero]
    exact VRs.append hz (zeros_sound hz n)

theorem zeroRow_sound {ε : Env} {z : List V} {zc : List Value} {n : Nat} {cs : T V} (h : zeroRow z n = some cs) (hz : VRs ε z zc) : RowR ε cs (n * zc.length) ((List.range (n * zc.length)).map fun i => zc.toArray[i % zc.toArray.size]!).toArray := by
  have hs := zeros_sound hz n
  have hl := hz.length
  unfold zeroRow at h
  split at h
  · rename_i v
    cases h
    intro i hi
    obtain ⟨y, ys', hy, hl', rfl⟩ := hz.cons_inv
    have := hl'.nil_inv; subst this
    refine ⟨y, by simp [Nat.mod_one] at hi ⊢; exact ⟨i, by simp [hi]⟩, ?_⟩
    rcases full_get .any v 24 i with e | e <;> rw [e]
    · exact hy
    · exact trivial
  · have := freshRow_row h hs
    rw [zeros_length, ← hl] at this
    exact this

section
variable {P : Program} {C : Ctx} {ε : Env}
/-- the machine makes one block, and hands on what leads to it -/
def AS (P : Program) (ε : Env) (s : Sem Value) (p : Ob × (Nat → V)) : Prop :=
  p.1 ≠ .dead ∧ ∃ (obj : Obj) (yv : Nat → Value), (∀ w, s.run P w = .ok (yv w.heap.size) { w with heap := w.heap.push obj }) ∧
    ∀ ε' b c, ε.le ε' → ε'.φ b = some c → obR ε' b p.1 obj ∧ VR ε' (p.2 b) (yv c)

theorem RowR.mono {ε ε' : Env} (h : ε.le ε') {cs : T V} {n : Nat} {A : Array Value} (r : RowR ε cs n A) : RowR ε' cs n A := fun i hi => let ⟨x, h1, h2⟩ := r i hi; ⟨x, h1, h2.mono h⟩

theorem newCells_AS {e sz n : Nat} {mk : Nat → V} {r : Option (T V)} {p : Ob × (Nat → V)} (h : newCells e sz n mk r = some p) {s : Sem Value} {A : Array Value} {yv : Nat → Value}
    (hs : ∀ w, s.run P w = .ok (yv w.heap.size) { w with heap := w.heap.push (.cells A e) }) (hrow : ∀ cs, r = some cs → RowR ε cs n A) (hn : A.size = n)
    (hv : ∀ ε' b c, ε'.φ b = some c → VR ε' (mk b) (yv c)) : AS P ε s p := by
  unfold newCells at h
  split at h
  · rename_i cs
    cases h
    refine ⟨by simp, _, yv, hs, fun ε' b c hle hb => ⟨cells_obR ((hrow cs rfl).mono hle) hn, hv ε' b c hb⟩⟩
  · cases h

theorem ptrZero_VR (ε' : Env) (b c : Nat) (h : ε'.φ b = some c) : VR ε' (ptr0 b) (.pointer (some ⟨c, 0, none⟩)) := by unfold ptr0; rw [VR]; exact ⟨c, h, rfl⟩
theorem slZero_VR {l k : Nat} (hl : l ≤ k) (ε' : Env) (b c : Nat) (h : ε'.φ b = some c) : VR ε' (sl0 l (.k k) b) (.slice (some ⟨c, 0, none⟩) l k) := by
  unfold sl0; rw [VR]; exact ⟨c, k, h, rfl, hl, by simp⟩

theorem run_newVar (w : World) (t : TypeId) (v : Value) : (newVar t v).run P w = .ok ⟨w.heap.size, 0, none⟩ { w with heap := w.heap.push (.cells v.cells t) } := by
  simp [newVar, newRow]


theorem zero_any (hC : CtxOk P C) {e : Nat} {j : TI} (hj : C.ti e = some j) (hz : j.zok = true) : ∃ z, (∀ w, (zeroValue e).run P w = .ok z w) ∧ VRs ε j.zero z.cells.toList := by
  have hj := hC.ty _ _ hj
  obtain ⟨z, g1, g2⟩ := hj.run_zeroCells (default : World) ε hz
  refine ⟨z, fun w => ?_, g2⟩
  obtain ⟨f, hf, q1, q2, q3, q4⟩ := hj.info
  obtain ⟨z', hz', _⟩ := q4 hz
  have : z' = z := by simpa [zeroValue, typeInfo, hf, hz'] using g1
  subst this
  simp [zeroValue, typeInfo, hf, hz']

theorem wrap_small {n : Nat} (h : n < 9223372036854775808) : IntKind.i64.wrap (n : Int) = n := by
  simp [IntKind.wrap, IntKind.bits, IntKind.signed]; omega

theorem rangeZero (z : Array Value) (n : Nat) : ((Array.range n).map (fun i => z[i % z.size]!)) = ((List.range n).map fun i => z.toList.toArray[i % z.toList.toArray.size]!).toArray := by
  apply Array.ext'; simp [← Array.toList_range]

theorem run_make (hC : CtxOk P C) {t e : Nat} {j : TI} (hu : P.underlying t = some (.slice e)) (hj : C.ti e = some j) {z : Value} (hz : ∀ w, (zeroValue e).run P w = .ok z w) {k1 k2 : IntKind} {l c : Nat}
    (hlc : l ≤ c) (hb : j.bytes * c ≤ 281474976710656) (hc : c < 9223372036854775808) (w : World) :
    (Instr.makeSlice t (.int k1 l) (.int k2 c)).run P w = .ok (.slice (some ⟨w.heap.size, 0, none⟩) l c)
      { w with heap := w.heap.push (.cells ((Array.range (c * j.size)).map fun i => z.cells[i % z.cells.size]!) e) } := by
  have hj := hC.ty _ _ hj
  obtain ⟨f, hf, q1, q2, q3⟩ := hj.run_info w
  have w1 := wrap_small (Nat.lt_of_le_of_lt hlc hc)
  have w2 := wrap_small hc
  have t1 : (decide ((c : Int) < 0) || decide ((j.bytes : Int) * (c : Int) > 2 ^ 48)) = false := by
    simp only [Bool.or_eq_false_iff, decide_eq_false_iff_not]
    refine ⟨by omega, ?_⟩
    have : ((j.bytes * c : Nat) : Int) ≤ ((281474976710656 : Nat) : Int) := Int.ofNat_le.2 hb
    rw [Int.natCast_mul] at this
    omega
  unfold Instr.makeSlice
  simp only [Sem.run_bind, run_underlying hu, Result.andThen_ok, asInt, asIntOf, pure_bind, hf, q2, w1, w2]
  rw [t1]
  have t2 : ¬ ((l : Int) < 0) := by omega
  have t3 : ¬ ((l : Int) > c) := by omega
  simp only [t2, t3, decide_false, Bool.or_false, Bool.false_eq_true, if_false, Sem.run_bind, run_askRoom, Result.andThen_ok, Int.toNat_natCast, hj.run_size]
  by_cases h0 : c * j.size = 0
  · rw [if_pos h0]
    simp [h0, newRow, show Array.range 0 = #[] from rfl]
  · rw [if_neg h0]
    simp [hz, newRow]

theorem makeThree_AS (hC : CtxOk P C) {t e l c : Nat} {k1 k2 : IntKind} {p : Ob × (Nat → V)} (hu : P.underlying t = some (.slice e)) (ha : make3 e l c (C.ti e) = some p) :
    AS P ε (Instr.makeSlice t (.int k1 l) (.int k2 c)) p := by
  unfold make3 at ha
  split at ha
  · rename_i j hj0
    split at ha
    · rename_i b1 b2 b3 b4
      rw [Bool.and_eq_true] at b4
      obtain ⟨b4, b5⟩ := b4
      have b1 := Nat.le_of_ble_eq_true b1
      have b2 := Nat.le_of_ble_eq_true b2
      have b3 : c < 9223372036854775808 := by rw [Nat.blt_eq] at b3; exact b3
      have b5 := beq_nat b5
      obtain ⟨z, g3, g2⟩ := zero_any (ε := ε) hC hj0 b4
      have gl := g2.length
      have hzs : z.cells.toList.length = j.size := by rw [gl, b5]
      have hrun := fun w => run_make (k1 := k1) (k2 := k2) hC hu hj0 g3 b1 b2 b3 w
      generalize hA : ((Array.range (c * j.size)).map fun i => z.cells[i % z.cells.size]!) = A at hrun
      refine newCells_AS ha (A := A) (yv := fun d => .slice (some ⟨d, 0, none⟩) l c) hrun ?_ (by rw [← hA]; simp) (fun ε' b d hb => slZero_VR b1 ε' b d hb)
      intro cs hcs
      have := zeroRow_sound hcs g2
      rw [hzs] at this
      rw [← hA, rangeZero]
      exact this
    · cases ha
  · cases ha

theorem bs_AS (hC : CtxOk P C) {t len : Nat} {ps : List (Nat × V)} {qs : Array (Nat × Value)} {p : Ob × (Nat → V)} (ha : bs2 C len ps (C.ti t) = some p) (hq : PartsR ε ps qs.toList) :
    AS P ε (Instr.buildSlice t len qs) p := by
  unfold bs2 at ha
  split at ha
  · rename_i i hi
    have hi := hC.ty _ _ hi
    split at ha
    · rename_i e hk
      have hu := hi.und; rw [hk] at hu
      unfold bs3 at ha
      split at ha
      · rename_i j hj0
        have hj := hC.ty _ _ hj0
        split at ha
        · rename_i b1 b2
          rw [Bool.and_eq_true] at b2
          obtain ⟨b2, b3⟩ := b2
          have b1 := Nat.le_of_ble_eq_true b1
          have b3 := beq_nat b3
          obtain ⟨z, g3, g2⟩ := zero_any (ε := ε) hC hj0 b2
          have hzs : z.cells.toList.length = j.size := by rw [g2.length, b3]
          unfold bs4 at ha
          split at ha
          · rename_i l hl
            have hz := zeros_sound g2 len
            obtain ⟨ys, h1, h2⟩ := fill_sound (ε := ε) (place := fun k => some (k * j.size, j.size)) (fun k p e => e) ps qs.toList _ l _ hl hz hq
            have hlen := h2.length
            refine newCells_AS ha (A := ys.toArray) (yv := fun c => .slice (some ⟨c, 0, none⟩) len len) ?_ ?_ (by simp [hlen]) (fun ε' b c hb => slZero_VR (Nat.le_refl _) ε' b c hb)
            · intro w
              unfold Instr.buildSlice
              simp only [Sem.run_bind, run_underlying hu, Result.andThen_ok, hj.run_size]
              rw [if_neg (by omega)]
              rw [hzs, ← rangeZero] at h1
              by_cases h0 : len * j.size = 0
              · rw [if_pos h0]
                have h1' : Instr.fill (fun i => some (i * j.size, j.size)) ((Array.range (len * j.size)).map fun i => (#[] : Array Value)[i % (#[] : Array Value).size]!) qs.toList = some ys.toArray := by
                  rw [← h1, h0, show Array.range 0 = (#[] : Array Nat) from rfl]; simp
                simp only [pure_bind, h1', Sem.run_bind, newRow, run_newObj, Result.andThen_ok, Sem.run_pure]
              · rw [if_neg h0]
                simp only [Sem.run_bind, g3, Result.andThen_ok, Sem.run_pure, h1, newRow, run_newObj]
            · intro cs hcs
              exact freshRow_row hcs h2
          · cases ha
        · cases ha
      · cases ha
    · cases ha
  · cases ha

theorem alloc_sound (hC : CtxOk P C) {o : Oper} {tm : T V} {ρ : Operand → Value} {p : Ob × (Nat → V)} (ha : allocF C tm o = some p) (hρ : ∀ x ∈ o.op.operands, EvR ε tm ρ x) :
    ∃ s : Sem Value, execOp ρ o = (do pure (Next.value (← s)) : Sem Next) ∧ AS P ε s p := by
  obtain ⟨dst, op, ty, pos, after, guard⟩ := o
  unfold allocF at ha
  split at ha
  · rename_i t x hop
    simp only at hop; subst hop
    have hx : EvR ε tm ρ x := hρ x (by simp [Op.operands])
    refine ⟨Instr.box t (ρ x), rfl, ?_⟩
    unfold aBox box1 at ha
    split at ha
    · cases ha
    · rename_i hany
      have hna : ev tm x ≠ .any := fun e => by rw [e] at hany; simp [isAny] at hany
      have hc := VR.cells hx hna
      unfold box2 at ha
      split at ha
      · refine newCells_AS ha (A := (ρ x).cells) (yv := fun c => .pointer (some ⟨c, 0, none⟩)) (fun w => by simp [Instr.box, run_newVar]) ?_ ?_ ptrZero_VR
        · intro cs hcs
          have := freshRow_row hcs hc
          simpa using this
        · rw [← Array.length_toList, hc.length]
      · cases ha
  · rename_i t hop
    simp only at hop; subst hop
    refine ⟨Instr.alloc t true (.tuple #[]), rfl, ?_⟩
    unfold aAlloc alloc2 at ha
    split at ha
    · rename_i i hi0
      split at ha
      · rename_i hz
        obtain ⟨z, g3, g2⟩ := zero_any (ε := ε) hC hi0 hz
        refine newCells_AS ha (A := z.cells) (yv := fun c => .pointer (some ⟨c, 0, none⟩)) (fun w => by simp [Instr.alloc, g3, run_newVar]) ?_ ?_ ptrZero_VR
        · intro cs hcs
          have := freshRow_row hcs g2
          simpa using this
        · rw [← Array.length_toList, g2.length]
      · cases ha
    · cases ha
  · rename_i t r hop
    simp only at hop; subst hop
    unfold aMap at ha
    split at ha
    · cases ha
      refine ⟨Instr.makeMap t none, rfl, by simp, .map #[] 0, fun c => .map (some c), fun w => by simp [Instr.makeMap], fun ε' b c _ hb => ⟨⟨[], rfl, by simp [EnRs], List.Pairwise.nil, by simp⟩, ?_⟩⟩
      unfold map0; rw [VR]; exact ⟨c, hb, rfl⟩
    · cases ha
  · rename_i t l c hop
    simp only at hop; subst hop
    have hl : EvR ε tm ρ l := hρ l (by simp [Op.operands])
    have hcc : EvR ε tm ρ c := hρ c (by simp [Op.operands])
    refine ⟨Instr.makeSlice t (ρ l) (ρ c), rfl, ?_⟩
    unfold aMake make2 at ha
    split at ha
    · rename_i i hi
      have hi := hC.ty _ _ hi
      split at ha
      · rename_i e ln cn hk h1 h2
        have hu := hi.und; rw [hk] at hu
        obtain ⟨k1, e1⟩ := natIdx_some h1
        obtain ⟨k2, e2⟩ := natIdx_some h2
        unfold EvR at hl hcc
        rw [e1, VR] at hl
        rw [e2, VR] at hcc
        rw [hl, hcc]
        exact makeThree_AS hC hu ha
      · cases ha
    · cases ha
  · rename_i t len ps hop
    simp only at hop; subst hop
    refine ⟨_, rfl, ?_⟩
    refine bs_AS hC ha ?_
    have := evParts_sound (ε := ε) (ρ := ρ) ps.toList fun p hp => hρ p.2 (by simp only [Op.operands]; exact List.mem_toArray.2 (List.mem_map.2 ⟨p, hp, rfl⟩))
    rw [Array.toList_map]
    exact this
  · cases ha
end
end Go.Lev
