/-
  PROVED HERE: every operation gives what the evaluator says.
  Conditions: none.
-/
import Derived.Laws.World
import Derived.Laws.Externs
import Derived.Lib.Bytealg
import Derived.Laws.IdiomStrings
import Derived.Test.YtaipbfbmdlkcpaaGreatDoorLevB
namespace Go.Lev
open Go
section
variable {P : Program} {C : Ctx} {ε : Env} {h : Hp} {w w0 : World} {pd : Pd}
/-! ### storing -/
def setRow (A : Array Value) (o : Nat) : List Value → Array Value
  | [] => A
  | y :: ys => setRow (A.setIfInBounds o y) (o + 1) ys
theorem setRow_size : ∀ (ys : List Value) (A : Array Value) (o : Nat), (setRow A o ys).size = A.size
  | [], _, _ => rfl
  | y :: ys, A, o => by rw [setRow, setRow_size ys]; simp

theorem cellOne_one {v : V} {y : Value} (h : v.cell1 = true) (hv : VR ε v y) : y.oneCell' = true := by
  cases v <;> simp [V.cell1] at h <;> simp only [VR] at hv <;> first | (subst hv; rfl) | (obtain ⟨_, _, rfl⟩ := hv; rfl) | (obtain ⟨_, _, _, _, _, rfl⟩ := hv; rfl)

/-- another world, but for what is said of its blocks -/
structure SameBut (w w' : World) (c : Nat) (o : Obj) : Prop where
  heap : ∀ x, w'.heap[x]? = if x = c then some o else w.heap[x]?
  size : w'.heap.size = w.heap.size
  os : w'.os = w.os
  out : w'.output = w.output
  tape : w'.tape = w.tape
theorem SameBut.trans {w w1 w2 : World} {c : Nat} {o o' : Obj} (a : SameBut w w1 c o) (b : SameBut w1 w2 c o') : SameBut w w2 c o' where
  heap := by intro x; rw [b.heap, a.heap]; split <;> rfl
  size := b.size.trans a.size
  os := b.os.trans a.os
  out := b.out.trans a.out
  tape := b.tape.trans a.tape
theorem SameBut.refl {w : World} {c : Nat} {o : Obj} (h : w.heap[c]? = some o) : SameBut w w c o where
  heap := by intro x; split <;> simp_all
  size := rfl
  os := rfl
  out := rfl
  tape := rfl
theorem SameBut.setCell {w : World} {c o e : Nat} {A : Array Value} {fz : Nat × Nat} (h : w.heap[c]? = some (.cells A e fz)) (y : Value) : SameBut w (w.setCell ⟨c, o, none⟩ y) c (.cells (A.setIfInBounds o y) e fz) where
  heap := by
    intro x
    simp only [World.setCell, Array.getElem?_modify]
    by_cases e : c = x
    · subst e; simp [h]
    · rw [if_neg e, if_neg (fun e' => e e'.symm)]
  size := by simp [World.setCell]
  os := rfl
  out := rfl
  tape := rfl

/-- which of a block's cells may not be written -/
def fzOf (tl : Bool) (n : Nat) : Nat × Nat := if tl = true then (n, n + 1) else (0, 0)
theorem not_frozen {c o e : Nat} {A : Array Value} {tl : Bool} (h : w.heap[c]? = some (.cells A e (fzOf tl A.size))) (ho : o < A.size) : w.frozen? ⟨c, o, none⟩ = false := by
  unfold World.frozen? fzOf at *
  rw [h]
  cases tl <;> simp <;> omega

theorem run_storeCells : ∀ (l : List V) (ys : List Value) (c o i e : Nat) (A : Array Value) (tl : Bool) (w : World), w.heap[c]? = some (.cells A e (fzOf tl A.size)) → VRs ε l ys → (l.all V.cell1 = true) → o + i + l.length ≤ A.size →
    ∃ w', (storeCells ⟨c, o, none⟩ ys i).run P w = .ok () w' ∧ SameBut w w' c (.cells (setRow A (o + i) ys) e (fzOf tl A.size))
  | [], ys, c, o, i, e, A, tl, w, hw, hl, _, _ => by
    have := hl.nil_inv; subst this
    exact ⟨w, rfl, .refl hw⟩
  | v :: l, ys, c, o, i, e, A, tl, w, hw, hl, hc, hn => by
    obtain ⟨y, ys', hy, hl', rfl⟩ := hl.cons_inv
    simp only [List.all_cons, Bool.and_eq_true] at hc
    simp only [List.length_cons] at hn
    have h1 := cellOne_one hc.1 hy
    have hcell : w.cell? ⟨c, o + i, none⟩ = some A[o + i] := by rw [cell_of hw]; simp
    have hstore : (store (⟨c, o + i, none⟩ : Addr) y).run P w = .ok () (w.setCell ⟨c, o + i, none⟩ y) := by
      rw [run_store P w _ _ _ h1, hcell]
      simp [not_frozen hw (o := o + i) (by omega)]
    have hs := SameBut.setCell (o := o + i) hw y
    have hw1 : (w.setCell ⟨c, o + i, none⟩ y).heap[c]? = some (.cells (A.setIfInBounds (o + i) y) e (fzOf tl (A.setIfInBounds (o + i) y).size)) := by
      rw [hs.heap]; simp
    obtain ⟨w', g1, g2⟩ := run_storeCells l ys' c o (i + 1) e _ tl _ hw1 hl' hc.2 (by simp; omega)
    refine ⟨w', ?_, ?_⟩
    · unfold storeCells
      rw [Sem.run_bind, add_addr, hstore, Result.andThen_ok, g1]
    · have := hs.trans g2
      simpa [setRow, Nat.add_assoc] using this

theorem putCells_all : ∀ (l : List V) (cs cs' : T V) (o : Nat), putCells l cs o = some cs' → l.all V.cell1 = true
  | [], _, _, _, _ => rfl
  | v :: l, cs, cs', o, h => by
    unfold putCells at h
    split at h
    · rename_i hc
      split at h
      · simp [hc, putCells_all l _ _ _ h]
      · cases h
    · cases h
theorem putCells_row : ∀ (l : List V) (ys : List Value) (cs cs' : T V) (o n : Nat) (A : Array Value), putCells l cs o = some cs' → VRs ε l ys → RowR ε cs n A → n ≤ A.size → RowR ε cs' n (setRow A o ys)
  | [], ys, cs, cs', o, n, A, h, hl, hr, _ => by
    have := hl.nil_inv; subst this
    simp only [putCells, Option.some.injEq] at h; subst h; exact hr
  | v :: l, ys, cs, cs', o, n, A, h, hl, hr, hn => by
    obtain ⟨y, ys', hy, hl', rfl⟩ := hl.cons_inv
    unfold putCells at h
    split at h
    · split at h
      · rename_i cs1 hcs1
        refine putCells_row l ys' cs1 cs' (o + 1) n _ h hl' ?_ (by simpa using hn)
        intro i hi
        obtain ⟨x, h1, h2⟩ := hr i hi
        rw [T.get_set hcs1]
        by_cases e : i = o
        · subst e; exact ⟨y, by rw [Array.getElem?_setIfInBounds, if_pos rfl, if_pos (by omega)], by rw [if_pos rfl]; exact hy⟩
        · exact ⟨x, by rw [Array.getElem?_setIfInBounds_ne (by omega)]; exact h1, by simpa [e] using h2⟩
      · cases h
    · cases h
/-- the same for cells that lie behind what is known: what is known grows -/
theorem putCells_grow : ∀ (l : List V) (ys : List Value) (cs cs' : T V) (o : Nat) (A : Array Value), putCells l cs o = some cs' → VRs ε l ys → RowR ε cs o A → o + l.length ≤ A.size → RowR ε cs' (o + l.length) (setRow A o ys)
  | [], ys, cs, cs', o, A, h, hl, hr, _ => by
    have := hl.nil_inv; subst this
    simp only [putCells, Option.some.injEq] at h; subst h; simpa [setRow] using hr
  | v :: l, ys, cs, cs', o, A, h, hl, hr, hn => by
    obtain ⟨y, ys', hy, hl', rfl⟩ := hl.cons_inv
    unfold putCells at h
    simp only [List.length_cons] at hn ⊢
    split at h
    · split at h
      · rename_i cs1 hcs1
        have := putCells_grow l ys' cs1 cs' (o + 1) (A.setIfInBounds o y) h hl' (by
          intro i hi
          rw [T.get_set hcs1]
          by_cases e : i = o
          · subst e; exact ⟨y, by rw [Array.getElem?_setIfInBounds, if_pos rfl, if_pos (by omega)], by rw [if_pos rfl]; exact hy⟩
          · obtain ⟨x, h1, h2⟩ := hr i (by omega)
            exact ⟨x, by rw [Array.getElem?_setIfInBounds_ne (by omega)]; exact h1, by simpa [e] using h2⟩) (by simp; omega)
        rw [show o + (l.length + 1) = o + 1 + l.length by omega]
        exact this
      · cases h
    · cases h

theorem putRowC_cells {l : List V} {cs cs' : T V} {o : Nat} (h : putRowC l cs o = some cs') : putCells l cs o = some cs' := by
  unfold putRowC at h
  split at h
  · rename_i v
    unfold putOne at h
    unfold putCells
    split at h
    · simp [h, putCells]
    · cases h
  · exact h

theorem storeAt_sound (hw : WR w0 ε pd h w) {b o c : Nat} {l : List V} {h' : Hp} {ys : List Value} (hf : storeAt h b o l = some h') (hb : ε.φ b = some c) (hl : VRs ε l ys) :
    ∃ w', (storeCells ⟨c, o, none⟩ ys).run P w = .ok () w' ∧ WR w0 ε pd h' w' := by
  unfold storeAt storeOb at hf
  split at hf
  · rename_i e sz n cs ex tl hob
    split at hf
    · rename_i hle
      have hle := Nat.le_of_ble_eq_true hle
      unfold storeSet at hf
      split at hf
      · rename_i cs' hcs
        have hput := putRowC_cells hcs
        obtain ⟨ob, ho, hro⟩ := hw.hr.blk b c hb
        rw [hob] at hro
        obtain ⟨A, fz, rfl, hk, hn, h1, h2, h3⟩ := hro
        have hfz : fz = fzOf tl A.size := h3
        subst hfz
        obtain ⟨w', g1, g2⟩ := run_storeCells (P := P) l ys c o 0 e A tl w ho hl (putCells_all _ _ _ _ hput) (by have : o + l.length ≤ n := hle; omega)
        refine ⟨w', g1, ?_⟩
        refine hw.set hb hf (by rw [hob]; simp) g2.heap ?_ g2.size g2.os g2.out g2.tape
        refine ⟨setRow A (o + 0) ys, fzOf tl A.size, rfl, ?_, ?_, ?_, ?_, ?_⟩
        · have := putCells_row l ys cs cs' o n A hput hl hk hn
          rw [Nat.add_zero]; exact this
        · rw [setRow_size]; exact hn
        · intro e; rw [setRow_size]; exact h1 e
        · intro e; rw [setRow_size]; exact h2 e
        · rw [setRow_size]; rfl
      · cases hf
    · cases hf
  · cases hf

theorem cells_ne_any {v : V} {cs cs' : T V} {o : Nat} (h : putRowC v.cells cs o = some cs') : v ≠ .any := by
  rintro rfl
  simp [V.cells, putRowC, putOne, V.cell1] at h

theorem storeF_sound (hC : CtxOk P C) (hw : WR w0 ε pd h w) {t : Nat} {a v : V} {x y : Value} {h' : Hp} (hf : storeF C h t a v = some h') (hx : VR ε a x) (hy : VR ε v y) :
    ∃ w', (Instr.storeAt t x y).run P w = .ok () w' ∧ WR w0 ε pd h' w' := by
  unfold storeF at hf
  split at hf
  · rename_i b o
    rw [VR] at hx; obtain ⟨c, hc, rfl⟩ := hx
    unfold storeTi at hf
    split at hf
    · rename_i i hi
      have hi := hC.ty _ _ hi
      split at hf
      · rename_i hlen
        have hlen := beq_nat hlen
        have hna : v ≠ .any := by
          have hf' := hf
          unfold storeAt storeOb at hf'
          split at hf'
          · split at hf'
            · unfold storeSet at hf'
              split at hf'
              · rename_i hcs; exact cells_ne_any hcs
              · cases hf'
            · cases hf'
          · cases hf'
        have hcells := VR.cells hy hna
        obtain ⟨w', g1, g2⟩ := storeAt_sound (P := P) hw hf hc hcells
        refine ⟨w', ?_, g2⟩
        have hsz : y.cells.size = i.size := by rw [← Array.length_toList, hcells.length, hlen]
        unfold Instr.storeAt Instr.sureAddr storeVar
        simp only [pure_bind, Sem.run_bind, hi.run_size, Result.andThen_ok, hsz, ne_eq, not_true_eq_false, if_false]
        exact g1
      · cases hf
    · cases hf
  · cases hf
end
end Go.Lev
namespace Go.Lev
open Go
section
variable {P : Program} {C : Ctx} {ε : Env} {h : Hp} {w w0 : World} {pd : Pd}
/-! ### maps: turning -/
theorem SameBut.setObj {c : Nat} {o o' : Obj} (h : w.heap[c]? = some o) (hn : ∀ a b d, o ≠ .cells a b d) : ∃ w', (setObj c o').run P w = .ok () w' ∧ SameBut w w' c o' := by
  refine ⟨{ w with heap := w.heap.setIfInBounds c o' }, ?_, ?_⟩
  · unfold Go.setObj
    simp only [Sem.run, h]
  · have hlt := (Array.getElem?_eq_some_iff.1 h).1
    constructor
    · intro x
      simp only [Array.getElem?_setIfInBounds]
      by_cases e : c = x
      · subst e; simp [hlt]
      · rw [if_neg e, if_neg (fun e' => e e'.symm)]
    · simp
    · rfl
    · rfl
    · rfl

theorem putEn_born (k v : V) (b : Nat) : ∀ es : List En, (putEn k v b es).map (·.born) = es.map (·.born)
  | [] => rfl
  | e :: es => by
    unfold putEn
    split
    · rename_i hb; simp [beq_nat hb]
    · simp [putEn_born k v b es]
theorem born_ok {es es' : List En} {clock : Nat} (h : es'.map (·.born) = es.map (·.born)) (hp : es.Pairwise (fun x y => x.born ≠ y.born)) (hb : ∀ e ∈ es, e.born < clock) :
    es'.Pairwise (fun x y => x.born ≠ y.born) ∧ ∀ e ∈ es', e.born < clock := by
  constructor
  · have : (es.map (·.born)).Pairwise (· ≠ ·) := List.pairwise_map.2 hp
    rw [← h] at this
    exact List.pairwise_map.1 this
  · intro e he
    have : e.born ∈ es'.map (·.born) := List.mem_map.2 ⟨e, he, rfl⟩
    rw [h] at this
    obtain ⟨e', h1, h2⟩ := List.mem_map.1 this
    rw [← h2]; exact hb e' h1

theorem putEn_sound {k x : V} {K X : Value} (hk : VR ε k K) (hx : VR ε x X) : ∀ (es : List En) (es' : List MapEntry) (q : Nat) (e : En), EnRs ε es es' → es[q]? = some e → es.Pairwise (fun x y => x.born ≠ y.born) →
    EnRs ε (putEn k x e.born es) (es'.modify q fun E => { E with key := K, val := X })
  | [], _, q, e, _, h, _ => by simp at h
  | a :: es, es', q, e, hr, h, hp => by
    rw [EnRs] at hr; obtain ⟨E, Es, hE, hEs, rfl⟩ := hr
    rw [List.pairwise_cons] at hp
    cases q with
    | zero =>
      simp only [List.getElem?_cons_zero, Option.some.injEq] at h; subst h
      unfold putEn
      have : Nat.beq a.born a.born = true := by simp
      rw [this]
      simp only [List.modify_zero_cons, EnRs]
      exact ⟨{ E with key := K, val := X }, Es, ⟨hk, hx, hE.2.2⟩, hEs, rfl⟩
    | succ q =>
      have h' : es[q]? = some e := by simpa using h
      have hne : a.born ≠ e.born := hp.1 e (List.mem_of_getElem? h')
      unfold putEn
      have : Nat.beq a.born e.born = false := by
        cases hb : Nat.beq a.born e.born with
        | true => exact absurd (beq_nat hb) hne
        | false => rfl
      rw [this]
      simp only [List.modify_succ_cons, EnRs]
      exact ⟨E, _, hE, putEn_sound hk hx es Es q e hEs h' hp.2, rfl⟩

theorem EnRs.snoc {es : List En} {es' : List MapEntry} (h : EnRs ε es es') {e : En} {E : MapEntry} (he : EnR ε e E) : EnRs ε (es ++ [e]) (es' ++ [E]) := by
  induction es generalizing es' with
  | nil => rw [EnRs] at h; subst h; simp [EnRs, he]
  | cons a es ih =>
    rw [EnRs] at h; obtain ⟨A, As, hA, hAs, rfl⟩ := h
    simp only [List.cons_append, EnRs]
    exact ⟨A, _, hA, ih hAs, rfl⟩
theorem EnRs.length {es : List En} {es' : List MapEntry} (h : EnRs ε es es') : es'.length = es.length := by
  induction es generalizing es' with
  | nil => rw [EnRs] at h; subst h; rfl
  | cons a es ih => rw [EnRs] at h; obtain ⟨A, As, hA, hAs, rfl⟩ := h; simp [ih hAs]

theorem mapKT_some (hC : CtxOk P C) {t kt et : Nat} (h : mapKT C t = some (kt, et)) : P.underlying t = some (.map kt et) := by
  unfold mapKT at h
  split at h
  · rename_i i hi
    have hi := hC.ty _ _ hi
    split at h
    · rename_i k e hk; cases h; rw [← hk]; exact hi.und
    · cases h
  · cases h

theorem mapAt_some (hw : WR w0 ε pd h w) {b c clock : Nat} {es : List En} (hb : ε.φ b = some c) (hm : mapAt h b = some (es, clock)) :
    h.get b = .map es clock ∧ ∃ es', w.heap[c]? = some (.map es'.toArray clock) ∧ EnRs ε es es' ∧ es.Pairwise (fun x y => x.born ≠ y.born) ∧ ∀ e ∈ es, e.born < clock := by
  unfold mapAt at hm
  split at hm
  · rename_i e2 c2 hg
    cases hm
    exact ⟨hg, map_at hw.hr hb hg⟩
  · cases hm

/-- the entries of a map are turned -/
theorem map_set (hw : WR w0 ε pd h w) {b c clock clock' : Nat} {es es2 : List En} {es' es2' : List MapEntry} {h' : Hp} (hb : ε.φ b = some c) (hg : h.get b = .map es clock) (hs : h.set b (.map es2 clock') = some h')
    (ho : w.heap[c]? = some (.map es'.toArray clock)) (hr : EnRs ε es2 es2') (hp : es2.Pairwise (fun x y => x.born ≠ y.born)) (hl : ∀ e ∈ es2, e.born < clock') :
    ∃ w', (setObj c (.map es2'.toArray clock')).run P w = .ok () w' ∧ WR w0 ε pd h' w' := by
  obtain ⟨w', g1, g2⟩ := SameBut.setObj (P := P) (o' := .map es2'.toArray clock') ho (by simp)
  exact ⟨w', g1, hw.set hb hs (by rw [hg]; simp) g2.heap ⟨es2', rfl, hr, hp, hl⟩ g2.size g2.os g2.out g2.tape⟩

theorem keyStays (hC : CtxOk P C) {kt : Nat} {k : V} {K : Value} (hk : keyNow C kt k = true) (hK : VR ε k K) : (Instr.keyThatStays K K).run P w = .ok K w := by
  have : Instr.sameBits 10000 K K = true := by
    rcases keyNow_some hC hk hK with ⟨kk, n, q, rfl, rfl, hu⟩ | ⟨s, rfl, rfl, hu⟩ | ⟨l, ys, fs, rfl, rfl, hys, hu, hd, hp⟩
    · unfold Instr.sameBits; simp
    · show ((ByteArray.mk s.toArray) == (ByteArray.mk s.toArray)) = true
      rw [beq_toListBytes]; simp
    · show (ys.toArray.size == ys.toArray.size && (ys.toArray.toList.zip ys.toArray.toList).all fun (x, y) => Instr.sameBits 9999 x y) = true
      have : ∀ (l : List V) (ys : List Value), l.all det1 = true → VRs ε l ys → ((ys.zip ys).all fun (x, y) => Instr.sameBits 9999 x y) = true := by
        intro l
        induction l with
        | nil => intro ys _ h; rw [h.nil_inv]; rfl
        | cons v l ih =>
          intro ys hd h
          obtain ⟨y, ys', h1, h2, rfl⟩ := h.cons_inv
          simp only [List.all_cons, Bool.and_eq_true] at hd
          rw [List.zip_cons_cons, List.all_cons, ih ys' hd.2 h2, Bool.and_true]
          cases v <;> simp [det1] at hd <;> rw [VR] at h1 <;> subst h1
          · simp [Instr.sameBits]
          · simp [Instr.sameBits]
          · rename_i s
            show ((ByteArray.mk s.toArray) == (ByteArray.mk s.toArray)) = true
            rw [beq_toListBytes]; simp
      simp [this l ys hd hys]
  unfold Instr.keyThatStays
  rw [if_pos this]; rfl

theorem mapUpdF_sound (hC : CtxOk P C) (hw : WR w0 ε pd h w) {t : Nat} {m k x : V} {M K X : Value} {h' : Hp} (hf : mapUpdF C h t m k x = some h') (hm : VR ε m M) (hk : VR ε k K) (hx : VR ε x X) :
    ∃ w', (Instr.mapUpdate t M K X).run P w = .ok () w' ∧ WR w0 ε pd h' w' := by
  unfold mapUpdF at hf
  split at hf
  · rename_i kt et b hkt
    have hu := mapKT_some hC hkt
    rw [VR] at hm; obtain ⟨c, hb, rfl⟩ := hm
    split at hf
    · rename_i es clock hat hkn
      obtain ⟨hg, es', ho, hr, hp, hl⟩ := mapAt_some hw hb hat
      have hck := run_checkKey (w := w) hC hkn hk false
      unfold Instr.mapUpdate
      simp only [Sem.run_bind, run_underlying hu, Result.andThen_ok, run_getObj ho (by simp), hck]
      split at hf
      · rename_i e hfn
        obtain ⟨r', h3, h4⟩ := run_findKey (w := w) hC hkn hk hr hfn
        obtain ⟨q, E, g1, g2, g3, rfl, g5⟩ := h4
        have hok := born_ok (putEn_born k x e.born es) hp hl
        obtain ⟨w', w1, w2⟩ := map_set (P := P) hw hb hg hf ho (putEn_sound hk hx es es' q e hr g1 hp) hok.1 hok.2
        refine ⟨w', ?_, w2⟩
        have hkey : ((es'.toArray[q]?).map (·.key)).getD K = K := by simp [g2, g5]
        simp only [h3, Result.andThen_ok, Nat.zero_add, Sem.run_bind, hkey, keyStays hC hkn hk]
        rw [← w1]; simp
      · rename_i hfn
        obtain ⟨r', h3, h4⟩ := run_findKey (w := w) hC hkn hk hr hfn
        cases h4
        have hnew : EnR ε ⟨k, x, clock⟩ { key := K, val := X, born := clock } := ⟨hk, hx, rfl⟩
        obtain ⟨w', w1, w2⟩ := map_set (P := P) hw hb hg hf ho (hr.snoc hnew) (by
          rw [List.pairwise_append]
          refine ⟨hp, List.pairwise_singleton _ _, fun a ha b hb => ?_⟩
          simp only [List.mem_singleton] at hb; subst hb
          have := hl a ha; simp only; omega) (by
          intro e he
          rcases List.mem_append.1 he with he | he
          · have := hl e he; omega
          · simp only [List.mem_singleton] at he; subst he; simp)
        refine ⟨w', ?_, w2⟩
        simp only [h3, Result.andThen_ok]
        rw [← w1]; simp
      · cases hf
    · cases hf
  · cases hf

theorem mapEntryF_sound (hC : CtxOk P C) (hw : WR w0 ε pd h w) {t : Nat} {m k v : V} {M K : Value} {h' : Hp} (hf : mapEntryF C h t m k = some (v, h')) (hm : VR ε m M) (hk : VR ε k K) :
    ∃ y w', (Instr.mapEntry t M K).run P w = .ok y w' ∧ WR w0 ε pd h' w' ∧ VR ε v y := by
  unfold mapEntryF at hf
  split at hf
  · rename_i kt et b hkt
    have hu := mapKT_some hC hkt
    rw [VR] at hm; obtain ⟨c, hb, rfl⟩ := hm
    split at hf
    · rename_i es clock i hat hkn hi
      have hi := hC.ty _ _ hi
      obtain ⟨hg, es', ho, hr, hp, hl⟩ := mapAt_some hw hb hat
      have hck := run_checkKey (w := w) hC hkn hk false
      unfold Instr.mapEntry
      simp only [Sem.run_bind, run_underlying hu, Result.andThen_ok, run_getObj ho (by simp), hck]
      split at hf
      · rename_i e hfn
        split at hf
        · rename_i h1 hset
          cases hf
          obtain ⟨r', h3, h4⟩ := run_findKey (w := w) hC hkn hk hr hfn
          obtain ⟨q, E, g1, g2, g3, rfl, g5⟩ := h4
          have hok := born_ok (putEn_born k e.val e.born es) hp hl
          have hput := putEn_sound (x := e.val) (X := E.val) hk g3.2.1 es es' q e hr g1 hp
          obtain ⟨w', w1, w2⟩ := map_set (P := P) hw hb hg hset ho hput hok.1 hok.2
          refine ⟨.tuple #[E.val, goInt e.born], w', ?_, w2, by rw [VR]; exact ⟨[E.val, goInt e.born], VRs.cons g3.2.1 (VRs.cons (by rw [VR]; rfl) VRs.nil), rfl⟩⟩
          have hkey : ((es'.toArray[q]?).map (·.key)).getD K = K := by simp [g2, g5]
          have hborn : ((es'.toArray[q]?).map (fun e => (e.born : Int))).getD 0 = (e.born : Int) := by simp [g2, g3.2.2]
          have hmod : es'.toArray.modify q (fun e => { e with key := K }) = (es'.modify q fun E' => { E' with key := K, val := E.val }).toArray := by
            rw [List.modify_toArray]
            congr 1
            apply List.ext_getElem?
            intro j
            simp only [List.getElem?_modify]
            by_cases hj : q = j
            · subst hj; simp [g2]
            · simp [hj]
          simp only [h3, Result.andThen_ok, Nat.zero_add, Sem.run_bind, hkey, keyStays hC hkn hk, hmod, w1, hborn, Sem.run_pure]
        · cases hf
      · rename_i z hfn hz
        split at hf
        · rename_i h1 hset
          cases hf
          obtain ⟨r', h3, h4⟩ := run_findKey (w := w) hC hkn hk hr hfn
          cases h4
          obtain ⟨y, z1, z2⟩ := hi.run_zeroV w ε hz
          have hnew : EnR ε ⟨k, z, clock⟩ { key := K, val := y, born := clock } := ⟨hk, z2, rfl⟩
          obtain ⟨w', w1, w2⟩ := map_set (P := P) hw hb hg hset ho (hr.snoc hnew) (by
            rw [List.pairwise_append]
            refine ⟨hp, List.pairwise_singleton _ _, fun a ha b hb => ?_⟩
            simp only [List.mem_singleton] at hb; subst hb
            have := hl a ha; simp only; omega) (by
            intro e he
            rcases List.mem_append.1 he with he | he
            · have := hl e he; omega
            · simp only [List.mem_singleton] at he; subst he; simp)
          refine ⟨.tuple #[y, goInt clock], w', ?_, w2, by rw [VR]; exact ⟨[y, goInt clock], VRs.cons z2 (VRs.cons (by rw [VR]; rfl) VRs.nil), rfl⟩⟩
          have hpush : es'.toArray.push ({ key := K, val := y, born := clock } : MapEntry) = (es' ++ [({ key := K, val := y, born := clock } : MapEntry)]).toArray := by simp
          simp only [h3, Result.andThen_ok, z1, Sem.run_bind, hpush, w1, Sem.run_pure]
        · cases hf
      · cases hf
    · cases hf
  · cases hf

theorem findBorn_some : ∀ {es : List En} {n : Nat} {e : En}, findBorn n es = some e → e.born = n ∧ ∃ q : Nat, es[q]? = some e
  | [], n, e, h => by simp [findBorn] at h
  | a :: es, n, e, h => by
    unfold findBorn at h
    split at h
    · rename_i hb; cases h; exact ⟨beq_nat hb, 0, rfl⟩
    · obtain ⟨h1, q, h2⟩ := findBorn_some h; exact ⟨h1, q + 1, by simpa using h2⟩

/-- the place of the entry of one birth -/
theorem findIdx_born : ∀ (es : List En) (es' : List MapEntry) (q : Nat) (e : En), EnRs ε es es' → es[q]? = some e → es.Pairwise (fun x y => x.born ≠ y.born) →
    es'.findIdx? (fun E => (E.born : Int) == (e.born : Int)) = some q
  | [], _, q, e, _, h, _ => by simp at h
  | a :: es, es', q, e, hr, h, hp => by
    rw [EnRs] at hr; obtain ⟨E, Es, hE, hEs, rfl⟩ := hr
    rw [List.pairwise_cons] at hp
    cases q with
    | zero =>
      simp only [List.getElem?_cons_zero, Option.some.injEq] at h; subst h
      simp [List.findIdx?_cons, hE.2.2]
    | succ q =>
      have h' : es[q]? = some e := by simpa using h
      have hne : a.born ≠ e.born := hp.1 e (List.mem_of_getElem? h')
      have ih := findIdx_born es Es q e hEs h' hp.2
      have : ((E.born : Int) == (e.born : Int)) = false := by rw [hE.2.2]; simp; omega
      simp [List.findIdx?_cons, this, ih]

theorem entryStoreF_sound (hw : WR w0 ε pd h w) {t : Nat} {m s x : V} {M S X : Value} {h' : Hp} (hf : entryStoreF h m s x = some h') (hm : VR ε m M) (hs : VR ε s S) (hx : VR ε x X) :
    ∃ w', (Instr.entryStore t M S X).run P w = .ok () w' ∧ WR w0 ε pd h' w' := by
  unfold entryStoreF at hf
  split at hf
  · rename_i b kk n
    simp only [VR] at hm hs; obtain ⟨c, hb, rfl⟩ := hm; subst hs
    split at hf
    · rename_i es clock hat
      obtain ⟨hg, es', ho, hr, hp, hl⟩ := mapAt_some hw hb hat
      split at hf
      · rename_i e hfb
        obtain ⟨hbn, q, hq⟩ := findBorn_some hfb
        subst hbn
        have hE : ∃ E, es'[q]? = some E ∧ EnR ε e E := by
          clear hfb hf hg ho hp hl hat
          induction es generalizing es' q with
          | nil => simp at hq
          | cons a es ih =>
            rw [EnRs] at hr; obtain ⟨A, As, hA, hAs, rfl⟩ := hr
            cases q with
            | zero => simp only [List.getElem?_cons_zero, Option.some.injEq] at hq; subst hq; exact ⟨A, rfl, hA⟩
            | succ q => obtain ⟨E, h1, h2⟩ := ih As hAs q (by simpa using hq); exact ⟨E, by simpa using h1, h2⟩
        obtain ⟨E, hE1, hE2⟩ := hE
        have hok := born_ok (putEn_born e.key x e.born es) hp hl
        have hput := putEn_sound (K := E.key) hE2.1 hx es es' q e hr hq hp
        obtain ⟨w', w1, w2⟩ := map_set (P := P) hw hb hg hf ho hput hok.1 hok.2
        refine ⟨w', ?_, w2⟩
        have hidx : es'.findIdx? (fun E => (E.born : Int) == Int.ofNat e.born) = some q := findIdx_born es es' q e hr hq hp
        have hmod : es'.toArray.modify q (fun e => { e with val := X }) = (es'.modify q fun E' => { E' with key := E.key, val := X }).toArray := by
          rw [List.modify_toArray]
          congr 1
          apply List.ext_getElem?
          intro j
          simp only [List.getElem?_modify]
          by_cases hj : q = j
          · subst hj; simp [hE1]
          · simp [hj]
        unfold Instr.entryStore
        simp only [Sem.run_bind, run_getObj ho (by simp), Result.andThen_ok, asInt, asIntOf, pure_bind, List.findIdx?_toArray, hidx, hmod, w1]
      · cases hf
    · cases hf
  · cases hf

theorem delEn_sub : ∀ (b : Nat) (es : List En), (delEn b es).Sublist es
  | _, [] => .slnil
  | b, e :: es => by
    unfold delEn
    split
    · exact List.sublist_cons_self _ _
    · exact (delEn_sub b es).cons_cons _
theorem delEn_sound : ∀ (es : List En) (es' : List MapEntry) (q : Nat) (e : En), EnRs ε es es' → es[q]? = some e → es.Pairwise (fun x y => x.born ≠ y.born) → EnRs ε (delEn e.born es) (es'.eraseIdx q)
  | [], _, q, e, _, h, _ => by simp at h
  | a :: es, es', q, e, hr, h, hp => by
    rw [EnRs] at hr; obtain ⟨E, Es, hE, hEs, rfl⟩ := hr
    rw [List.pairwise_cons] at hp
    cases q with
    | zero =>
      simp only [List.getElem?_cons_zero, Option.some.injEq] at h; subst h
      unfold delEn
      have : Nat.beq a.born a.born = true := by simp
      rw [this]
      exact hEs
    | succ q =>
      have h' : es[q]? = some e := by simpa using h
      have hne : a.born ≠ e.born := hp.1 e (List.mem_of_getElem? h')
      unfold delEn
      have : Nat.beq a.born e.born = false := by
        cases hb : Nat.beq a.born e.born with
        | true => exact absurd (beq_nat hb) hne
        | false => rfl
      rw [this]
      simp only [List.eraseIdx_cons_succ, EnRs]
      exact ⟨E, _, hE, delEn_sound es Es q e hEs h' hp.2, rfl⟩

theorem deleteF_sound (hC : CtxOk P C) (hw : WR w0 ε pd h w) {t : Nat} {m k : V} {M K : Value} {h' : Hp} {ats : Array TypeId} {ty : TypeId} {args : Array Value} (hf : deleteF C h t m k = some h') (hm : VR ε m M) (hk : VR ε k K)
    (h0 : ats[0]? = some t) (h1 : args[0]? = some M) (h2 : args[1]? = some K) :
    ∃ w', (Builtin.delete_ ats ty args).run P w = .ok undef w' ∧ WR w0 ε pd h' w' := by
  unfold deleteF at hf
  split at hf
  · rename_i kt et hkt
    have hu := mapKT_some hC hkt
    unfold Builtin.delete_
    rw [h0, h1, h2]
    simp only [Sem.run_bind, run_underlying hu, Result.andThen_ok]
    split at hf
    · rename_i hkn
      cases hf
      rw [VR] at hm; subst hm
      have hck := run_checkKey (w := w) hC hkn hk true
      exact ⟨w, by simp only [Sem.run_bind, hck, Result.andThen_ok]; rfl, hw⟩
    · rename_i b hkn
      rw [VR] at hm; obtain ⟨c, hb, rfl⟩ := hm
      split at hf
      · rename_i es clock hat
        obtain ⟨hg, es', ho, hr, hp, hl⟩ := mapAt_some hw hb hat
        have hck := run_checkKey (w := w) hC hkn hk es'.isEmpty
        simp only [Sem.run_bind, run_getObj ho (by simp), Result.andThen_ok, List.isEmpty_toArray, hck]
        split at hf
        · rename_i e hfn
          obtain ⟨r', h3, h4⟩ := run_findKey (w := w) hC hkn hk hr hfn
          obtain ⟨q, E, g1, g2, g3, rfl, g5⟩ := h4
          have hsub := delEn_sub e.born es
          obtain ⟨w', w1, w2⟩ := map_set (P := P) hw hb hg hf ho (delEn_sound es es' q e hr g1 hp) (hp.sublist hsub) (fun e he => hl e (hsub.subset he))
          refine ⟨w', ?_, w2⟩
          have hq : q < es'.length := (List.getElem?_eq_some_iff.1 g2).1
          have her : es'.toArray.eraseIdxIfInBounds q = (es'.eraseIdx q).toArray := by simp [List.eraseIdx_toArray, Array.eraseIdxIfInBounds, hq]
          simp only [h3, Result.andThen_ok, Nat.zero_add, her, w1, Sem.run_bind]
          rfl
        · rename_i hfn
          cases hf
          obtain ⟨r', h3, h4⟩ := run_findKey (w := w) hC hkn hk hr hfn
          cases h4
          obtain ⟨w', g1, g2⟩ := SameBut.setObj (P := P) (o' := .map es'.toArray clock) ho (by simp)
          have hheap : w'.heap = w.heap := by
            apply Array.ext_getElem?
            intro i
            rw [g2.heap]
            split
            · rename_i e; subst e; exact ho.symm
            · rfl
          refine ⟨w', ?_, hw.world hheap g2.os g2.out g2.tape⟩
          simp only [h3, Result.andThen_ok, g1, Sem.run_bind]
          rfl
        · cases hf
      · cases hf
    · cases hf
  · cases hf

theorem clearF_sound (hC : CtxOk P C) (hw : WR w0 ε pd h w) {t : Nat} {x : V} {X : Value} {h' : Hp} {ats : Array TypeId} {ty : TypeId} {args : Array Value} (hf : clearF C h t x = some h') (hx : VR ε x X)
    (h0 : ats[0]? = some t) (h1 : args[0]? = some X) (hT : C.ti t ≠ none) :
    ∃ w', (Builtin.clear_ ats ty args).run P w = .ok undef w' ∧ WR w0 ε pd h' w' := by
  obtain ⟨i, hi⟩ := Option.ne_none_iff_exists'.1 hT
  have hi' := hC.ty _ _ hi
  have hu := hi'.und
  unfold Builtin.clear_
  rw [h0, h1]
  simp only [Sem.run_bind, run_underlying hu, Result.andThen_ok]
  unfold clearF at hf
  split at hf
  · cases hf; rw [VR] at hx; subst hx
    exact ⟨w, by simp; rfl, hw⟩
  · cases hf; rw [VR] at hx; subst hx
    exact ⟨w, by simp; rfl, hw⟩
  · rename_i b
    rw [VR] at hx; obtain ⟨c, hb, rfl⟩ := hx
    split at hf
    · rename_i es clock hat
      obtain ⟨hg, es', ho, hr, hp, hl⟩ := mapAt_some hw hb hat
      obtain ⟨w', w1, w2⟩ := map_set (P := P) (es2' := []) hw hb hg hf ho (by simp [EnRs]) List.Pairwise.nil (by simp)
      refine ⟨w', ?_, w2⟩
      simp only [Sem.run_bind, run_getObj ho (by simp), Result.andThen_ok]
      rw [show (#[] : Array MapEntry) = ([] : List MapEntry).toArray from rfl, w1]
      rfl
    · cases hf
  · cases hf
end
end Go.Lev
namespace Go.Lev
open Go
section
variable {P : Program} {C : Ctx} {ε : Env} {h : Hp} {w w0 : World} {pd : Pd}

/-- a block is made by the machine -/
theorem WR.newObj (hw : WR w0 ε pd h w) {ob : Ob} {o : Obj} (k : Nat) {h' : Hp} (hs : h.new ob = some h') (ho : obR (ε.bind h.nx w.heap.size k) h.nx ob o) :
    ε.le (ε.bind h.nx w.heap.size k) ∧ WR w0 (ε.bind h.nx w.heap.size k) pd h' { w with heap := w.heap.push o } :=
  hw.new k hs (by intro x; simp only [Array.getElem?_push]) ho (by simp) rfl rfl rfl
theorem bind_self (ε : Env) (b c k : Nat) : (ε.bind b c k).φ b = some c := by simp [Env.bind]

theorem rangeF_sound (hC : CtxOk P C) (hw : WR w0 ε pd h w) {t : Nat} {x v : V} {X : Value} {h' : Hp} (hf : rangeF C h t x = some (v, h')) (hx : VR ε x X) :
    ∃ ε' y w', (Instr.range t X).run P w = .ok y w' ∧ ε.le ε' ∧ WR w0 ε' pd h' w' ∧ VR ε' v y := by
  unfold rangeF at hf
  split at hf
  · cases hf
  · rename_i kt hkt
    have hu := mapKT_some (kt := kt.1) (et := kt.2) hC hkt
    split at hf
    · rw [VR] at hx; subst hx
      split at hf
      · rename_i h1 hs
        cases hf
        obtain ⟨g1, g2⟩ := hw.newObj (o := .mapIter none 0 #[] 0) 0 hs ⟨none, rfl, rfl⟩
        refine ⟨_, .pointer (some ⟨w.heap.size, 0, none⟩), _, ?_, g1, g2, by rw [VR]; exact ⟨_, bind_self _ _ _ _, rfl⟩⟩
        unfold Instr.range
        simp [run_underlying hu]
      · cases hf
    · rename_i b
      rw [VR] at hx; obtain ⟨c, hb, rfl⟩ := hx
      split at hf
      · rename_i es clock hat
        obtain ⟨hg, es', ho, hr, hp, hl⟩ := mapAt_some hw hb hat
        split at hf
        · rename_i h1 hs
          cases hf
          have hnone : ε.φ h.nx = none := by
            cases e : ε.φ h.nx with
            | none => rfl
            | some c => exact absurd (hw.fresh _ _ e) (Nat.lt_irrefl _)
          have hle := Env.le_bind hnone w.heap.size 0
          obtain ⟨g1, g2⟩ := hw.newObj (o := .mapIter (some c) clock #[] clock) 0 hs ⟨some c, rfl, c, (hle b c hb).1, rfl⟩
          refine ⟨_, .pointer (some ⟨w.heap.size, 0, none⟩), _, ?_, g1, g2, by rw [VR]; exact ⟨_, bind_self _ _ _ _, rfl⟩⟩
          unfold Instr.range
          simp [run_underlying hu, run_getObj ho (by simp)]
        · cases hf
      · cases hf
    · cases hf

theorem memN_eq (n : Nat) : ∀ l : List Nat, memN n l = l.contains n
  | [] => rfl
  | m :: l => by
    unfold memN
    cases hb : Nat.beq n m with
    | true => have := beq_nat hb; subst this; simp
    | false =>
      have : n ≠ m := fun e => by subst e; simp at hb
      simp [memN_eq n l, this]
theorem leftEn_sound (seen : List Nat) : ∀ (es : List En) (es' : List MapEntry), EnRs ε es es' → EnRs ε (leftEn seen es) (es'.filter fun e => !seen.contains e.born)
  | [], es', h => by rw [EnRs] at h; subst h; simp [leftEn, EnRs]
  | e :: es, es', h => by
    rw [EnRs] at h; obtain ⟨E, Es, hE, hEs, rfl⟩ := h
    have ih := leftEn_sound seen es Es hEs
    unfold leftEn
    rw [memN_eq, List.filter_cons, hE.2.2]
    cases hc : seen.contains e.born with
    | true => simpa using ih
    | false => simp only [Bool.not_false, if_true, EnRs]; exact ⟨E, _, hE, ih, rfl⟩
theorem oldEn_sound (since : Nat) : ∀ (es : List En) (es' : List MapEntry), EnRs ε es es' → EnRs ε (oldEn since es) (es'.filter fun e => decide (e.born < since))
  | [], es', h => by rw [EnRs] at h; subst h; simp [oldEn, EnRs]
  | e :: es, es', h => by
    rw [EnRs] at h; obtain ⟨E, Es, hE, hEs, rfl⟩ := h
    have ih := oldEn_sound since es Es hEs
    unfold oldEn
    rw [List.filter_cons, hE.2.2]
    cases hc : Nat.blt e.born since with
    | true => rw [Nat.blt_eq] at hc; simp only [hc, decide_true, if_true, EnRs]; exact ⟨E, _, hE, ih, rfl⟩
    | false =>
      have : ¬ e.born < since := fun g => by rw [← Nat.blt_eq] at g; rw [g] at hc; cases hc
      simpa [this] using ih
theorem newEn_sound (since : Nat) : ∀ (es : List En) (es' : List MapEntry), EnRs ε es es' → EnRs ε (newEn since es) (es'.filter fun e => decide (e.born ≥ since))
  | [], es', h => by rw [EnRs] at h; subst h; simp [newEn, EnRs]
  | e :: es, es', h => by
    rw [EnRs] at h; obtain ⟨E, Es, hE, hEs, rfl⟩ := h
    have ih := newEn_sound since es Es hEs
    unfold newEn
    rw [List.filter_cons, hE.2.2]
    cases hc : Nat.blt e.born since with
    | true => rw [Nat.blt_eq] at hc; simpa [show ¬ since ≤ e.born by omega] using ih
    | false =>
      have : ¬ e.born < since := fun g => by rw [← Nat.blt_eq] at g; rw [g] at hc; cases hc
      simp only [show e.born ≥ since by omega, decide_true, if_true, EnRs]; exact ⟨E, _, hE, ih, rfl⟩
theorem allNew_sound (last : Nat) : ∀ (es : List En) (es' : List MapEntry), EnRs ε es es' → es'.all (fun e => decide (e.born ≥ last)) = allNew last es
  | [], es', h => by rw [EnRs] at h; subst h; rfl
  | e :: es, es', h => by
    rw [EnRs] at h; obtain ⟨E, Es, hE, hEs, rfl⟩ := h
    have ih := allNew_sound last es Es hEs
    unfold allNew
    rw [List.all_cons, hE.2.2, ih]
    cases hc : Nat.blt e.born last with
    | true => rw [Nat.blt_eq] at hc; simp [show ¬ last ≤ e.born by omega]
    | false =>
      have : ¬ e.born < last := fun g => by rw [← Nat.blt_eq] at g; rw [g] at hc; cases hc
      simp [show last ≤ e.born by omega]
theorem EnRs.append {es es2 : List En} {es' es2' : List MapEntry} (h : EnRs ε es es') (g : EnRs ε es2 es2') : EnRs ε (es ++ es2) (es' ++ es2') := by
  induction es generalizing es' with
  | nil => rw [EnRs] at h; subst h; simpa using g
  | cons a es ih =>
    rw [EnRs] at h; obtain ⟨A, As, hA, hAs, rfl⟩ := h
    simp only [List.cons_append, EnRs]
    exact ⟨A, _, hA, ih hAs, rfl⟩

theorem nextEach_get {r m since clock : Nat} {seen : List Nat} : ∀ (es : List En) (l : List (V × Hp)), nextEach h r m since seen clock es = some l → l.length = es.length ∧
    ∀ (q : Nat) (e : En), es[q]? = some e → ∃ h', l[q]? = some (.tup [.bool true, e.key, e.val], h') ∧ h.set r (.mit (some m) since (seen ++ [e.born]) clock) = some h'
  | [], l, hf => by simp only [nextEach, Option.some.injEq] at hf; subst hf; simp
  | e :: es, l, hf => by
    unfold nextEach at hf
    split at hf
    · rename_i h1 l1 hs hn
      cases hf
      obtain ⟨g1, g2⟩ := nextEach_get es l1 hn
      refine ⟨by simp [g1], fun q e' hq => ?_⟩
      cases q with
      | zero => simp only [List.getElem?_cons_zero, Option.some.injEq] at hq; subst hq; exact ⟨h1, rfl, hs⟩
      | succ q => obtain ⟨h', a, b⟩ := g2 q e' (by simpa using hq); exact ⟨h', by simpa using a, b⟩
    · cases hf

def outs : Out → List (V × Hp)
  | .val v h => [(v, h)]
  | .brs l => l
  | _ => []

theorem run_choose_lt (n : Nat) (hn : 0 < n) (w : World) : ∃ k w', (choose (.mapNext n)).run P w = .ok k w' ∧ k < n ∧ w'.heap = w.heap ∧ w'.os = w.os ∧ w'.output = w.output ∧ w'.tape = w.tape ∧ (n = 1 → k = 0) := by
  rw [run_choose]
  by_cases hf : (Question.mapNext n).forced = true
  · rw [if_pos hf]; exact ⟨0, w, rfl, hn, rfl, rfl, rfl, rfl, fun _ => rfl⟩
  · rw [if_neg hf]
    refine ⟨_, _, rfl, ?_, rfl, rfl, rfl, rfl, fun e => ?_⟩
    · simp only [Question.cut]; exact Nat.mod_lt _ hn
    · subst e; simp [Question.forced] at hf

theorem VR_over (ε : Env) : VR ε overV (.tuple #[.bool false]) := by unfold overV; rw [VR]; exact ⟨[.bool false], VRs.cons (VR_bool _ _) VRs.nil, rfl⟩

theorem EnRs.at {es : List En} {es' : List MapEntry} (h : EnRs ε es es') : ∀ (q : Nat) (E : MapEntry), es'[q]? = some E → ∃ e, es[q]? = some e ∧ EnR ε e E := by
  induction es generalizing es' with
  | nil => intro q E hq; rw [EnRs] at h; subst h; simp at hq
  | cons a es ih =>
    rw [EnRs] at h; obtain ⟨A, As, hA, hAs, rfl⟩ := h
    intro q E hq
    cases q with
    | zero => simp only [List.getElem?_cons_zero, Option.some.injEq] at hq; subst hq; exact ⟨a, rfl, hA⟩
    | succ q => obtain ⟨e, h1, h2⟩ := ih hAs q E (by simpa using hq); exact ⟨e, by simpa using h1, h2⟩

theorem outs_pick {old : List En} {l : List (V × Hp)} (hne : pickOut h old l ≠ .bad) : outs (pickOut h old l) = (if old = [] then [(overV, h)] else []) ++ l := by
  unfold pickOut at *
  cases old with
  | nil => cases l <;> simp [outs]
  | cons a old => cases l with
    | nil => simp at hne
    | cons x l => cases l <;> simp [outs]

/-- what the machine may choose from -/
def cands (since : Nat) (L : List MapEntry) : List (Option MapEntry) :=
  (if (L.filter fun e => decide (e.born < since)).isEmpty then [none] else []) ++ ((L.filter fun e => decide (e.born < since)) ++ (L.filter fun e => decide (e.born ≥ since))).map some

theorem cands_pos (since : Nat) (L : List MapEntry) : 0 < (cands since L).length := by
  unfold cands
  cases hh : (L.filter fun e => decide (e.born < since)) <;> simp

theorem nextF_sound (hw : WR w0 ε pd h w) {it : V} {X : Value} {ty : TypeId} (hne : nextF h it ≠ .bad) (hx : VR ε it X) :
    ∃ p ∈ outs (nextF h it), ∃ y w', (Instr.next X false ty).run P w = .ok y w' ∧ WR w0 ε pd p.2 w' ∧ VR ε p.1 y := by
  cases it
  case ptr r o =>
    rw [VR] at hx; obtain ⟨c, hb, rfl⟩ := hx
    simp only [nextF] at hne ⊢
    cases ho0 : Nat.beq o 0 with
    | false => rw [ho0] at hne; exact absurd rfl hne
    | true =>
      rw [ho0] at hne
      have ho0 := beq_nat ho0; subst ho0
      simp only at hne ⊢
      obtain ⟨ob, ho, hro⟩ := hw.hr.blk r c hb
      cases hg : h.get r
      case mit m since seen last =>
        rw [hg] at hne hro
        obtain ⟨m', rfl, hm⟩ := hro
        cases m with
        | none =>
          have hm : m' = none := hm
          subst hm
          refine ⟨(overV, h), by simp [nextOb, outs], .tuple #[.bool false], w, ?_, hw, VR_over ε⟩
          unfold Instr.next
          simp [run_getObj ho]
        | some m =>
          obtain ⟨d, hd, rfl⟩ : ∃ c, ε.φ m = some c ∧ m' = some c := hm
          simp only [nextOb] at hne ⊢
          cases hat : mapAt h m with
          | none => rw [hat] at hne; exact absurd rfl hne
          | some p =>
            obtain ⟨es, clock⟩ := p
            rw [hat] at hne
            obtain ⟨hgm, es', hom, hr, hp, hl⟩ := mapAt_some hw hd hat
            simp only [nextMap] at hne ⊢
            cases hall : (!seen.isEmpty && !es.isEmpty && allNew last es) with
            | true => rw [hall] at hne; exact absurd rfl hne
            | false =>
              rw [hall] at hne
              simp only at hne ⊢
              have hall' : (!seen.toArray.isEmpty && !es'.toArray.isEmpty && es'.toArray.all (fun e => decide (e.born ≥ last))) = false := by
                have := allNew_sound last es es' hr
                rw [List.isEmpty_toArray, List.isEmpty_toArray, List.all_toArray, this]
                have hee : es'.isEmpty = es.isEmpty := by
                  have := hr.length
                  cases es <;> cases es' <;> simp_all
                rw [hee]; exact hall
              have hleft := leftEn_sound seen es es' hr
              have hold := oldEn_sound since _ _ hleft
              have hnew := newEn_sound since _ _ hleft
              generalize hL : es'.filter (fun e => !seen.contains e.born) = L at hleft hold hnew
              have hcand := hold.append hnew
              simp only [nextLeft] at hne ⊢
              cases hl : nextEach h r m since seen clock (oldEn since (leftEn seen es) ++ newEn since (leftEn seen es)) with
              | none => rw [hl] at hne; exact absurd rfl hne
              | some l =>
                rw [hl] at hne
                simp only [nextOut] at hne ⊢
                obtain ⟨hlen, hget⟩ := nextEach_get _ _ hl
                rw [outs_pick hne]
                obtain ⟨k, w1, hch, hk, hh1, hh2, hh3, hh4, _⟩ := run_choose_lt (P := P) (cands since L).length (cands_pos since L) w
                have hmach : ∀ (z : Option MapEntry), (cands since L)[k]? = some z → ∀ (y : Value) (w' : World), (match z with
                    | some e => (do
                      setObj c (.mapIter (some d) since (seen.toArray.push e.born) clock)
                      pure (.tuple #[.bool true, e.key, e.val]) : Sem Value)
                    | none => pure (.tuple #[.bool false])).run P w1 = .ok y w' → (Instr.next (.pointer (some ⟨c, 0, none⟩)) false ty).run P w = .ok y w' := by
                  intro z hz y w' hy
                  unfold Instr.next
                  simp only [Sem.run_bind, run_getObj ho (by simp), Result.andThen_ok, run_getObj hom (by simp)]
                  have harr : ((if (Array.filter (fun (x : MapEntry) => decide (x.born < since)) (Array.filter (fun (e : MapEntry) => !seen.toArray.contains e.born) es'.toArray)).isEmpty = true then #[none] else #[]) ++
                      Array.map some (Array.filter (fun (x : MapEntry) => decide (x.born < since)) (Array.filter (fun (e : MapEntry) => !seen.toArray.contains e.born) es'.toArray) ++
                        Array.filter (fun (x : MapEntry) => decide (x.born ≥ since)) (Array.filter (fun (e : MapEntry) => !seen.toArray.contains e.born) es'.toArray))) = (cands since L).toArray := by
                    rw [← hL]
                    unfold cands
                    simp only [List.filter_toArray, List.contains_toArray, List.isEmpty_toArray, List.append_toArray, List.map_toArray]
                    split <;> simp
                  rw [hall']
                  simp only [Bool.false_eq_true, if_false, harr]
                  rw [Sem.run_bind, List.size_toArray, hch, Result.andThen_ok, List.getElem?_toArray, hz]
                  cases z <;> exact hy
                have hw1 : WR w0 ε pd h w1 := hw.world hh1 hh2 hh3 hh4
                have ho1 : w1.heap[c]? = some (.mapIter (some d) since seen.toArray last) := by rw [hh1]; exact ho
                cases hz : (cands since L)[k]? with
                | none => rw [List.getElem?_eq_none_iff] at hz; omega
                | some z =>
                  have hmem := List.mem_of_getElem? hz
                  cases z with
                  | none =>
                    have hemp : (L.filter fun e => decide (e.born < since)) = [] := by
                      unfold cands at hmem
                      rcases List.mem_append.1 hmem with hm | hm
                      · cases hh : (L.filter fun e => decide (e.born < since)) with
                        | nil => rfl
                        | cons a b => rw [hh] at hm; simp at hm
                      · obtain ⟨_, _, hm⟩ := List.mem_map.1 hm; cases hm
                    have hold0 : oldEn since (leftEn seen es) = [] := by
                      have := hold.length
                      rw [hemp] at this
                      exact List.length_eq_zero_iff.1 this.symm
                    refine ⟨(overV, h), by simp [hold0], .tuple #[.bool false], w1, hmach _ hz _ _ rfl, hw1, VR_over ε⟩
                  | some E =>
                    have hM : E ∈ ((L.filter fun e => decide (e.born < since)) ++ (L.filter fun e => decide (e.born ≥ since))) := by
                      unfold cands at hmem
                      rcases List.mem_append.1 hmem with hm | hm
                      · split at hm <;> simp at hm
                      · obtain ⟨E', h1, h2⟩ := List.mem_map.1 hm; cases h2; exact h1
                    obtain ⟨q, hq⟩ := List.getElem?_of_mem hM
                    obtain ⟨e, he1, he2⟩ := hcand.at q E hq
                    obtain ⟨h', hl1, hs1⟩ := hget q e he1
                    obtain ⟨w2, g1, g2⟩ := SameBut.setObj (P := P) (o' := .mapIter (some d) since (seen.toArray.push E.born) clock) ho1 (by simp)
                    refine ⟨_, List.mem_append.2 (.inr (List.mem_of_getElem? hl1)), .tuple #[.bool true, E.key, E.val], w2, hmach _ hz _ _ ?_, ?_, ?_⟩
                    · simp only [Sem.run_bind, g1, Result.andThen_ok, Sem.run_pure]
                    · refine hw1.set hb hs1 (by rw [hg]; simp) g2.heap ⟨some d, ?_, d, hd, rfl⟩ g2.size g2.os g2.out g2.tape
                      rw [he2.2.2]; simp
                    · rw [VR]; exact ⟨[.bool true, E.key, E.val], VRs.cons (VR_bool _ _) (VRs.cons he2.1 (VRs.cons he2.2.1 VRs.nil)), rfl⟩
      all_goals (rw [hg] at hne; exact absurd rfl hne)
  all_goals exact absurd rfl hne
end
end Go.Lev
namespace Go.Lev
open Go
section
variable {P : Program} {C : Ctx} {ε : Env} {h : Hp} {w w0 : World} {pd : Pd}
/-! ### append -/
theorem srcCells_sound (hr : HR ε h w) {sz n : Nat} {x : V} {X : Value} {l : List V} (hf : srcCells h sz x n = some l) (hx : VR ε x X) :
    ∃ ys, (Builtin.firstCells sz n X).run P w = .ok ys.toArray w ∧ VRs ε l ys := by
  cases x
  case str s =>
    simp only [srcCells, Option.some.injEq] at hf; subst hf
    rw [VR] at hx; subst hx
    refine ⟨(s.take n).map fun b => .int .u8 b.toNat, ?_, ?_⟩
    · unfold Builtin.firstCells
      simp [List.extract_eq_take_drop]
    · generalize s.take n = t
      induction t with
      | nil => simp [VRs]
      | cons b t ih => simp only [List.map_cons]; exact VRs.cons (by rw [VR]; rfl) ih
  case nilsl =>
    rw [VR] at hx; subst hx
    have : l = [] := by
      unfold srcCells cellsOf at hf; simpa using hf.symm
    subst this
    exact ⟨[], by simp [Builtin.firstCells], VRs.nil⟩
  case sl b o d len cp =>
    rw [VR] at hx; obtain ⟨c, Cc, hc, _, _, rfl⟩ := hx
    have hf : cellsOf h (.sl b o d len cp) (Nat.mul n sz) = some l := hf
    obtain ⟨ys, h1, h2⟩ := cellsOf_sl (P := P) (Cc := Cc) hr hf hc
    exact ⟨ys, by unfold Builtin.firstCells; exact h1, h2⟩
  all_goals (simp [srcCells, cellsOf] at hf)

theorem lenV_sound {x : V} {X : Value} {n : Nat} (hf : lenV x = some n) (hx : VR ε x X) : (Builtin.lenOf X).run P w = .ok n w := by
  cases x <;> simp [lenV] at hf
  case nilsl => rw [VR] at hx; subst hx; subst hf; rfl
  case sl => rw [VR] at hx; obtain ⟨_, _, _, _, _, rfl⟩ := hx; subst hf; rfl
  case str => rw [VR] at hx; subst hx; subst hf; rfl

theorem growBy_le (newLen : Nat) : ∀ (r c : Nat), Builtin.growBy newLen r c + 768 ≤ (c + 768) * 2 ^ r
  | 0, c => by simp [Builtin.growBy]
  | r + 1, c => by
    unfold Builtin.growBy
    have hp : 1 ≤ 2 ^ (r + 1) := Nat.one_le_two_pow
    split
    · calc c + 768 = (c + 768) * 1 := by omega
        _ ≤ _ := Nat.mul_le_mul_left _ hp
    · have ih := growBy_le newLen r (c + (c + 768) / 4)
      calc _ ≤ _ := ih
        _ ≤ (2 * (c + 768)) * 2 ^ r := Nat.mul_le_mul_right _ (by omega)
        _ = _ := by rw [Nat.pow_succ]; ac_rfl
theorem nextcap_le {need cap : Nat} (h1 : need < 536870912) (h2 : cap < need) : Builtin.nextslicecap need cap ≤ 8589946880 := by
  unfold Builtin.nextslicecap
  split
  · omega
  · split
    · omega
    · have := growBy_le need 4 cap
      omega

/-- a row over whose end is gone: what the machine does -/
theorem run_append_grow {e st xt : Nat} {j : TI} {ats : Array TypeId} {ty : TypeId} {args : Array Value} {S X : Value} {base : Option Addr} {sLen sCap n : Nat} {xu : TypeDesc}
    (hj : TIok P e j) (hu : P.underlying st = some (.slice e)) (hxu : P.underlying xt = some xu) (hxi : ∀ k, xu ≠ .int k) (h0 : ats[0]? = some st) (h1 : ats[1]? = some xt) (h2 : args[0]? = some S) (h3 : args[1]? = some X)
    (hS : S = .slice base sLen sCap) (hn : ∀ w, (Builtin.lenOf X).run P w = .ok n w) (hgrow : sCap < sLen + n) (hb : sLen + n < 536870912) (hbytes : j.bytes ≤ 16384)
    {z : Value} (hz : ∀ w, (zeroValue e).run P w = .ok z w) (hzs : z.cells.size = j.size) {old new : List Value} (w : World)
    (hold : ∀ w', w'.heap = w.heap → (Builtin.firstCells j.size sLen S).run P w' = .ok old.toArray w') (hnew : ∀ w', w'.heap = w.heap → (Builtin.firstCells j.size n X).run P w' = .ok new.toArray w')
    (hol : old.length = sLen * j.size) (hnl : new.length = n * j.size) :
    ∃ (cap : Nat) (A : Array Value) (w1 : World), sLen + n ≤ cap ∧ A.size = cap * j.size ∧ (∀ i, i < (old ++ new).length → A[i]? = (old ++ new)[i]?) ∧ w1.heap = w.heap ∧ w1.os = w.os ∧ w1.output = w.output ∧ w1.tape = w.tape ∧
      (Builtin.append_ ats ty args).run P w = .ok (.slice (some ⟨w.heap.size, 0, none⟩) (sLen + n) cap) { w1 with heap := w.heap.push (.cells A e) } := by
  obtain ⟨f, hf, q1, q2, q3, _⟩ := hj.info
  have hfw : ∀ w, (typeInfo e).run P w = .ok f w := fun w => by simp [typeInfo, hf]
  have hcap := nextcap_le hb hgrow
  have hk1 : ¬ (((sLen + n : Nat) : Int) > IntKind.i64.max ∧ (false = true ∨ f.bytes = 0)) := by
    rintro ⟨h, _⟩
    simp [IntKind.max, IntKind.signed, IntKind.bits] at h; omega
  have hk2 : ¬ (Builtin.nextslicecap (sLen + n) sCap * f.bytes > 2 ^ 48) := by
    rw [q2]
    have : Builtin.nextslicecap (sLen + n) sCap * j.bytes ≤ 8589946880 * 16384 := Nat.mul_le_mul hcap hbytes
    omega
  let q := Question.appendCap (sLen + n) sCap e
  let cap := q.cut (w.tape w.drawn q)
  have hcapn : sLen + n ≤ cap := by show _ ≤ (sLen + n) + _; omega
  refine ⟨cap, old.toArray ++ new.toArray ++ Builtin.zeroCells z.cells (cap - (sLen + n)), { w with drawn := w.drawn + 1 }, hcapn, ?_, ?_, rfl, rfl, rfl, rfl, ?_⟩
  · simp only [Array.size_append, List.size_toArray, hol, hnl, Builtin.zeroCells, Array.size_map, Array.size_range, hzs]
    rw [← Nat.add_mul, ← Nat.add_mul]
    congr 1; omega
  · intro i hi
    rw [Array.getElem?_append_left (by simpa using hi)]
    simp
  · unfold Builtin.append_
    rw [h0, h2, h3]
    simp only
    rw [Sem.run_bind, run_underlying hu, Result.andThen_ok]
    simp only [hS]
    rw [Sem.run_bind, hj.run_size, Result.andThen_ok]
    simp only [h1, Sem.run_bind, run_underlying hxu, Result.andThen_ok, Sem.run_pure]
    simp only [Bool.false_eq_true, if_false, Sem.run_bind, hn, Result.andThen_ok]
    rw [if_neg (by omega : ¬ sLen + n ≤ sCap)]
    simp only [Sem.run_bind, hfw, Result.andThen_ok]
    rw [if_neg (by simpa using hk1)]
    simp only [Sem.run_bind, hfw, Result.andThen_ok]
    rw [if_neg hk2]
    simp only [Sem.run_bind, run_choose, Question.forced, Bool.false_eq_true, if_false, Result.andThen_ok, hfw, run_askRoom]
    rw [hS] at hold
    rw [hold { w with drawn := w.drawn + 1 } rfl, Result.andThen_ok]
    simp only [Bool.not_false, if_true]
    rw [hnew { w with drawn := w.drawn + 1 } rfl, Result.andThen_ok, hz, Result.andThen_ok]
    simp only [newRow, Sem.run_bind, run_newObj, Result.andThen_ok, Sem.run_pure]
    rfl

/-- append where there is room: what the machine does -/
theorem run_append_room {e st xt : Nat} {j : TI} {ats : Array TypeId} {ty : TypeId} {args : Array Value} {S X : Value} {base : Option Addr} {sLen sCap n : Nat} {xu : TypeDesc}
    (hj : TIok P e j) (hu : P.underlying st = some (.slice e)) (hxu : P.underlying xt = some xu) (hxi : ∀ k, xu ≠ .int k) (h0 : ats[0]? = some st) (h1 : ats[1]? = some xt) (h2 : args[0]? = some S) (h3 : args[1]? = some X)
    (hS : S = .slice base sLen sCap) (hn : ∀ w, (Builtin.lenOf X).run P w = .ok n w) (hroom : sLen + n ≤ sCap) {new : List Value} (w : World)
    (hnew : (Builtin.firstCells j.size n X).run P w = .ok new.toArray w) {w' : World}
    (hst : match base with | none => w' = w | some a => (storeCells (a.add (sLen * j.size)) new).run P w = .ok () w') :
    (Builtin.append_ ats ty args).run P w = .ok (.slice base (sLen + n) sCap) w' := by
  unfold Builtin.append_
  rw [h0, h2, h3]
  simp only
  rw [Sem.run_bind, run_underlying hu, Result.andThen_ok]
  simp only [hS]
  rw [Sem.run_bind, hj.run_size, Result.andThen_ok]
  simp only [h1, Sem.run_bind, run_underlying hxu, Result.andThen_ok, Sem.run_pure]
  simp only [Bool.false_eq_true, if_false, Sem.run_bind, hn, Result.andThen_ok]
  rw [if_pos hroom]
  simp only [Bool.not_false, if_true, Sem.run_bind, hnew, Result.andThen_ok]
  cases base with
  | none => simp only at hst; subst hst; rfl
  | some a => simp only at hst; simp only [Sem.run_bind, hst, Result.andThen_ok, Sem.run_pure]

theorem grown_sound (hw : WR w0 ε pd h w) {e sz need : Nat} {l : List V} {v : V} {h' : Hp} (hf : grown h e sz l need = some (v, h')) {ys : List Value} (hl : VRs ε l ys) {cap : Nat} {A : Array Value} (hcap : need ≤ cap)
    (hA : A.size = cap * sz) (hpre : ∀ i, i < ys.length → A[i]? = ys[i]?) (hsz : ys.length ≤ A.size) :
    ∃ ε', ε.le ε' ∧ WR w0 ε' pd h' { w with heap := w.heap.push (.cells A e) } ∧ VR ε' v (.slice (some ⟨w.heap.size, 0, none⟩) need cap) := by
  unfold grown at hf
  split at hf
  · rename_i cs hcs
    split at hf
    · rename_i h1 hs
      cases hf
      have hnone : ε.φ h.nx = none := by
        cases e : ε.φ h.nx with
        | none => rfl
        | some c => exact absurd (hw.fresh _ _ e) (Nat.lt_irrefl _)
      have hle := Env.le_bind hnone w.heap.size cap
      have hrow := (freshRow_row hcs hl).mono hle
      obtain ⟨g1, g2⟩ := hw.newObj (o := .cells A e) cap hs ⟨A, (0, 0), rfl, (fun i hi => by
        obtain ⟨x, h1, h2⟩ := hrow i hi
        refine ⟨x, ?_, h2⟩
        have hi' : i < ys.length := by rw [hl.length]; exact hi
        rw [hpre i hi']; simpa using h1), by rw [← hl.length]; exact hsz, (fun e => by cases e), (fun _ => by rw [hA]; simp [Env.bind]), rfl⟩
      refine ⟨_, g1, g2, ?_⟩
      rw [VR]
      exact ⟨w.heap.size, cap, bind_self _ _ _ _, ⟨⟨_, bind_self _ _ _ _⟩, by simp [Env.bind]⟩, hcap, by simp⟩
    · cases hf
  · cases hf

/-- a row goes over into another one, in the same place -/
theorem WR.move (hw : WR w0 ε pd h w) {b c : Nat} {h1 h2 : Hp} {ob : Ob} {o : Obj} {w' : World} (hb : ε.φ b = some c) (hlive : h.get b ≠ .dead) (hs1 : h.set b .dead = some h1) (hs2 : h1.new ob = some h2)
    (hw' : SameBut w w' c o) (ho : obR (ε.bind h.nx c (ε.κ b)) h.nx ob o) : ε.le (ε.bind h.nx c (ε.κ b)) ∧ WR w0 (ε.bind h.nx c (ε.κ b)) pd h2 w' := by
  have hnone : ε.φ h.nx = none := by
    cases e : ε.φ h.nx with
    | none => rfl
    | some c => exact absurd (hw.fresh _ _ e) (Nat.lt_irrefl _)
  have hle := Env.le_bind hnone c (ε.κ b)
  have hnx : h1.nx = h.nx := Hp.nx_set hs1
  have hbn : b ≠ h.nx := fun e => by subst e; rw [hb] at hnone; cases hnone
  have hget : ∀ x, h2.get x = if x = h.nx then ob else if x = b then .dead else h.get x := by
    intro x; rw [Hp.get_new hs2, hnx, Hp.get_set hs1]
  have hro : h2.ro = h.ro := (Hp.ro_new hs2).trans (Hp.ro_set hs1)
  refine ⟨hle, ?_⟩
  constructor
  · refine ⟨?_, fun g hg => ?_⟩
    rotate_left
    · rw [hro] at hg
      have := hw.hr.gl g hg
      have hne : g ≠ h.nx := fun e => by rw [e, hnone] at this; cases this
      simp [Env.bind, hne, this]
    intro x y hx
    rw [hget, hw'.heap]
    by_cases e : x = h.nx
    · subst e
      simp only [Env.bind, if_true, Option.some.injEq] at hx; subst hx
      exact ⟨o, by simp, by simpa using ho⟩
    · have hx' : ε.φ x = some y := by simpa [Env.bind, e] using hx
      rw [if_neg e]
      obtain ⟨o', ho', hr'⟩ := hw.hr.blk x y hx'
      by_cases ey : y = c
      · subst ey
        refine ⟨o, by simp, ?_⟩
        by_cases exb : x = b
        · rw [if_pos exb]; trivial
        · rw [if_neg exb]
          have : h.get x = .dead := by
            cases hd : h.get x with
            | dead => rfl
            | _ => exact absurd (hw.inj x b y hx' hb (by rw [hd]; simp) hlive) exb
          rw [this]; trivial
      · rw [if_neg ey]
        refine ⟨o', ho', ?_⟩
        by_cases exb : x = b
        · subst exb; rw [hb] at hx'; cases hx'; exact absurd rfl ey
        · rw [if_neg exb]; exact hr'.mono hle hx'
  · intro x x' y hx hx' hl hl'
    rw [hget] at hl hl'
    by_cases e : x = h.nx
    · by_cases e' : x' = h.nx
      · rw [e, e']
      · subst e
        simp only [Env.bind, if_true, Option.some.injEq] at hx; subst hx
        have hx2 : ε.φ x' = some c := by simpa [Env.bind, e'] using hx'
        rw [if_neg e'] at hl'
        by_cases exb : x' = b
        · rw [if_pos exb] at hl'; exact absurd rfl hl'
        · rw [if_neg exb] at hl'; exact absurd (hw.inj x' b c hx2 hb hl' hlive) exb
    · have hx1 : ε.φ x = some y := by simpa [Env.bind, e] using hx
      rw [if_neg e] at hl
      have exb : x ≠ b := fun exb => by rw [if_pos exb] at hl; exact hl rfl
      rw [if_neg exb] at hl
      by_cases e' : x' = h.nx
      · subst e'
        simp only [Env.bind, if_true, Option.some.injEq] at hx'; subst hx'
        exact absurd (hw.inj x b c hx1 hb hl hlive) exb
      · have hx2 : ε.φ x' = some y := by simpa [Env.bind, e'] using hx'
        rw [if_neg e'] at hl'
        have exb' : x' ≠ b := fun exb => by rw [if_pos exb] at hl'; exact hl' rfl
        rw [if_neg exb'] at hl'
        exact hw.inj _ _ _ hx1 hx2 hl hl'
  · intro x y hx
    rw [Hp.nx_new hs2, hnx]
    by_cases e : x = h.nx
    · omega
    · have hx1 : ε.φ x = some y := by simpa [Env.bind, e] using hx
      have := hw.fresh _ _ hx1; omega
  · intro x y hx hxr
    rw [hro] at hxr
    by_cases e : x = h.nx
    · subst e
      simp only [Env.bind, if_true, Option.some.injEq] at hx; subst hx; exact hw.base _ _ hb (Hp.le_set hs1)
    · exact hw.base x y (by simpa [Env.bind, e] using hx) hxr
  · intro x hx
    have := hw.base b c hb (Hp.le_set hs1)
    rw [hw'.heap, if_neg (by omega)]; exact hw.old x hx
  · rw [hw'.size]; exact hw.size
  · exact hw'.os.trans hw.os
  · exact hw'.out.trans hw.out
  · exact hw'.tape.trans hw.tape
  · intro p hp
    obtain ⟨g1, g2, g3⟩ := hw.pend p hp
    refine ⟨by simp [Env.bind, show p.1 ≠ h.nx by omega, g1], by rw [Hp.nx_new hs2, hnx]; omega, ?_⟩
    rw [hget, if_neg (by omega), if_neg (fun e => by rw [e, hb] at g1; cases g1)]; exact g3
  · exact hw.pn
  · intro x hx
    rw [Hp.nx_new hs2, hnx] at hx
    rw [hget, if_neg (by omega)]
    split
    · rfl
    · exact hw.nxd x (by omega)
/-- a block is forgotten -/
theorem WR.kill (hw : WR w0 ε pd h w) {b c : Nat} {h1 : Hp} (hb : ε.φ b = some c) (hs1 : h.set b .dead = some h1) : WR w0 ε pd h1 w := by
  constructor
  · refine ⟨?_, by rw [Hp.ro_set hs1]; exact hw.hr.gl⟩
    intro x y hx
    rw [Hp.get_set hs1]
    obtain ⟨o', ho', hr'⟩ := hw.hr.blk x y hx
    refine ⟨o', ho', ?_⟩
    split
    · trivial
    · exact hr'
  · intro x x' y hx hx' hl hl'
    rw [Hp.get_set hs1] at hl hl'
    split at hl
    · exact absurd rfl hl
    · split at hl'
      · exact absurd rfl hl'
      · exact hw.inj _ _ _ hx hx' hl hl'
  · rw [Hp.nx_set hs1]; exact hw.fresh
  · rw [Hp.ro_set hs1]; exact hw.base
  · exact hw.old
  · exact hw.size
  · exact hw.os
  · exact hw.out
  · exact hw.tape
  · intro p hp
    obtain ⟨g1, g2, g3⟩ := hw.pend p hp
    refine ⟨g1, by rw [Hp.nx_set hs1]; exact g2, ?_⟩
    rw [Hp.get_set hs1, if_neg (fun e => by rw [e, hb] at g1; cases g1)]; exact g3
  · exact hw.pn
  · intro x hx
    rw [Hp.nx_set hs1] at hx
    rw [Hp.get_set hs1]
    split
    · rfl
    · exact hw.nxd x hx
end
end Go.Lev
namespace Go.Lev
open Go
section
variable {P : Program} {C : Ctx} {ε : Env} {h : Hp} {w w0 : World} {pd : Pd}

/-- what an operation that turns the memory gives -/
def ES (P : Program) (w0 : World) (ε : Env) (pd : Pd) (w : World) (s : Sem Value) (v : V) (h' : Hp) : Prop :=
  ∃ ε' y w', s.run P w = .ok y w' ∧ ε.le ε' ∧ WR w0 ε' pd h' w' ∧ VR ε' v y

theorem HR.same {w w' : World} (hr : HR ε h w) (hh : w'.heap = w.heap) : HR ε h w' := ⟨fun b c hb => by rw [hh]; exact hr.blk b c hb, hr.gl⟩

theorem run_loadFrom_det {w : World} {c e : Nat} {A : Array Value} {fz : Nat × Nat} (hc : w.heap[c]? = some (.cells A e fz)) (o : Nat) :
    ∀ (n i : Nat) (acc : Array Value), o + i + n ≤ A.size → (loadCellsFrom ⟨c, o, none⟩ i n acc).run P w = .ok (acc ++ (A.toList.drop (o + i)).take n) w
  | 0, i, acc, _ => by simp [loadCellsFrom]
  | n + 1, i, acc, h => by
    unfold loadCellsFrom
    have hcell : w.cell? ⟨c, o + i, none⟩ = some A[o + i] := by rw [cell_of hc]; simp
    rw [Sem.run_bind, add_addr, run_load_cell hcell, Result.andThen_ok, run_loadFrom_det hc o n (i + 1) _ (by omega)]
    congr 1
    apply Array.ext'
    have hd : A.toList.drop (o + i) = A[o + i] :: A.toList.drop (o + i + 1) := by
      rw [List.drop_eq_getElem_cons (by simpa using (by omega : o + i < A.size))]; simp
    rw [hd]
    simp [Nat.add_assoc]
theorem run_load_det {w : World} {c e : Nat} {A : Array Value} {fz : Nat × Nat} (hc : w.heap[c]? = some (.cells A e fz)) (o n : Nat) (h : o + n ≤ A.size) :
    (loadCells ⟨c, o, none⟩ n).run P w = .ok ((A.toList.drop o).take n).toArray w := by
  unfold loadCells; rw [run_loadFrom_det hc o n 0 #[] (by omega)]; simp

theorem cellsOf_cases {b o d len n : Nat} {cp : Cap} {l : List V} (hf : cellsOf h (.sl b o d len cp) n = some l) :
    (n = 0 ∧ l = []) ∨ (n ≠ 0 ∧ d = 0 ∧ ∃ e sz m cs ex tl, h.get b = .cells e sz m cs ex tl ∧ o + n ≤ m ∧ l = row cs n o) := by
  simp only [cellsOf] at hf
  split at hf
  · rename_i hn; cases hf; exact .inl ⟨beq_nat hn, rfl⟩
  · rename_i hn
    split at hf
    · rename_i e sz m cs ex tl hd hob
      split at hf
      · rename_i hle
        cases hf
        exact .inr ⟨fun e => by subst e; simp at hn, beq_nat hd, e, sz, m, cs, ex, tl, hob, Nat.le_of_ble_eq_true hle, rfl⟩
      · cases hf
    · cases hf
theorem cellsOf_row {b len N e sz m : Nat} {cp : Cap} {cs : T V} {ex tl : Bool} (hg : h.get b = .cells e sz m cs ex tl) (hN : N ≤ m) : cellsOf h (.sl b 0 0 len cp) N = some (row cs N 0) := by
  have hb : Nat.ble (Nat.add 0 N) m = true := Nat.ble_eq_true_of_le (by show 0 + N ≤ m; omega)
  have hz : Nat.beq 0 0 = true := rfl
  simp only [cellsOf, hg, hz, hb]
  cases hn : Nat.beq N 0 with
  | true => have := beq_nat hn; subst this; rfl
  | false => rfl
theorem row_length (cs : T V) : ∀ (m i : Nat), (row cs m i).length = m
  | 0, _ => rfl
  | m + 1, i => by simp [row, row_length cs m]
theorem cellsOf_length {b o d len n : Nat} {cp : Cap} {l : List V} (hf : cellsOf h (.sl b o d len cp) n = some l) : l.length = n := by
  rcases cellsOf_cases hf with ⟨rfl, rfl⟩ | ⟨_, _, _, _, _, _, _, _, _, _, rfl⟩
  · rfl
  · exact row_length _ _ _

theorem firstCells_heap {sz n : Nat} {x : V} {X : Value} {l : List V} (hr : HR ε h w) (hf : srcCells h sz x n = some l) (hx : VR ε x X) :
    ∃ ys, (∀ w', w'.heap = w.heap → (Builtin.firstCells sz n X).run P w' = .ok ys.toArray w') ∧ VRs ε l ys := by
  obtain ⟨ys, h1, h2⟩ := srcCells_sound (P := P) hr hf hx
  refine ⟨ys, fun w' hh => ?_, h2⟩
  cases x
  case str s =>
    rw [VR] at hx; subst hx
    unfold Builtin.firstCells at h1 ⊢
    simp only [Sem.run_pure, Result.ok.injEq, and_true] at h1 ⊢
    exact h1
  case nilsl =>
    rw [VR] at hx; subst hx
    simp only [Builtin.firstCells, Sem.run_pure, Result.ok.injEq, and_true] at h1 ⊢
    exact h1
  case sl b o d len cp =>
    rw [VR] at hx; obtain ⟨c, Cc, hc, _, _, rfl⟩ := hx
    have hf' : cellsOf h (.sl b o d len cp) (Nat.mul n sz) = some l := hf
    unfold Builtin.firstCells at h1 ⊢
    rcases cellsOf_cases hf' with ⟨hn, _⟩ | ⟨_, rfl, e, sz', m, cs, ex, tl, hob, hle, _⟩
    · have hn : n * sz = 0 := hn
      simp only [hn, loadCells, loadCellsFrom, Sem.run_pure, Result.ok.injEq, and_true] at h1 ⊢
      exact h1
    · obtain ⟨o', ho', hro⟩ := hr.blk b c hc
      rw [hob] at hro
      obtain ⟨Ca, fz, rfl, hk, hm, _⟩ := hro
      have hle : o + n * sz ≤ m := hle
      simp only [Nat.add_zero, ite_self] at h1 ⊢
      rw [run_load_det ho' o (n * sz) (by omega)] at h1
      rw [run_load_det (w := w') (by rw [hh]; exact ho') o (n * sz) (by omega)]
      simp only [Result.ok.injEq, and_true] at h1 ⊢
      exact h1
  all_goals (simp [srcCells, cellsOf] at hf)

theorem appendF_sound (hC : CtxOk P C) (hw : WR w0 ε pd h w) {st xt : Nat} {xu : TypeDesc} {s x v : V} {S X : Value} {h' : Hp} {ats : Array TypeId} {ty : TypeId} {args : Array Value}
    (hf : appendF C h st s x = some (v, h')) (hs : VR ε s S) (hx : VR ε x X) (hxu : P.underlying xt = some xu) (hxi : ∀ k, xu ≠ .int k) (h0 : ats[0]? = some st) (h1 : ats[1]? = some xt) (h2 : args[0]? = some S) (h3 : args[1]? = some X) :
    ES P w0 ε pd w (Builtin.append_ ats ty args) v h' := by
  unfold appendF at hf
  split at hf
  · cases hf
  · rename_i i hi
    have hi := hC.ty _ _ hi
    split at hf
    · rename_i e hk
      have hu := hi.und; rw [hk] at hu
      unfold append2 at hf
      split at hf
      · rename_i n j hn hj0
        have hj := hC.ty _ _ hj0
        have hlen : ∀ w, (Builtin.lenOf X).run P w = .ok n w := fun w => lenV_sound hn hx
        unfold append3 at hf
        split at hf
        · rename_i new hnew
          split at hf
          · rename_i hcond
            simp only [Bool.and_eq_true] at hcond
            obtain ⟨⟨⟨⟨c1, c2⟩, c3⟩, c4⟩, c5⟩ := hcond
            have c1 : n < lim := by rw [Nat.blt_eq] at c1; exact c1
            have c3 := beq_nat c3
            have c4 := Nat.le_of_ble_eq_true c4
            have c5 : new.length = n * j.size := beq_nat c5
            obtain ⟨ys, hy1, hy2⟩ := firstCells_heap (P := P) hw.hr hnew hx
            obtain ⟨z, hz, hz2⟩ := zero_any (ε := ε) hC hj0 c2
            have hzs : z.cells.size = j.size := by rw [← Array.length_toList, hz2.length, c3]
            have hyl : ys.length = n * j.size := by rw [hy2.length, c5]
            have hlim : lim = 268435456 := rfl
            -- a row that is made anew
            have fresh : ∀ (base : Option Addr) (sLen sCap : Nat) (old : List V) (olds : List Value), S = .slice base sLen sCap → sCap < sLen + n → sLen + n < 536870912 → VRs ε old olds → olds.length = sLen * j.size →
                (∀ w', w'.heap = w.heap → (Builtin.firstCells j.size sLen S).run P w' = .ok olds.toArray w') → grown h e j.size (old ++ new) (sLen + n) = some (v, h') → ES P w0 ε pd w (Builtin.append_ ats ty args) v h' := by
              intro base sLen sCap old olds hS hg hb hol holl hold hgr
              obtain ⟨cap, A, w1, g1, g2, g3, g4, g5, g6, g7, g8⟩ := run_append_grow hj hu hxu hxi h0 h1 h2 h3 hS hlen hg hb c4 hz hzs w hold hy1 holl hyl (ty := ty)
              have hw1 : WR w0 ε pd h w1 := hw.world g4 g5 g6 g7
              have hlen2 : (olds ++ ys).length = (sLen + n) * j.size := by rw [List.length_append, holl, hyl, Nat.add_mul]
              obtain ⟨ε', k1, k2, k3⟩ := grown_sound hw1 hgr (hol.append hy2) g1 g2 g3 (by rw [hlen2, g2]; exact Nat.mul_le_mul_right _ g1)
              rw [g4] at k2 k3
              exact ⟨ε', _, _, g8, k1, k2, k3⟩
            unfold appendSl at hf
            split at hf
            · rw [VR] at hs
              split at hf
              · rename_i hn0
                have hn0 := beq_nat hn0; subst hn0
                cases hf
                refine ⟨ε, .slice none 0 0, w, ?_, Env.le_refl ε, hw, by rw [VR]⟩
                exact run_append_room hj hu hxu hxi h0 h1 h2 h3 hs hlen (Nat.le_refl _) w (hy1 w rfl) (w' := w) rfl
              · rename_i hn0
                have hn0 : n ≠ 0 := fun e => by subst e; simp at hn0
                refine fresh none 0 0 [] [] hs (by omega) (by omega) VRs.nil (by simp) (fun w' _ => by rw [hs]; simp [Builtin.firstCells]) ?_
                simpa using hf
            · rename_i b o d len cp
              have hs' := hs
              rw [VR] at hs'; obtain ⟨c, Cc, hc, hcap, hlc, hS⟩ := hs'
              split at hf
              · rename_i hn0
                have hn0 := beq_nat hn0; subst hn0
                cases hf
                have hyn : ys = [] := by have : ys.length = 0 := by rw [hyl]; omega
                                         exact List.length_eq_zero_iff.1 this
                refine ⟨ε, S, w, ?_, Env.le_refl ε, hw, hs⟩
                have := run_append_room hj hu hxu hxi h0 h1 h2 h3 hS hlen (by omega) w (hy1 w rfl) (w' := w) (by rw [hyn]; rfl) (ty := ty)
                rw [this, hS]; rfl
              · rename_i hn0
                have hn0 : n ≠ 0 := fun e => by subst e; simp at hn0
                unfold appendCp at hf
                split at hf
                · rename_i hcond2
                  simp only [Bool.and_eq_true] at hcond2
                  have hd := beq_nat hcond2.1; subst hd
                  have hll : len < lim := by have := hcond2.2; rw [Nat.blt_eq] at this; exact this
                  simp only [Nat.add_zero, ite_self] at hS
                  split at hf
                  · rename_i k
                    have hk' : Cc = k := hcap
                    subst hk'
                    unfold appendK at hf
                    split at hf
                    · rename_i hle
                      have hle : len + n ≤ Cc := Nat.le_of_ble_eq_true hle
                      split at hf
                      · rename_i h1' hst
                        cases hf
                        obtain ⟨w', g1, g2⟩ := storeAt_sound (P := P) hw hst hc hy2
                        refine ⟨ε, .slice (some ⟨c, o, none⟩) (len + n) Cc, w', ?_, Env.le_refl ε, g2, by rw [VR]; exact ⟨c, Cc, hc, rfl, hle, by simp⟩⟩
                        exact run_append_room hj hu hxu hxi h0 h1 h2 h3 hS hlen hle w (hy1 w rfl) (by simp only [add_addr]; exact g1)
                      · cases hf
                    · rename_i hle
                      have hle : ¬ len + n ≤ Cc := fun g => by have := Nat.ble_eq_true_of_le g; rw [show Nat.add len n = len + n from rfl] at hle; rw [this] at hle; cases hle
                      split at hf
                      · rename_i old hold
                        have hsrc : srcCells h j.size (.sl b o 0 len (.k Cc)) len = some old := hold
                        obtain ⟨olds, k1, k2⟩ := firstCells_heap (P := P) hw.hr hsrc hs
                        have holl : olds.length = len * j.size := by
                          rw [k2.length, cellsOf_length hold]; rfl
                        exact fresh _ len Cc old olds hS (by omega) (by omega) k2 holl k1 hf
                      · cases hf
                  · rename_i b' e'
                    split at hf
                    · rename_i hcond3
                      simp only [Bool.and_eq_true] at hcond3
                      have e1 := beq_nat hcond3.1.1; subst e1
                      have e2 := beq_nat hcond3.1.2; subst e2
                      have e3 := beq_nat hcond3.2; subst e3
                      obtain ⟨_, hkap⟩ := hcap
                      obtain ⟨ob, ho, hro⟩ := hw.hr.blk b c hc
                      cases hg : h.get b
                      case cells e2 sz2 m cs ex tl =>
                        rw [hg] at hf hro
                        simp only [appendU] at hf
                        split at hf
                        · rename_i hcond4
                          simp only [Bool.and_eq_true, Bool.not_eq_true'] at hcond4
                          obtain ⟨⟨⟨⟨d1, d2⟩, d3⟩, d4⟩, d5⟩ := hcond4
                          have d3 := beq_nat d3; subst d3
                          have d4 := beq_nat d4; subst d4
                          have d5 : len * j.size ≤ m := Nat.le_of_ble_eq_true d5
                          obtain ⟨A, fz, rfl, q1, q2, q3, q4, q5⟩ := hro
                          have q4 := q4 d1
                          subst d2
                          have q5 : fz = (0, 0) := q5
                          subst q5
                          split at hf
                          · rename_i hdef
                            have hdef : (len + n) * j.size ≤ m := Nat.le_of_ble_eq_true hdef
                            split at hf
                            · rename_i h1' hsz0 hst
                              cases hf
                              have hpos : 0 < j.size := by
                                cases hz : j.size with
                                | zero => rw [hz] at hsz0; simp at hsz0
                                | succ k => omega
                              have hle : len + n ≤ Cc := by
                                have : (len + n) * j.size ≤ ε.κ b * j.size := by omega
                                have := Nat.le_of_mul_le_mul_right this hpos
                                omega
                              obtain ⟨w', g1, g2⟩ := storeAt_sound (P := P) hw hst hc hy2
                              refine ⟨ε, .slice (some ⟨c, 0, none⟩) (len + n) Cc, w', ?_, Env.le_refl ε, g2, by rw [VR]; exact ⟨c, Cc, hc, ⟨⟨c, hc⟩, hkap⟩, hle, by simp⟩⟩
                              refine run_append_room hj hu hxu hxi h0 h1 h2 h3 hS hlen hle w (hy1 w rfl) ?_
                              simp only [add_addr, Nat.zero_add]
                              exact g1
                            · cases hf
                          · unfold appendMove at hf
                            split at hf
                            · rename_i cs' h1' hput hdead
                              split at hf
                              · rename_i h2' hnew2
                                cases hf
                                have hlive : h.get b ≠ .dead := by rw [hg]; simp
                                by_cases hroom : len + n ≤ Cc
                                · -- there is room
                                  have hAl : len * j.size + new.length ≤ A.size := by
                                    rw [c5, q4, ← Nat.add_mul]; exact Nat.mul_le_mul_right _ (by omega)
                                  obtain ⟨w', g1, g2⟩ := run_storeCells (P := P) new ys c (len * j.size) 0 e2 A false w ho hy2 (putCells_all _ _ _ _ hput) hAl
                                  have hrow := putCells_grow new ys cs cs' (len * j.size) A hput hy2 (fun i hi => q1 i (by omega)) hAl
                                  have hle := Env.le_bind (b := h.nx) (by
                                    cases e : ε.φ h.nx with
                                    | none => rfl
                                    | some c => exact absurd (hw.fresh _ _ e) (Nat.lt_irrefl _)) c (ε.κ b)
                                  obtain ⟨k1, k2⟩ := hw.move hc hlive hdead hnew2 g2 ⟨_, _, rfl, hrow.mono hle, by rw [setRow_size]; exact hAl, (fun e => by cases e), (fun _ => by rw [setRow_size, q4]; simp [Env.bind]), rfl⟩
                                  refine ⟨_, .slice (some ⟨c, 0, none⟩) (len + n) Cc, w', ?_, k1, k2, ?_⟩
                                  · refine run_append_room hj hu hxu hxi h0 h1 h2 h3 hS hlen hroom w (hy1 w rfl) ?_
                                    simp only [add_addr, Nat.zero_add]
                                    exact g1
                                  · rw [VR]
                                    exact ⟨c, Cc, bind_self _ _ _ _, ⟨⟨c, bind_self _ _ _ _⟩, by simp [Env.bind]; omega⟩, hroom, by simp⟩
                                · -- a new row is made
                                  have hwk := hw.kill hc hdead
                                  have hsrc : srcCells h j.size (.sl b 0 0 len (.u b 0)) len = some (row cs (len * j.size) 0) := by
                                    exact cellsOf_row (cp := .u b 0) (len := len) hg d5
                                  obtain ⟨olds, k1, k2⟩ := firstCells_heap (P := P) hw.hr hsrc hs
                                  have holl : olds.length = len * j.size := by rw [k2.length, row_length]
                                  obtain ⟨cap, A', w1, g1, g2, g3, g4, g5, g6, g7, g8⟩ := run_append_grow hj hu hxu hxi h0 h1 h2 h3 hS hlen (by omega) (by omega) c4 hz hzs w k1 hy1 holl hyl (ty := ty)
                                  have hw1 : WR w0 ε pd h1' w1 := hwk.world g4 g5 g6 g7
                                  have hlen2 : (olds ++ ys).length = (len + n) * j.size := by rw [List.length_append, holl, hyl, Nat.add_mul]
                                  have hnxe : h1'.nx = h.nx := Hp.nx_set hdead
                                  have hnone : ε.φ h.nx = none := by
                                    cases e : ε.φ h.nx with
                                    | none => rfl
                                    | some c => exact absurd (hw.fresh _ _ e) (Nat.lt_irrefl _)
                                  have hle := Env.le_bind hnone w1.heap.size cap
                                  -- the cells of the new row
                                  have hA1 : RowR ε cs (len * j.size) A' := by
                                    intro i hi
                                    obtain ⟨x, hx1, hx2⟩ := k2.at i (by rw [row_length]; exact hi)
                                    refine ⟨x, ?_, ?_⟩
                                    · rw [g3 i (by rw [hlen2, Nat.add_mul]; omega), List.getElem?_append_left (by rw [holl]; exact hi)]; exact hx1
                                    · have hrg : ∀ (m i k : Nat), i < m → ((row cs m k)[i]?).getD .any = cs.get .any (k + i) := by
                                        intro m
                                        induction m with
                                        | zero => intro i k hi; omega
                                        | succ m ih =>
                                          intro i k hi
                                          cases i with
                                          | zero => simp [row]
                                          | succ i => simp only [row, List.getElem?_cons_succ]; rw [ih i _ (by omega)]; congr 1; omega
                                      rw [hrg _ _ _ hi] at hx2; simpa using hx2
                                  have hA2 : setRow A' (len * j.size) ys = A' := by
                                    have : ∀ (l : List Value) (o : Nat), (∀ i, i < l.length → A'[o + i]? = l[i]?) → setRow A' o l = A' := by
                                      intro l
                                      induction l with
                                      | nil => intro o _; rfl
                                      | cons y l ih =>
                                        intro o hh
                                        have h00 := hh 0 (by simp)
                                        simp only [Nat.add_zero, List.getElem?_cons_zero] at h00
                                        obtain ⟨hb1, hb2⟩ := Array.getElem?_eq_some_iff.1 h00
                                        have hset : A'.setIfInBounds o y = A' := by
                                          apply Array.ext_getElem?
                                          intro q
                                          by_cases e : o = q
                                          · subst e; rw [Array.getElem?_setIfInBounds, if_pos rfl, if_pos hb1, h00]
                                          · rw [Array.getElem?_setIfInBounds_ne e]
                                        rw [setRow, hset]
                                        exact ih (o + 1) (fun i hi => by have := hh (i + 1) (by simpa using hi); rw [show o + 1 + i = o + (i + 1) by omega]; simpa using this)
                                    refine this ys _ (fun i hi => ?_)
                                    rw [g3 _ (by rw [hlen2, Nat.add_mul, ← hyl]; omega), List.getElem?_append_right (by rw [holl]; omega)]
                                    congr 1; omega
                                  have hrow := putCells_grow new ys cs cs' (len * j.size) A' hput hy2 hA1 (by rw [c5, g2, ← Nat.add_mul]; exact Nat.mul_le_mul_right _ g1)
                                  rw [hA2] at hrow
                                  have hob : obR (ε.bind h1'.nx w1.heap.size cap) h1'.nx (.cells e2 j.size (Nat.add (Nat.mul len j.size) new.length) cs' false false) (.cells A' e2 (0, 0)) := by
                                    rw [hnxe]
                                    exact ⟨A', (0, 0), rfl, hrow.mono hle, by show len * j.size + new.length ≤ _; rw [c5, g2, ← Nat.add_mul]; exact Nat.mul_le_mul_right _ g1, (fun e => by cases e), (fun _ => by rw [g2]; simp [Env.bind]), rfl⟩
                                  obtain ⟨k3, k4⟩ := hw1.newObj cap hnew2 hob
                                  rw [hnxe, g4] at k3 k4
                                  refine ⟨_, _, _, g8, k3, k4, ?_⟩
                                  rw [VR]
                                  exact ⟨w.heap.size, cap, bind_self _ _ _ _, ⟨⟨_, bind_self _ _ _ _⟩, by simp [Env.bind]⟩, g1, by simp⟩
                              · cases hf
                            · cases hf
                        · cases hf
                      all_goals (rw [hg] at hf; simp [appendU] at hf)
                    · cases hf
                · cases hf
            · cases hf
          · cases hf
        · cases hf
      · cases hf
    · cases hf
end
end Go.Lev
namespace Go.Lev
open Go
section
variable {P : Program} {C : Ctx} {ε : Env} {h : Hp} {w w0 : World} {pd : Pd}

theorem copyF_sound (hC : CtxOk P C) (hw : WR w0 ε pd h w) {st : Nat} {s x v : V} {S X : Value} {h' : Hp} {ats : Array TypeId} {ty : TypeId} {args : Array Value}
    (hf : copyF C h st s x = some (v, h')) (hs : VR ε s S) (hx : VR ε x X) (h0 : ats[0]? = some st) (h2 : args[0]? = some S) (h3 : args[1]? = some X) :
    ES P w0 ε pd w (Builtin.copy_ ats ty args) v h' := by
  unfold copyF at hf
  split at hf
  · cases hf
  · rename_i i hi
    have hi := hC.ty _ _ hi
    split at hf
    · rename_i e hk
      have hu := hi.und; rw [hk] at hu
      split at hf
      · cases hf
      · rename_i j hj0
        have hj := hC.ty _ _ hj0
        split at hf
        · rename_i m hm
          cases hf
          have hlen : ∀ w, (Builtin.lenOf X).run P w = .ok m w := fun w => lenV_sound hm hx
          rw [VR] at hs; subst hs
          have hcells : (Builtin.firstCells j.size 0 X).run P w = .ok #[] w := by
            cases x <;> simp [lenV] at hm
            case nilsl => rw [VR] at hx; subst hx; rfl
            case sl => rw [VR] at hx; obtain ⟨_, _, _, _, _, rfl⟩ := hx; simp [Builtin.firstCells, loadCells, loadCellsFrom]
            case str => rw [VR] at hx; subst hx; simp [Builtin.firstCells]
          refine ⟨ε, goInt 0, w, ?_, Env.le_refl ε, hw, by rw [VR]; rfl⟩
          unfold Builtin.copy_
          rw [h0, h2, h3]
          have hmin : Nat.min m 0 = 0 := Nat.min_zero m
          simp only [Sem.run_bind, run_underlying hu, Result.andThen_ok, hlen, hj.run_size, hmin, hcells, Sem.run_pure]
          rfl
        · rename_i b o d len cp m hm
          have hlen : ∀ w, (Builtin.lenOf X).run P w = .ok m w := fun w => lenV_sound hm hx
          rw [VR] at hs; obtain ⟨c, Cc, hc, hcap, hlc, rfl⟩ := hs
          dsimp only at hf
          split at hf
          · rename_i l hd hl
            have hd := beq_nat hd; subst hd
            obtain ⟨ys, k1, k2⟩ := srcCells_sound (P := P) hw.hr hl hx
            split at hf
            · rename_i h1 hst
              cases hf
              obtain ⟨w', g1, g2⟩ := storeAt_sound (P := P) hw hst hc k2
              refine ⟨ε, goInt (Nat.min m len), w', ?_, Env.le_refl ε, g2, by rw [VR]; rfl⟩
              unfold Builtin.copy_
              rw [h0, h2, h3]
              simp only [Sem.run_bind, run_underlying hu, Result.andThen_ok, hlen, hj.run_size, k1, Nat.add_zero, ite_self, g1, Sem.run_pure]
            · cases hf
          · cases hf
        · cases hf
    · cases hf

theorem lastN_back : ∀ (l : List Nat), lastN l = l.getLast?
  | [] => rfl
  | [_] => rfl
  | a :: b :: l => by simp only [lastN]; rw [lastN_back (b :: l)]; simp

theorem entryF_sound (hw : WR w0 ε pd h w) {it v : V} {X : Value} (hf : entryF h it = some v) (hx : VR ε it X) : ES P w0 ε pd w (Instr.entry X) v h := by
  unfold entryF at hf
  split at hf
  · rename_i r
    rw [VR] at hx; obtain ⟨c, hc, rfl⟩ := hx
    split at hf
    · rename_i m since seen st hg
      obtain ⟨ob, ho, hro⟩ := hw.hr.blk r c hc
      rw [hg] at hro
      obtain ⟨m', rfl, d, hd, rfl⟩ := hro
      split at hf
      · rename_i s es clock hlast hat
        obtain ⟨hgm, es', hom, hr, hp, hl⟩ := mapAt_some hw hd hat
        split at hf
        · rename_i e hcs hfb
          cases hf
          have hcs := beq_nat hcs; subst hcs
          obtain ⟨hb, q, hq⟩ := findBorn_some hfb
          subst hb
          have hfind : ∀ (es : List En) (es' : List MapEntry) (e : En), EnRs ε es es' → findBorn e.born es = some e → ∃ E, es'.find? (fun E => E.born == e.born) = some E ∧ EnR ε e E := by
            intro es
            induction es with
            | nil => intro es' e _ h; simp [findBorn] at h
            | cons a es ih =>
              intro es' e hr h
              rw [EnRs] at hr; obtain ⟨A, As, hA, hAs, rfl⟩ := hr
              unfold findBorn at h
              split at h
              · cases h; exact ⟨A, by simp [hA.2.2], hA⟩
              · rename_i hne
                have : (A.born == e.born) = false := by
                  rw [hA.2.2]
                  cases hbb : (a.born == e.born) with
                  | false => rfl
                  | true =>
                    have : a.born = e.born := by simpa using hbb
                    rw [this] at hne; simp at hne
                obtain ⟨E, g1, g2⟩ := ih As e hAs h
                exact ⟨E, by simp [this, g1], g2⟩
          obtain ⟨E, g1, g2⟩ := hfind es es' e hr hfb
          refine ⟨ε, .tuple #[E.key, E.val], w, ?_, Env.le_refl ε, hw, by rw [VR]; exact ⟨[E.key, E.val], VRs.cons g2.1 (VRs.cons g2.2.1 VRs.nil), rfl⟩⟩
          unfold Instr.entry
          rw [lastN_back] at hlast
          simp [run_getObj ho, run_getObj hom, hlast, g1]
        · cases hf
      · cases hf
    · cases hf
  · cases hf

/-- what an operation's outcome says of the machine's -/
def OutR (C : Ctx) (w0 : World) (ε : Env) (pd : Pd) (w : World) (h : Hp) (o : Out) (r : Result Next) : Prop :=
  match o with
  | .val v h' => ∃ ε' w' y nx, r = .ok nx w' ∧ (nx = .value y ∨ (nx = .skip ∧ y = undef)) ∧ ε.le ε' ∧ WR w0 ε' pd h' w' ∧ VR ε' v y
  | .enter g args h' => ∃ ε' w' xs, r = .ok (.enter g xs) w' ∧ ε.le ε' ∧ WR w0 ε' pd h' w' ∧ VRs ε' args xs.toList ∧ ∃ i, C.fi g = some i ∧ i.ok = true
  | .round b fn tm nt asg body h' => ∃ c tmps, r = .ok (.round c fn tmps asg body) w ∧ h' = h ∧ ε.φ b = some c ∧ tmR ε tm nt tmps
  | .defr d h' => ∃ D, r = .ok (.defer D) w ∧ h' = h ∧ DeR ε d D
  | .recv => r = .ok .recover w
  | .pan v => ∃ y, r = .halt (.panic y) w ∧ VR ε v y
  | .brs l => ∃ p ∈ l, ∃ ε' w' y nx, r = .ok nx w' ∧ (nx = .value y ∨ (nx = .skip ∧ y = undef)) ∧ ε.le ε' ∧ WR w0 ε' pd p.2 w' ∧ VR ε' p.1 y
  | .cal f n args v h' => ∃ xs, r = .ok (.enter f xs) w ∧ h' = h ∧ VRs ε args xs.toList ∧ findPr f C.pr = some n ∧ primF h f n args = .cal f n args v h
  | .bad => True

theorem callFunc_enter (hC : CtxOk P C) {f : Nat} {i : FI} (hi : C.fi f = some i) (hok : i.ok = true) (args : Array Value) (w : World) : (callFunc f args).run P w = .ok (.enter f args) w := by
  obtain ⟨fn, hfn, h1, _⟩ := (hC.fs f i hi).fn
  obtain ⟨hb, hname⟩ := h1 hok
  have hne : fn.name ≠ "runtime.NumGoroutine" := by simpa using hname
  unfold callFunc
  simp [hfn, hne, hb]

theorem primF_cases (h : Hp) (f n : Nat) (args : List V) : primF h f n args = .bad ∨ ∃ v, primF h f n args = .cal f n args v h := by
  unfold primF
  split
  · unfold prJoin
    split
    · split
      · split
        · exact .inr ⟨_, rfl⟩
        · exact .inl rfl
      · exact .inl rfl
    · exact .inl rfl
  · exact .inl rfl
theorem byte_eq {x : UInt8} {c : Nat} (hc : c < 256) : Nat.beq x.toNat c = (x == c.toUInt8) := by
  rw [Bool.eq_iff_iff]
  constructor
  · intro h
    have := beq_nat h; subst this
    simp
  · intro h
    have h := eq_of_beq h
    subst h
    simp [Nat.mod_eq_of_lt hc]
theorem cntF_cons (c : Nat) (x : UInt8) (l : List UInt8) (n : Nat) : cntF c (x :: l) n = cntF c l (match Nat.beq x.toNat c with | true => Nat.succ n | false => n) := rfl
theorem idxF_cons (c : Nat) (x : UInt8) (l : List UInt8) (n : Nat) : idxF c (x :: l) n = match Nat.beq x.toNat c with | true => V.int .i64 (.ofNat n) | false => idxF c l (Nat.succ n) := rfl
theorem cntB_eq {c : Nat} (hc : c < 256) : ∀ (l : List UInt8) (n : Nat), cntF c l n = n + l.count c.toUInt8
  | [], n => rfl
  | x :: l, n => by
    rw [cntF_cons, cntB_eq hc l, List.count_cons, byte_eq hc]
    cases x == c.toUInt8 <;> simp
    omega
theorem idxB_eq {c : Nat} (hc : c < 256) : ∀ (l : List UInt8) (n : Nat), idxF c l n = V.int .i64 (if Lib.indexByte l c.toUInt8 = -1 then -1 else (n : Int) + Lib.indexByte l c.toUInt8)
  | [], n => rfl
  | x :: l, n => by
    rw [idxF_cons, byte_eq hc]
    unfold Lib.indexByte
    cases hx : x == c.toUInt8 with
    | true => simp
    | false =>
      simp only [Bool.false_eq_true, if_false]
      rw [idxB_eq hc l]
      by_cases h1 : Lib.indexByte l c.toUInt8 = -1
      · simp [h1]
      · have hb : (Lib.indexByte l c.toUInt8 == -1) = false := by simpa using h1
        have hg := Lib.indexByte_ge l c.toUInt8
        rw [hb, if_neg h1]
        simp only [Bool.false_eq_true, if_false]
        rw [if_neg (by omega)]
        congr 1
        show ((n + 1 : Nat) : Int) + _ = _
        omega
theorem byteK_of {k : IntKind} {c : Nat} (h : byteK k c = true) : k = .u8 ∧ c < 256 := by
  unfold byteK at h
  rw [Bool.and_eq_true, Nat.blt_eq] at h
  exact ⟨kindN_inj (b := .u8) (beq_nat h.1), h.2⟩
theorem strInt_args {s : List UInt8} {k : IntKind} {c : Nat} {xs : Array Value} (hx : VRs ε [.str s, .int k (.ofNat c)] xs.toList) : xs = #[.string ⟨s.toArray⟩, .int k c] := by
  obtain ⟨y, ys, hy, hys, he⟩ := hx.cons_inv
  obtain ⟨z, zs, hz, hzs, rfl⟩ := hys.cons_inv
  have := hzs.nil_inv; subst this
  have hy : y = .string ⟨s.toArray⟩ := by rw [VR] at hy; exact hy
  have hz : z = .int k (.ofNat c) := by rw [VR] at hz; exact hz
  subst hy hz
  apply Array.ext'; simpa using he
theorem ext_sound (hC : CtxOk P C) (hw : WR w0 ε pd h w) {f n : Nat} {args : List V} {xs : Array Value} (hx : VRs ε args xs.toList) (hf : findPr f C.xt = some n) : OutR C w0 ε pd w h (extF h n args) ((callFunc f xs).run P w) := by
  obtain ⟨fn, hfn, q1, q2, q3, q4⟩ := hC.ext f n hf
  have hrun : ∀ e, xtOf n = some e → (callFunc f xs).run P w = ((e xs).run P w).andThen fun v w' => .ok (.value v) w' := fun e he =>
    run_callFunc_extern hfn q2 (by rw [q1]; rfl) q3 (q4.trans he) xs w
  unfold extF
  split
  · unfold extClone
    split
    · rename_i t b
      split
      · rename_i es clock hat
        split
        · rename_i h1 hs
          obtain ⟨y, ys, hy, hys, he⟩ := hx.cons_inv
          have := hys.nil_inv; subst this
          rw [VR] at hy; obtain ⟨z, hz, rfl⟩ := hy
          rw [VR] at hz; obtain ⟨c, hc, rfl⟩ := hz
          have hxs : xs = #[.iface t (.map (some c))] := by apply Array.ext'; simpa using he
          subst hxs
          obtain ⟨hg, es', ho, hr, hp, hl⟩ := mapAt_some hw hc hat
          have hnone : ε.φ h.nx = none := by
            cases e : ε.φ h.nx with
            | none => rfl
            | some c => exact absurd (hw.fresh _ _ e) (Nat.lt_irrefl _)
          have hle := Env.le_bind hnone w.heap.size 0
          obtain ⟨g1, g2⟩ := hw.newObj (o := .map es'.toArray clock) 0 hs ⟨es', rfl, hr.mono hle, hp, hl⟩
          refine ⟨_, _, .iface t (.map (some w.heap.size)), _, ?_, .inl rfl, g1, g2, ?_⟩
          · have hcl : (Extern.MapsClone.clone #[.iface t (.map (some c))]).run P w = .ok (.iface t (.map (some w.heap.size))) { w with heap := w.heap.push (.map es'.toArray clock) } := by
              obtain ⟨why, e⟩ : ∃ why, Extern.MapsClone.clone #[.iface t (.map (some c))] = (do
                  let .map entries clock ← getObj c | stuck why
                  pure (.iface t (.map (some (← newObj (.map entries clock)))))) := ⟨_, rfl⟩
              rw [e, Sem.run_bind, run_getObj ho (by simp), Result.andThen_ok]
              simp only [Sem.run_bind, run_newObj, Result.andThen_ok, Sem.run_pure]
            rw [hrun _ rfl, hcl]
            rfl
          · rw [VR]; exact ⟨_, by rw [VR]; exact ⟨_, bind_self _ _ _ _, rfl⟩, rfl⟩
        · trivial
      · trivial
    · trivial
  · unfold extCount
    split
    · rename_i s k c
      split
      · rename_i hk
        obtain ⟨rfl, hc⟩ := byteK_of hk
        have := strInt_args hx; subst this
        refine ⟨ε, w, .int .i64 (cntB c s), _, ?_, .inl rfl, Env.le_refl ε, hw, by rw [VR]; rfl⟩
        rw [hrun _ rfl]
        show ((Extern.BytealgCount.count #[.string ⟨s.toArray⟩, .int .u8 c]).run P w).andThen _ = _
        rw [Lib.run_countString]
        simp only [Result.andThen_ok]
        unfold cntB
        rw [cntB_eq hc s 0]
        simp [Lib.countByte]
      · trivial
    · trivial
  · unfold extIndexByte
    split
    · rename_i s k c
      split
      · rename_i hk
        obtain ⟨rfl, hc⟩ := byteK_of hk
        have := strInt_args hx; subst this
        refine ⟨ε, w, .int .i64 (firstIdx ⟨s.toArray⟩ c.toUInt8), _, ?_, .inl rfl, Env.le_refl ε, hw, ?_⟩
        · rw [hrun _ rfl]
          show ((Extern.BytealgIndexByte.indexByte #[.string ⟨s.toArray⟩, .int .u8 c]).run P w).andThen _ = _
          rw [run_indexByte_string]
          rfl
        · unfold idxB
          rw [idxB_eq hc s 0, Lib.firstIdx_eq, VR]
          congr 1
          simp only [Int.natCast_zero, Int.zero_add]
          split
          · rename_i h1; exact h1
          · rfl
      · trivial
    · trivial
  · trivial
theorem enterF_sound (hC : CtxOk P C) (hw : WR w0 ε pd h w) {f : Nat} {args : List V} {xs : Array Value} (hx : VRs ε args xs.toList) : OutR C w0 ε pd w h (enterF C h f args) ((callFunc f xs).run P w) := by
  unfold enterF enterF2
  split
  · trivial
  · rename_i i hi
    split
    · rename_i hok
      unfold primO
      split
      · rename_i n hn
        rcases primF_cases h f n args with e | ⟨v, e⟩
        · rw [e]; trivial
        · rw [e]; exact ⟨xs, callFunc_enter hC hi hok xs w, rfl, hx, hn, e⟩
      · exact ⟨ε, w, xs, callFunc_enter hC hi hok xs w, Env.le_refl ε, hw, hx, i, hi, hok⟩
    · unfold extO
      split
      · rename_i n hn
        exact ext_sound hC hw hx hn
      · trivial

theorem findMeth_find : ∀ (ms : List Method) (name : String), findMeth ms name = ms.find? (·.name == name)
  | [], _ => rfl
  | m :: l, name => by
    unfold findMeth
    rw [List.find?_cons]
    cases m.name == name <;> simp [findMeth_find l name]
end
end Go.Lev
namespace Go.Lev
open Go
section
variable {P : Program} {C : Ctx} {ε : Env} {h : Hp} {w w0 : World} {pd : Pd}

theorem methF_sound (hC : CtxOk P C) (hw : WR w0 ε pd h w) {r : V} {R : Value} {name : String} {args : List V} {xs : Array Value} (hr : VR ε r R) (hx : VRs ε args xs.toList) :
    OutR C w0 ε pd w h (methF C h r name args) ((callMethod R name xs).run P w) := by
  unfold methF
  split
  · rename_i t v
    rw [VR] at hr; obtain ⟨y, hy, rfl⟩ := hr
    split
    · rename_i i hi
      have hi := hC.ty _ _ hi
      have hu := hi.und
      obtain ⟨f, hf, _, _, hms, _⟩ := hi.info
      split
      · rename_i m hm
        rw [findMeth_find] at hm
        split
        · rename_i fn p hpath hfunc
          have hpe : m.path.toList = [] := by
            have : m.path = #[] := by simpa using hpath
            rw [this]
          have hfind : f.methods.find? (·.name == name) = some m := by
            rw [hms, ← Array.find?_toList]; exact hm
          have key : ∀ (z : Value) (w' : World), (receiverAt t (.val y) p (some ((name.splitOn ".").getLastD name))).run P w = .ok z w' → (callMethod (.iface t y) name xs).run P w = (callFunc fn (#[z] ++ xs)).run P w' := by
            intro z w' hz
            unfold callMethod
            simp only [Sem.run_bind, run_program, Result.andThen_ok]
            rw [show P.types.size + Made.depth = (P.types.size + 99) + 1 from rfl]
            unfold method
            simp only [Sem.run_bind, typeInfo, run_program, Result.andThen_ok, hf, Sem.run_pure, hfind, hpe, follow, hfunc, hpath, if_true, hz]
          have fin : ∀ (u : V) (z : Value), VR ε u z → (callMethod (.iface t y) name xs).run P w = (callFunc fn (#[z] ++ xs)).run P w → OutR C w0 ε pd w h (enterF C h fn (u :: args)) ((callMethod (.iface t y) name xs).run P w) := by
            intro u z hz he
            rw [he]
            exact enterF_sound hC hw (by simpa using VRs.cons hz hx)
          split
          · rename_i e hk
            rw [hk] at hu
            refine fin v y hy (key y w ?_)
            unfold receiverAt
            simp [run_underlying hu, Place.get]
          · rename_i e hk
            rw [hk] at hu
            split
            · rename_i x hx'
              obtain ⟨z, g1, g2⟩ := loadF_sound hC hw.hr hx' hy
              refine fin x z g2 (key z w ?_)
              unfold receiverAt
              obtain ⟨q0, rfl⟩ : ∃ q, y = .pointer (some q) := by
                unfold loadF at hx'
                split at hx'
                · rw [VR] at hy; obtain ⟨c, _, e⟩ := hy; exact ⟨_, e⟩
                · rw [VR] at hy; exact ⟨_, hy⟩
                · cases hx'
              unfold Instr.loadAt Instr.sureAddr at g1
              simp only [pure_bind] at g1
              have e1 : ∀ (q : Addr) (s m : ByteArray), Builtin.ssaWrapNilChk_ #[t] t #[.pointer (some q), .string s, .string m] = pure (.pointer (some q)) := fun _ _ _ => rfl
              rw [Sem.run_bind, run_underlying hu, Result.andThen_ok]
              simp only [Place.get, pure_bind, strVal, e1, asAddr]
              exact g1
            · trivial
          · rename_i hk1 hk2
            refine fin v y hy (key y w ?_)
            unfold receiverAt
            rw [Sem.run_bind, run_underlying hu, Result.andThen_ok]
            cases hku : i.u <;> first | exact absurd hku (hk2 _) | simp [Place.get]
          · trivial
        · trivial
      · trivial
    · trivial
  · trivial

theorem setArgs_sound {nt : Nat} : ∀ (ps : List Nat) (args : List V) (xs : List Value) (tm tm' : T V) (tmps : Array Value), setArgs ps args tm = some tm' → VRs ε args xs → tmR ε tm nt tmps → (∀ p ∈ ps, p < nt) →
    ps.length = xs.length ∧ tmR ε tm' nt ((ps.zip xs).foldl (fun tmps (t, a) => tmps.setIfInBounds t a) tmps)
  | [], [], xs, tm, tm', tmps, hf, hx, ht, _ => by
    simp only [setArgs, Option.some.injEq] at hf; subst hf
    have := hx.nil_inv; subst this
    exact ⟨rfl, ht⟩
  | p :: ps, v :: args, xs, tm, tm', tmps, hf, hx, ht, hp => by
    obtain ⟨y, ys, hy, hys, rfl⟩ := hx.cons_inv
    unfold setArgs at hf
    split at hf
    · rename_i t1 hs
      have hpn := hp p (by simp)
      have ht1 : tmR ε t1 nt (tmps.setIfInBounds p y) := by
        refine ⟨by simp [ht.1], fun t => ?_⟩
        rw [T.get_set hs]
        by_cases e : t = p
        · subst e
          have : t < tmps.size := by rw [ht.1]; exact hpn
          simp [Array.getD_eq_getD_getElem?, this]; exact hy
        · rw [if_neg e]
          have := ht.2 t
          rw [Array.getD_eq_getD_getElem?, Array.getElem?_setIfInBounds_ne (fun e' => e e'.symm)]
          rw [Array.getD_eq_getD_getElem?] at this
          exact this
      obtain ⟨h1, h2⟩ := setArgs_sound ps args ys t1 tm' _ hf hys ht1 (fun q hq => hp q (by simp [hq]))
      exact ⟨by simp [h1], h2⟩
    · cases hf
  | [], _ :: _, _, _, _, _, hf, _, _, _ => by simp [setArgs] at hf
  | _ :: _, [], _, _, _, _, hf, _, _, _ => by simp [setArgs] at hf

theorem yieldF_sound (hw : WR w0 ε pd h w) {b c : Nat} (hb : ε.φ b = some c) {args : List V} {xs : Array Value} (hx : VRs ε args xs.toList) : OutR C w0 ε pd w h (yieldF h b args) ((Instr.yield c xs).run P w) := by
  unfold yieldF
  split
  · rename_i st pend fn tm nt ps asg body df hg
    split
    · rename_i tm' hall hs
      obtain ⟨ob, ho, hro⟩ := hw.hr.blk b c hb
      rw [hg] at hro
      obtain ⟨tmps, df', rfl, htm, hdf⟩ := hro
      have hp : ∀ p ∈ ps.toList, p < nt := by
        intro p hp
        have := List.all_eq_true.1 hall p hp
        rw [Nat.blt_eq] at this; exact this
      obtain ⟨h1, h2⟩ := setArgs_sound ps.toList args xs.toList tm tm' tmps hs hx htm hp
      refine ⟨c, _, ?_, rfl, hb, h2⟩
      have hsz : xs.size = ps.size := by simpa using h1.symm
      unfold Instr.yield Instr.getLoop
      simp only [Sem.run_bind, run_getObj ho (by simp), Result.andThen_ok, Sem.run_pure, hsz, ne_eq, not_true_eq_false, if_false]
      congr 3
      rw [← Array.foldl_toList]
      simp [Array.toList_zip]
    · trivial
  · trivial

theorem invokeF_sound (hC : CtxOk P C) (hw : WR w0 ε pd h w) {fv : V} {F : Value} {args : List V} {xs : Array Value} (hf : VR ε fv F) (hx : VRs ε args xs.toList) :
    OutR C w0 ε pd w h (invokeF C h fv args) ((do let d ← Deferred.ofValue F xs; invoke d.target d.args : Sem Next).run P w) := by
  unfold invokeF
  split
  · rename_i f first cap
    rw [VR] at hf; obtain ⟨_, a', b', ha, hb, rfl⟩ := hf
    have := enterF_sound (f := f) (xs := a'.toArray ++ xs ++ b'.toArray) hC hw (by simpa using VRs.append (VRs.append ha hx) hb)
    simpa [Deferred.ofValue, invoke] using this
  · rename_i name first cap
    rw [VR] at hf; obtain ⟨_, a', b', ha, hb, rfl⟩ := hf
    split
    · rename_i r rest hr
      have hall := VRs.append ha hx
      rw [hr] at hall
      obtain ⟨y, ys, hy, hys, he⟩ := hall.cons_inv
      have := methF_sound (name := name) (xs := ys.toArray) hC hw hy (by simpa using hys)
      have he' : a'.toArray ++ xs = (y :: ys).toArray := by apply Array.ext'; simpa using he
      simp only [Deferred.ofValue, pure_bind, invoke, he']
      simpa using this
    · trivial
  · rename_i b
    rw [VR] at hf; obtain ⟨c, hc, rfl⟩ := hf
    have := yieldF_sound (C := C) (P := P) hw hc hx
    simpa [Deferred.ofValue, invoke] using this
  · trivial
end
end Go.Lev
namespace Go.Lev
open Go
section
variable {P : Program} {C : Ctx} {ε : Env} {h : Hp} {w w0 : World} {pd : Pd}

theorem vOut_sound (hw : WR w0 ε pd h w) {r : Option V} {s : Sem Next} (hr : ∀ v, r = some v → ∃ y, s.run P w = .ok (.value y) w ∧ VR ε v y) : OutR C w0 ε pd w h (vOut h r) (s.run P w) := by
  unfold vOut
  split
  · rename_i v
    obtain ⟨y, h1, h2⟩ := hr v rfl
    exact ⟨ε, w, y, _, h1, .inl rfl, Env.le_refl ε, hw, h2⟩
  · trivial

theorem aOut_sound (hw : WR w0 ε pd h w) {r : AR} {t : Sem Next} (hr : ∀ p, r = some p → ∃ s : Sem Value, t = (do pure (Next.value (← s)) : Sem Next) ∧ AS P ε s p) : OutR C w0 ε pd w h (aOut h r) (t.run P w) := by
  unfold aOut
  split
  · rename_i p
    obtain ⟨s, hs, _, obj, yv, hrun, hobj⟩ := hr p rfl
    unfold newOut
    split
    · rename_i h' hnew
      have hnone : ε.φ h.nx = none := by
        cases e : ε.φ h.nx with
        | none => rfl
        | some c => exact absurd (hw.fresh _ _ e) (Nat.lt_irrefl _)
      have hle := Env.le_bind hnone w.heap.size 0
      obtain ⟨k1, k2⟩ := hobj _ h.nx w.heap.size hle (bind_self _ _ _ _)
      obtain ⟨g1, g2⟩ := hw.newObj (o := obj) 0 hnew k1
      refine ⟨_, _, yv w.heap.size, _, ?_, .inl rfl, g1, g2, k2⟩
      rw [hs, Sem.run_bind, hrun, Result.andThen_ok]; rfl
    · trivial
  · trivial

theorem ES_out {s : Sem Value} {v : V} {h' : Hp} (he : ES P w0 ε pd w s v h') : OutR C w0 ε pd w h (.val v h') ((do pure (Next.value (← s)) : Sem Next).run P w) := by
  obtain ⟨ε', y, w', h1, h2, h3, h4⟩ := he
  exact ⟨ε', w', y, _, by rw [Sem.run_bind, h1]; rfl, .inl rfl, h2, h3, h4⟩
theorem ofVal_sound {r : Option (V × Hp)} {s : Sem Value} (hr : ∀ v h', r = some (v, h') → ES P w0 ε pd w s v h') : OutR C w0 ε pd w h (ofVal r) ((do pure (Next.value (← s)) : Sem Next).run P w) := by
  unfold ofVal
  split
  · exact ES_out (hr _ _ rfl)
  · trivial
theorem ofHp_sound {r : Option Hp} {s : Sem Unit} (hr : ∀ h', r = some h' → ∃ w', s.run P w = .ok () w' ∧ WR w0 ε pd h' w') : OutR C w0 ε pd w h (ofHp r) ((do s; pure Next.skip : Sem Next).run P w) := by
  unfold ofHp
  split
  · obtain ⟨w', h1, h2⟩ := hr _ rfl
    exact ⟨ε, w', undef, .skip, by rw [Sem.run_bind, h1]; rfl, .inr ⟨rfl, rfl⟩, Env.le_refl ε, h2, VR_undef ε⟩
  · trivial
theorem ofHp_val {r : Option Hp} {s : Sem Value} (hr : ∀ h', r = some h' → ∃ w', s.run P w = .ok undef w' ∧ WR w0 ε pd h' w') : OutR C w0 ε pd w h (ofHp r) ((do pure (Next.value (← s)) : Sem Next).run P w) := by
  unfold ofHp
  split
  · obtain ⟨w', h1, h2⟩ := hr _ rfl
    exact ⟨ε, w', undef, _, by rw [Sem.run_bind, h1]; rfl, .inl rfl, Env.le_refl ε, h2, VR_undef ε⟩
  · trivial

theorem arr0 {α : Type} {a : Array α} {x : α} {l : List α} (h : a.toList = x :: l) : a[0]? = some x := by
  have : a = (x :: l).toArray := by rw [← h]
  rw [this]; rfl
theorem arr1 {α : Type} {a : Array α} {x y : α} {l : List α} (h : a.toList = x :: y :: l) : a[1]? = some y := by
  have : a = (x :: y :: l).toArray := by rw [← h]
  rw [this]; rfl
theorem map0' {α β : Type} {a : Array α} {x : α} {l : List α} (f : α → β) (h : a.toList = x :: l) : (a.map f)[0]? = some (f x) := by rw [Array.getElem?_map, arr0 h]; rfl
theorem map1' {α β : Type} {a : Array α} {x y : α} {l : List α} (f : α → β) (h : a.toList = x :: y :: l) : (a.map f)[1]? = some (f y) := by rw [Array.getElem?_map, arr1 h]; rfl

theorem byteVs_R {ε : Env} : ∀ l : List UInt8, VRs ε (byteVs l) (l.map fun b => Value.int .u8 b.toNat)
  | [] => by simp [byteVs, VRs]
  | b :: l => by
    have ih := byteVs_R (ε := ε) l
    unfold byteVs at ih ⊢
    rw [List.map_cons, List.map_cons]
    exact VRs.cons (by rw [VR]; rfl) ih
theorem convB_sound (hC : CtxOk P C) (hw : WR w0 ε pd h w) {s d : Nat} {a v : V} {x : Value} {h' : Hp} (hf : convB C h s d a = some (v, h')) (hx : VR ε a x) :
    ∃ ε' w' y, (convert s d x).run P w = .ok y w' ∧ ε.le ε' ∧ WR w0 ε' pd h' w' ∧ VR ε' v y := by
  unfold convB at hf
  split at hf
  · rename_i ia ib hia hib
    have hua := (hC.ty _ _ hia).und
    have hub := (hC.ty _ _ hib).und
    split at hf
    · rename_i e l hka hkb
      rw [hka] at hua; rw [hkb] at hub
      rw [VR] at hx; subst hx
      split at hf
      · rename_i j hj
        have huj := (hC.ty _ _ hj).und
        split at hf
        · rename_i k hkj
          rw [hkj] at huj
          split at hf
          · rename_i hk
            have hk := kindN_inj (b := .u8) (beq_nat hk); subst hk
            unfold bytesNew at hf
            split at hf
            · rename_i cs hcs
              split at hf
              · rename_i h1 hs
                cases hf
                have hrun := run_bytes_of_string (P := P) w s d e ⟨l.toArray⟩ hua hub huj
                generalize hcapv : grownCap w (ByteArray.mk l.toArray).size 0 e = cap at hrun
                have hcap : l.length ≤ cap := by
                  rw [← hcapv]
                  show l.length ≤ (ByteArray.mk l.toArray).size + _
                  have : (ByteArray.mk l.toArray).size = l.length := by simp [ByteArray.size]
                  omega
                have hsz : (ByteArray.mk l.toArray).size = l.length := by simp [ByteArray.size]
                rw [hsz] at hrun
                have hwd : WR w0 ε pd h w.drew := hw.world rfl rfl rfl rfl
                have hnone : ε.φ h.nx = none := by
                  cases e : ε.φ h.nx with
                  | none => rfl
                  | some c => exact absurd (hw.fresh _ _ e) (Nat.lt_irrefl _)
                have hle := Env.le_bind hnone w.heap.size cap
                have hl : VRs ε (byteVs l) (l.map fun b => Value.int .u8 b.toNat) := byteVs_R l
                have hrow := (freshRow_row hcs hl).mono hle
                have hlen : (byteVs l).length = l.length := by simp [byteVs]
                generalize hA : bytesRow ⟨l.toArray⟩ cap = A at hrun
                have hAs : A.size = cap := by
                  rw [← hA]; simp [bytesRow, hsz]; omega
                have hpre : ∀ i, i < l.length → A[i]? = (l.map fun b => Value.int .u8 b.toNat)[i]? := by
                  intro i hi
                  rw [← hA]
                  unfold bytesRow
                  rw [Array.getElem?_append_left (by simpa using hi)]
                  simp
                obtain ⟨g1, g2⟩ := hwd.newObj (o := .cells A e (A.size, A.size + 1)) cap hs ⟨A, (A.size, A.size + 1), rfl, (fun i hi => by
                  obtain ⟨x, h1, h2⟩ := hrow i (by rw [hlen]; exact hi)
                  refine ⟨x, ?_, h2⟩
                  rw [hpre i hi]; simpa using h1), by rw [hAs]; exact hcap, (fun e => by cases e), (fun _ => by rw [hAs]; simp [Env.bind]), rfl⟩
                refine ⟨_, _, _, hrun, g1, g2, ?_⟩
                rw [VR]
                exact ⟨w.heap.size, cap, bind_self _ _ _ _, ⟨⟨_, bind_self _ _ _ _⟩, by simp [Env.bind]⟩, hcap, by simp⟩
              · cases hf
            · cases hf
          · cases hf
        · cases hf
      · cases hf
    · cases hf
  · cases hf
theorem eConv_sound (hC : CtxOk P C) (hw : WR w0 ε pd h w) {s d : Nat} {x : Operand} {tm : T V} {X : Value} (hx : VR ε (ev tm x) X) (hq : ∀ v, qConv s d x C h tm = some v → QS P ε w (convert s d X) v) :
    OutR C w0 ε pd w h (eConv s d x C h tm) ((do pure (Next.value (← convert s d X)) : Sem Next).run P w) := by
  unfold eConv
  split
  · rename_i v hv
    obtain ⟨y, h1, h2⟩ := hq v hv
    exact ⟨ε, w, y, _, by rw [Sem.run_bind, h1]; rfl, .inl rfl, Env.le_refl ε, hw, h2⟩
  · unfold ofVal
    split
    · rename_i v h' hc
      obtain ⟨ε', w', y, h1, h2, h3, h4⟩ := convB_sound hC hw hc hx
      exact ⟨ε', w', y, _, by rw [Sem.run_bind, h1]; rfl, .inl rfl, h2, h3, h4⟩
    · trivial

/-- an operation: the machine's outcome is the evaluator's -/
theorem oper_sound (hC : CtxOk P C) (hw : WR w0 ε pd h w) {o : Oper} {tm : T V} {ρ : Operand → Value} (hρ : ∀ x ∈ o.op.operands, EvR ε tm ρ x) :
    OutR C w0 ε pd w h (operTab o.op C h tm) ((execOp ρ o).run P w) := by
  have hq := fun v e => quiet_sound (P := P) (w := w) (o := o) (v := v) hC hw.hr e hρ
  have ha := fun p e => alloc_sound (P := P) (o := o) (p := p) hC e hρ
  obtain ⟨dst, op, ty, pos, after, guard⟩ := o
  cases op
  case move x => exact vOut_sound hw (fun v e => hq v e)
  case pick c a b => exact vOut_sound hw (fun v e => hq v e)
  case load t a => exact vOut_sound hw (fun v e => hq v e)
  case fieldAddr t x f => exact vOut_sound hw (fun v e => hq v e)
  case nilCheck x => exact vOut_sound hw (fun v e => hq v e)
  case binOp op t x y u => exact vOut_sound hw (fun v e => hq v e)
  case unOp op t x => exact vOut_sound hw (fun v e => hq v e)
  case convert s d x => exact eConv_sound hC hw (hρ x (by simp [Op.operands])) (fun v e => convF_sound hC hw.hr e (hρ x (by simp [Op.operands])))
  case extract x n => exact vOut_sound hw (fun v e => hq v e)
  case indexAddr t x i => exact vOut_sound hw (fun v e => hq v e)
  case index t x i => exact vOut_sound hw (fun v e => hq v e)
  case field t x f => exact vOut_sound hw (fun v e => hq v e)
  case slice t x lo hi mx => exact vOut_sound hw (fun v e => hq v e)
  case makeInterface t x => exact vOut_sound hw (fun v e => hq v e)
  case makeFunc f a b => exact vOut_sound hw (fun v e => hq v e)
  case lookup t x k ok => exact vOut_sound hw (fun v e => hq v e)
  case typeAssert x s t ok => exact vOut_sound hw (fun v e => hq v e)
  case build t ps => exact vOut_sound hw (fun v e => hq v e)
  case sliceToArrayPointer t x => exact vOut_sound hw (fun v e => hq v e)
  case box t x => exact aOut_sound hw (fun p e => ha p e)
  case alloc t => exact aOut_sound hw (fun p e => ha p e)
  case makeMap t r => exact aOut_sound hw (fun p e => ha p e)
  case makeSlice t l c => exact aOut_sound hw (fun p e => ha p e)
  case buildSlice t n ps => exact aOut_sound hw (fun p e => ha p e)
  case assign x => exact ⟨ε, w, ρ x, _, rfl, .inl rfl, Env.le_refl ε, hw, hρ x (by simp [Op.operands])⟩
  case store t a x => exact ofHp_sound (fun h' e => storeF_sound hC hw e (hρ a (by simp [Op.operands])) (hρ x (by simp [Op.operands])))
  case mapUpdate t m k x => exact ofHp_sound (fun h' e => mapUpdF_sound hC hw e (hρ m (by simp [Op.operands])) (hρ k (by simp [Op.operands])) (hρ x (by simp [Op.operands])))
  case insert t m k x => exact ofHp_sound (fun h' e => mapUpdF_sound hC hw e (hρ m (by simp [Op.operands])) (hρ k (by simp [Op.operands])) (hρ x (by simp [Op.operands])))
  case mapEntry t m k =>
    refine ofVal_sound (fun v h' e => ?_)
    obtain ⟨y, w', g1, g2, g3⟩ := mapEntryF_sound (P := P) hC hw e (hρ m (by simp [Op.operands])) (hρ k (by simp [Op.operands]))
    exact ⟨ε, y, w', g1, Env.le_refl ε, g2, g3⟩
  case entryStore t m s x => exact ofHp_sound (fun h' e => entryStoreF_sound hw e (hρ m (by simp [Op.operands])) (hρ s (by simp [Op.operands])) (hρ x (by simp [Op.operands])))
  case range t x =>
    refine ofVal_sound (fun v h' e => ?_)
    obtain ⟨ε', y, w', g1, g2, g3, g4⟩ := rangeF_sound (P := P) hC hw e (hρ x (by simp [Op.operands]))
    exact ⟨ε', y, w', g1, g2, g3, g4⟩
  case next it b =>
    cases b with
    | true => trivial
    | false =>
      show OutR C w0 ε pd w h (nextF h (ev tm it)) _
      by_cases hne : nextF h (ev tm it) = .bad
      · rw [hne]; trivial
      · obtain ⟨p, hp, y, w', g1, g2, g3⟩ := nextF_sound (P := P) (ty := ty) hw hne (hρ it (by simp [Op.operands]))
        have hrun : (execOp ρ ⟨dst, .next it false, ty, pos, after, guard⟩).run P w = .ok (.value y) w' := by
          show ((do pure (Next.value (← Instr.next (ρ it) false ty)) : Sem Next)).run P w = _
          rw [Sem.run_bind, g1]; rfl
        rw [hrun]
        cases hn : nextF h (ev tm it) with
        | val v h' =>
          rw [hn] at hp
          simp only [outs, List.mem_singleton] at hp; subst hp
          exact ⟨ε, w', y, _, rfl, .inl rfl, Env.le_refl ε, g2, g3⟩
        | brs l =>
          rw [hn] at hp
          exact ⟨p, hp, ε, w', y, _, rfl, .inl rfl, Env.le_refl ε, g2, g3⟩
        | bad => trivial
        | _ => rw [hn] at hp; simp [outs] at hp
  case entry it =>
    show OutR C w0 ε pd w h (match entryF h (ev tm it) with | some v => .val v h | none => .bad) _
    split
    · rename_i v hv
      exact ES_out (entryF_sound hw hv (hρ it (by simp [Op.operands])))
    · trivial
  case panic x =>
    show OutR C w0 ε pd w h (panV (ev tm x)) _
    unfold panV
    split
    · rename_i t v hv
      have hx : EvR ε tm ρ x := hρ x (by simp [Op.operands])
      unfold EvR at hx
      rw [hv] at hx
      have hx' := hx
      rw [VR] at hx; obtain ⟨y, hy, he⟩ := hx
      refine ⟨ρ x, ?_, hx'⟩
      show ((do pure (Next.value (← Instr.panic (ρ x))) : Sem Next)).run P w = _
      rw [he, Sem.run_bind]
      simp [Instr.panic]
    · trivial
  case defer c =>
    obtain ⟨callee, args, argTypes⟩ := c
    show OutR C w0 ε pd w h (eDefer ⟨callee, args, argTypes⟩ C h tm) _
    unfold eDefer
    split
    · rename_i f hf
      simp only at hf; subst hf
      have hargs := evs_sound (ε := ε) (tm := tm) (ρ := ρ) args.toList (fun x hx => hρ x (by simp [Op.operands, Call.operands]; exact .inr (by simpa using hx)))
      have hfv : EvR ε tm ρ f := hρ f (by simp [Op.operands, Call.operands])
      unfold EvR at hfv
      unfold defrV
      split
      · rename_i g first cap hv
        rw [hv, VR] at hfv; obtain ⟨hne, a', b', h1, h2, he⟩ := hfv
        refine ⟨{ target := .fn (.func g) b'.toArray, args := a'.toArray ++ args.map ρ }, ?_, rfl, ?_⟩
        · show ((do pure (Next.defer (← resolve ρ ⟨.value f, args, argTypes⟩ ty)) : Sem Next)).run P w = _
          simp [resolve, he, Deferred.ofValue]
        · exact ⟨⟨by simp, b', h2, rfl⟩, by simpa using VRs.append h1 hargs⟩
      · trivial
    · trivial
  case call c =>
    obtain ⟨callee, args, argTypes⟩ := c
    have hargs := evs_sound (ε := ε) (tm := tm) (ρ := ρ) args.toList (fun x hx => hρ x (by
      cases callee <;> simp [Op.operands, Call.operands] <;> first | exact .inr (by simpa using hx) | exact (by simpa using hx)))
    cases callee with
    | value f =>
      have hfv : EvR ε tm ρ f := hρ f (by simp [Op.operands, Call.operands])
      have := invokeF_sound (P := P) (xs := args.map ρ) hC hw hfv (by simpa using hargs)
      exact this
    | invoke r name =>
      have hr : EvR ε tm ρ r := hρ r (by simp [Op.operands, Call.operands])
      have := methF_sound (P := P) (name := name) (xs := args.map ρ) hC hw hr (by simpa using hargs)
      have e : (execOp ρ ⟨dst, .call ⟨.invoke r name, args, argTypes⟩, ty, pos, after, guard⟩) = callMethod (ρ r) name (args.map ρ) := by
        have h1 : (#[ρ r] ++ args.map ρ)[0]? = some (ρ r) := by rw [Array.getElem?_append_left (by simp)]; rfl
        have h2 : (#[ρ r] ++ args.map ρ).extract 1 (#[ρ r] ++ args.map ρ).size = args.map ρ := by apply Array.ext'; simp [List.take_of_length_le]
        simp only [execOp, resolve, pure_bind, invoke, h1, h2]
      rw [e]
      exact this
    | builtin b =>
      show OutR C w0 ε pd w h (callBuiltin b ⟨.builtin b, args, argTypes⟩ C h tm) _
      unfold callBuiltin
      split
      · rename_i v hv
        obtain ⟨y, g1, g2⟩ := hq v hv
        exact ⟨ε, w, y, _, g1, .inl rfl, Env.le_refl ε, hw, g2⟩
      · obtain ⟨cs, hb⟩ : ∃ cs, (execOp ρ ⟨dst, .call ⟨.builtin b, args, argTypes⟩, ty, pos, after, guard⟩) = builtin b argTypes ty cs (args.map ρ) := ⟨_, rfl⟩
        rw [hb]
        have harg : ∀ x ∈ args.toList, EvR ε tm ρ x := fun x hx => hρ x (by simpa [Op.operands, Call.operands] using hx)
        unfold eBuiltin
        split
        · unfold eAppend
          split
          · rename_i t xt ts s x xs h1 h2
            unfold append1
            split
            · rename_i i hi
              have hi := hC.ty _ _ hi
              split
              · trivial
              · rename_i hni
                refine ofVal_sound (s := Builtin.append_ argTypes ty (args.map ρ)) (fun v h' e => ?_)
                exact appendF_sound hC hw e (harg s (by rw [h2]; simp)) (harg x (by rw [h2]; simp)) hi.und (fun k e => hni k e) (arr0 h1) (arr1 h1) (map0' ρ h2) (map1' ρ h2)
            · trivial
          · trivial
        · unfold eCopy
          split
          · rename_i t ts s x xs h1 h2
            refine ofVal_sound (s := Builtin.copy_ argTypes ty (args.map ρ)) (fun v h' e => ?_)
            exact copyF_sound hC hw e (harg s (by rw [h2]; simp)) (harg x (by rw [h2]; simp)) (arr0 h1) (map0' ρ h2) (map1' ρ h2)
          · trivial
        · unfold eDelete
          split
          · rename_i t ts m k xs h1 h2
            refine ofHp_val (s := Builtin.delete_ argTypes ty (args.map ρ)) (fun h' e => ?_)
            exact deleteF_sound hC hw e (harg m (by rw [h2]; simp)) (harg k (by rw [h2]; simp)) (arr0 h1) (map0' ρ h2) (map1' ρ h2)
          · trivial
        · unfold eClear
          split
          · rename_i t ts x xs h1 h2
            split
            · rename_i i hi
              refine ofHp_val (s := Builtin.clear_ argTypes ty (args.map ρ)) (fun h' e => ?_)
              exact clearF_sound hC hw e (harg x (by rw [h2]; simp)) (arr0 h1) (map0' ρ h2) (by rw [hi]; simp)
            · trivial
          · trivial
        · rfl
        · unfold ePanicB
          split
          · rename_i x xs h2
            unfold panV
            split
            · rename_i t v hv
              have hx : EvR ε tm ρ x := harg x (by rw [h2]; simp)
              unfold EvR at hx
              rw [hv] at hx
              have hx' := hx
              rw [VR] at hx; obtain ⟨y, hy, he⟩ := hx
              refine ⟨ρ x, ?_, hx'⟩
              have h0 : (args.map ρ).getD 0 .nilIface = ρ x := by rw [Array.getD_eq_getD_getElem?, map0' ρ h2]; rfl
              simp only [builtin, h0, he, Sem.run_bind]
              simp [Instr.panic]
            · trivial
          · trivial
        · trivial
  all_goals trivial
end
end Go.Lev
