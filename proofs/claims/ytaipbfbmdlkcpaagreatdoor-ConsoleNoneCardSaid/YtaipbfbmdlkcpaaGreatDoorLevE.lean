/-
  PROVED HERE: what a run with arguments comes to; what nobody needs any more may be forgotten.
  Conditions: none.
-/
import Derived.Test.YtaipbfbmdlkcpaaGreatDoorLevD
namespace Go.Lev
open Go
/-! ### calls with arguments; what the waiting frame knows is forgotten -/
section
variable {P : Program} {C : Ctx}
theorem calls_of_goodA (hC : CtxOk P C) {f : Nat} {args : List V} {xs : Array Value} (hx : VRs ⟨fun _ => none, fun _ => 0⟩ args xs.toList) (hok : okF C f = true) {s : St} (hs : startSt C f args = .inl s) (g : Good P C s) (w : World) :
    Calls P f xs w fun e w' => e = .returned (.bool true) ∧ w.keptBut w' (fun _ => False) := by
  intro cs0
  unfold okF at hok
  split at hok
  · rename_i i hi
    have hmr : MR P C w f cs0 s (lone (Frame.enter P f xs .normal) ([] ++ cs0) w) :=
      enter_mr (ε := ⟨fun _ => none, fun _ => 0⟩) (pds := []) (cs := []) (Cs := []) hC hi hok hx ⟨rfl, rfl⟩ (WR.start w) (.inl rfl) ⟨rfl, rfl, rfl⟩ hs
    obtain ⟨w', F, g1, g2, g3, g4⟩ := g w f cs0 _ hmr
    exact ⟨.returned (.bool true), w', F, ⟨rfl, g4⟩, g1, g3, g2⟩
  · cases hok
noncomputable def fromStartA (C : Ctx) (f : Nat) (args : List V) (n : Nat) : R := match startSt C f args with | .inl s => iterN (stepF C) n s | .inr r => .inr r
theorem calls_of_partsA (hC : CtxOk P C) {f n : Nat} {args : List V} {xs : Array Value} (hx : VRs ⟨fun _ => none, fun _ => 0⟩ args xs.toList) (hok : okF C f = true) {l : List Nat} {s : St} (h : cutR l (fromStartA C f args n) = .inl s)
    (g : Good P C s) (w : World) : Calls P f xs w fun e w' => e = .returned (.bool true) ∧ w.keptBut w' (fun _ => False) := by
  unfold fromStartA at h
  split at h
  · rename_i s0 hs
    exact calls_of_goodA hC hx hok hs (.of_part hC h g) w
  · cases h

/-- of a slot only this is kept: whether it holds true, or false -/
noncomputable def softV (v : V) : V := match v with | .bool b => .bool b | _ => .any
noncomputable def softRow (tm : T V) : Nat → Nat → List V
  | 0, _ => []
  | n + 1, i => softV (tm.get undefV i) :: softRow tm n (Nat.succ i)
noncomputable def anyT (tm : T V) (nt : Nat) : Option (T V) := putRow (softRow tm nt 0) undefTree 0
theorem softRow_get (tm : T V) : ∀ (n i j : Nat), (softRow tm n i)[j]? = if j < n then some (softV (tm.get undefV (i + j))) else none
  | 0, i, j => by simp [softRow]
  | n + 1, i, 0 => by simp [softRow]
  | n + 1, i, j + 1 => by
    have := softRow_get tm n (i + 1) j
    simp only [softRow, List.getElem?_cons_succ, this]
    have e : i + 1 + j = i + (j + 1) := by omega
    by_cases h : j < n
    · rw [if_pos h, if_pos (by omega), e]
    · rw [if_neg h, if_neg (by omega)]
theorem softRow_len (tm : T V) : ∀ (n i : Nat), (softRow tm n i).length = n
  | 0, _ => rfl
  | n + 1, i => by simp [softRow, softRow_len tm n]
theorem VR_soft {ε : Env} {v : V} {y : Value} (h : VR ε v y) : VR ε (softV v) y := by
  unfold softV
  split
  · exact h
  · trivial
/-- a waiting frame of which no slot is known any more -/
noncomputable def anyFr2 (fn nt : Nat) (defs : List De) (kind : CallKind) (rnd : Option Nat) (mode : Mo) (todo : List It) (r : Option (T V)) : Option Fr :=
  match r with | some tm => some ⟨fn, nt, defs, kind, rnd, mode, tm, todo⟩ | none => none
noncomputable def isDr (todo : List It) : Bool := match todo with | [] => false | it :: _ => (match it with | .dr _ => true | _ => false)
noncomputable def anyFr (f : Fr) : Option Fr :=
  match f with
  | ⟨fn, nt, defs, kind, rnd, mode, tm, todo⟩ => (match isDr todo with
    | true => none
    | false => anyFr2 fn nt defs kind rnd mode todo (anyT tm nt))
noncomputable def anyCs (s : St) (r : Option Fr) : R :=
  match r with
  | none => badR "any"
  | some f => (match s with | ⟨b, mode, tm, h, todo⟩ => .inl ⟨b.with [f], mode, tm, h, todo⟩)
noncomputable def anyL (s : St) (cs : List Fr) : R :=
  match cs with
  | [] => badR "any"
  | f :: l => (match l with | [] => anyCs s (anyFr f) | _ :: _ => badR "any")
/-- the one frame below is made any -/
noncomputable def anyR (r : R) : R :=
  match r with
  | .inr r => .inr r
  | .inl s => anyL s s.b.cs

theorem tmR.any {ε : Env} {tm tm' : T V} {nt : Nat} {tmps : Array Value} (h : tmR ε tm nt tmps) (e : anyT tm nt = some tm') : tmR ε tm' nt tmps := by
  refine ⟨h.1, fun t => ?_⟩
  rw [putRow_get _ _ _ _ e t, softRow_len]
  by_cases ht : t < nt
  · rw [if_pos (by omega), softRow_get, if_pos (by omega), Option.getD_some]
    have := VR_soft (h.2 t)
    simpa using this
  · rw [if_neg (by omega)]
    have : undefTree.get undefV t = undefV := T.get_full _ _ _
    rw [this, Array.getD_eq_getD_getElem?, Array.getElem?_eq_none (by rw [h.1]; omega)]
    show VR ε undefV undef
    rw [undefV, VR]; exact ⟨[], VRs.nil, rfl⟩
theorem FrR.any {ε : Env} {pd : Pd} {f f' : Fr} {F : Frame} (h : FrR C ε true pd f F) (e : anyFr f = some f') : FrR C ε true [] f' F ∧ f'.fn = f.fn ∧ f'.kind = f.kind ∧ f'.rnd = f.rnd := by
  obtain ⟨fn, nt, defs, kind, rnd, mode, tm, todo⟩ := f
  unfold anyFr at e
  simp only at e
  split at e
  · cases e
  · rename_i hdr
    unfold anyFr2 at e
    split at e
    · rename_i tm' ht
      cases e
      refine ⟨⟨h.fn, h.kind, h.kd, h.rnd, h.mode, h.defs, fun hm => ?_, fun hm => ?_⟩, rfl, rfl, rfl⟩
      · have hr := h.run hm
        unfold TR at hr
        split at hr
        · rename_i r k hk
          simp only at hk
          rw [hk] at hdr; cases hdr
        · obtain ⟨g1, g2, g3⟩ := hr
          exact .plain g1 rfl (g3.any ht)
      · obtain ⟨g1, g2, g3⟩ := h.idle hm
        exact ⟨g1, rfl, g3.any ht⟩
    · cases e
theorem Good.of_any {s s' : St} (h : anyR (.inl s) = .inl s') (g : Good P C s') : Good P C s := by
  obtain ⟨b, mode, tm, h0, todo⟩ := s
  obtain ⟨fn, nt, defs, kind, rnd, cs⟩ := b
  unfold anyR at h
  simp only at h
  unfold anyL at h
  split at h
  · cases h
  · rename_i f l
    split at h
    · unfold anyCs at h
      split at h
      · cases h
      · rename_i f' hf'
        simp only [Ba.with] at h
        cases h
        intro w0 f0 cs0 m hm
        obtain ⟨⟨ε, pd, pds, F, Cs, w, e, hw, hf, hcs⟩, hb⟩ := hm
        obtain ⟨pd1, pds1, F1, Fs, h1, h2, rfl, rfl⟩ := hcs
        obtain ⟨g1, g2, g3, g4⟩ := h1.any hf'
        refine g w0 f0 cs0 m ⟨⟨ε, pd, [] :: pds1, F, F1 :: Fs, w, e, hw.weaken ?_, hf, ?_⟩, ?_⟩
        · simp only [List.flatten_cons, List.nil_append]
          exact List.Sublist.append (List.Sublist.refl _) (List.sublist_append_right _ _)
        · exact ⟨[], pds1, F1, Fs, g1, h2, rfl, rfl⟩
        · obtain ⟨b1, b2, b3⟩ := hb
          exact ⟨g2.trans b1, g3.trans b2, g4.trans b3⟩
    · cases h
/-- a part of a run, behind which what the waiting frame knows is forgotten -/
theorem Good.of_partAny (hC : CtxOk P C) {l : List Nat} {n : Nat} {s s' : St} (h : cutR l (anyR (iterN (stepF C) n s)) = .inl s') (g : Good P C s') : Good P C s := by
  cases hi : iterN (stepF C) n s with
  | inl s1 =>
    rw [hi] at h
    cases ha : anyR (.inl s1) with
    | inl s2 => rw [ha] at h; exact .of_iter hC hi (.of_any ha (.of_cut h g))
    | inr r => rw [ha] at h; cases h
  | inr r => rw [hi] at h; cases h
/-- numbers of blocks are left out -/
noncomputable def nxH (n : Nat) (h : Hp) : Option Hp := match h with | ⟨t, nx, ro⟩ => (match Nat.ble nx n with | true => some ⟨t, n, ro⟩ | false => none)
noncomputable def nxR (n : Nat) (r : R) : R :=
  match r with
  | .inr r => .inr r
  | .inl s => (match s with | ⟨b, mode, tm, h, todo⟩ => (match nxH n h with | some h' => .inl ⟨b, mode, tm, h', todo⟩ | none => badR "nx"))
theorem WR.nx {w0 : World} {ε : Env} {pd : Pd} {h h' : Hp} {w : World} {n : Nat} (r : WR w0 ε pd h w) (e : nxH n h = some h') : WR w0 ε pd h' w := by
  obtain ⟨t, nx, ro⟩ := h
  unfold nxH at e
  simp only at e
  split at e
  · rename_i hle
    cases e
    have hle : nx ≤ n := by simpa using hle
    constructor
    · exact ⟨r.hr.blk, r.hr.gl⟩
    · exact r.inj
    · intro b c hb; have : b < nx := r.fresh b c hb; show b < n; omega
    · exact r.base
    · exact r.old
    · exact r.size
    · exact r.os
    · exact r.out
    · exact r.tape
    · intro p hp
      obtain ⟨g1, g2, g3⟩ := r.pend p hp
      have g2 : p.1 < nx := g2
      exact ⟨g1, by show p.1 < n; omega, g3⟩
    · exact r.pn
    · intro b hb
      have hb : n ≤ b := hb
      exact r.nxd b (by show nx ≤ b; omega)
  · cases e
theorem Good.of_nx {n : Nat} {s s' : St} (h : nxR n (.inl s) = .inl s') (g : Good P C s') : Good P C s := by
  obtain ⟨b, mode, tm, h0, todo⟩ := s
  unfold nxR at h
  simp only at h
  split at h
  · rename_i h1 hk
    cases h
    intro w0 f0 cs0 m hm
    obtain ⟨⟨ε, pd, pds, F, Cs, w, e, hw, hf, hcs⟩, hb⟩ := hm
    exact g w0 f0 cs0 m ⟨⟨ε, pd, pds, F, Cs, w, e, hw.nx hk, hf, hcs⟩, hb⟩
  · cases h
/-- a part of a run, behind which all that the waiting frame knows is forgotten, and numbers of blocks are left out -/
theorem Good.of_partNx (hC : CtxOk P C) {l : List Nat} {n k : Nat} {s s' : St} (h : cutR l (nxR k (anyR (iterN (stepF C) n s))) = .inl s') (g : Good P C s') : Good P C s := by
  cases hi : iterN (stepF C) n s with
  | inl s1 =>
    rw [hi] at h
    cases ha : anyR (.inl s1) with
    | inl s2 =>
      rw [ha] at h
      cases hn : nxR k (.inl s2) with
      | inl s3 => rw [hn] at h; exact .of_iter hC hi (.of_any ha (.of_nx hn (.of_cut h g)))
      | inr r => rw [hn] at h; cases h
    | inr r => rw [ha] at h; cases h
  | inr r => rw [hi] at h; cases h
end
end Go.Lev
namespace Go.Lev
open Go
/-! ### how states are written down -/
noncomputable def putAt {α : Type} (p : Nat × α) (t : T α) : T α := match t.set? p.2 p.1 with | some t' => t' | none => .leaf
/-- a tree out of its places -/
noncomputable def putAllT {α : Type} (l : List (Nat × α)) : T α → T α := lrec (fun t => t) (fun p _ ih t => ih (putAt p t)) l
noncomputable def mH (l : List (Nat × Ob)) : T Ob := putAllT l (T.full .dead 24)
noncomputable def mU (l : List (Nat × V)) : T V := putAllT l (T.full undefV 24)
noncomputable def putRowAt (l : List V) : Nat → T V → T V := lrec (fun _ t => t) (fun v _ ih i t => ih (Nat.succ i) (putAt (i, v) t)) l
/-- a row out of its cells -/
noncomputable def mR (d : V) (l : List V) : T V := putRowAt l 0 (T.full d 24)
noncomputable def tabM (v : V) (a b : Option (T V)) : Option (T V) := match a with | some l => (match b with | some r => some (.node v l r) | none => none) | none => none
noncomputable def tabN (d : V) (f : Nat → V) (n k : Nat) (ih : Nat → Nat → Option (T V)) (a m : Nat) : Option (T V) :=
  match Nat.ble n a with
  | true => some (T.full d (Nat.succ k))
  | false => tabM (f a) (ih (Nat.add a m) (Nat.mul 2 m)) (ih (Nat.add a (Nat.mul 2 m)) (Nat.mul 2 m))
noncomputable def tabO (d : V) (f : Nat → V) (n k : Nat) : Nat → Nat → Option (T V) := Nat.rec (motive := fun _ => Nat → Nat → Option (T V)) (fun _ _ => some .leaf) (fun k ih => tabN d f n k ih) k
/-- a tree that is made whole before anybody looks at it (made piece by piece it is very dear to compare) -/
noncomputable def tab (d : V) (f : Nat → V) (n k a m : Nat) : T V := match tabO d f n k a m with | some t => t | none => .leaf
/-- a row of bytes, all in one number -/
noncomputable def tB (d : V) (n N : Nat) : T V := tab d (fun i => nB (Nat.mod (Nat.shiftRight N (Nat.mul 8 i)) 256)) n 24 0 1
/-- a row of words, all in one number -/
noncomputable def tW (d : V) (n N : Nat) : T V := tab d (fun i => nU (Nat.mod (Nat.shiftRight N (Nat.mul 64 i)) 18446744073709551616)) n 24 0 1
end Go.Lev
