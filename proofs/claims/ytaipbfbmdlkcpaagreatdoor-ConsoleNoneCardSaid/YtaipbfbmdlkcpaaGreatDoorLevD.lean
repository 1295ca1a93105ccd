/-
  PROVED HERE: a step of the evaluator is steps of the machine; and what its runs come to is what the call comes to, in any memory, whatever is drawn.
  Conditions: none.
-/
import Derived.Orders
import Derived.Defers
import Derived.RowKit3
import Derived.Test.YtaipbfbmdlkcpaaGreatDoorLevC
namespace Go.Lev
open Go
/-! ### frames -/
def ChR (ε : Env) : List (V × Bool) → List PanicEntry → Prop
  | [], l => l = []
  | p :: ps, l => ∃ y l', VR ε p.1 y ∧ ChR ε ps l' ∧ l = { v := y, recovered := p.2, goexit := false } :: l'
def MoR (ε : Env) : Mo → FrameMode → Prop
  | .run, m => m = .run
  | .ret, m => m = .returning
  | .pan c, m => ∃ c', ChR ε c c' ∧ m = .panicking c'

/-- an order in which the operations of a region may still be done; D: those that are done -/
inductive Lin (ops : Array Oper) : List Nat → List Nat → Prop where
  | nil {D : List Nat} : (∀ i, i < ops.size → i ∈ D) → Lin ops D []
  | cons {D : List Nat} {i : Nat} {l : List Nat} {o : Oper} : ops[i]? = some o → i ∉ D → (∀ e ∈ o.after, Region.binds .any e = true → e.on ∈ D) → Lin ops (i :: D) l → Lin ops D (i :: l)

def ancAt (anc : List Nat) (i : Nat) : Nat := (anc[i]?).getD 0

/-- the operation i has been done by the evaluator, and not yet by the machine: it makes a block -/
def Pn (r : Dr) (tm : T V) (D : List Nat) (i : Nat) (o : Oper) : Prop := r.ops[i]? = some o ∧ isAllocOp o.op = true ∧ Nat.testBit r.vm i = true ∧ i ∉ D ∧ wantF r.ops tm o = some true

structure DrR (C : Ctx) (ε : Env) (pd : Pd) (bl : Nat → Nat) (r : Dr) (tm : T V) (nt : Nat) (tmps : Array Value) (l D : List Nat) : Prop where
  lin : Lin r.ops D l
  ok : drOk r.ops.toList (ancF r.ops.toList []) = true
  anc : r.anc = ancF r.ops.toList []
  closed : ∀ i ∈ D, ∀ j, Nat.testBit (ancAt r.anc i) j = true → j ∈ D
  inb : ∀ i ∈ D, i < r.ops.size
  es : r.es = (effsF r.ops.toList 0).filter (fun i => decide (i ∉ D))
  dm : ∀ i, Nat.testBit r.dm i = true ↔ i ∈ D ∧ ∃ o, r.ops[i]? = some o ∧ isEff o = true
  xm : ∀ i, Nat.testBit r.xm i = true ↔ ∃ e ∈ D, (∃ o, r.ops[e]? = some o ∧ isEff o = true) ∧ Nat.testBit (ancAt r.anc e) i = true
  vm : ∀ i ∈ D, ∀ o, r.ops[i]? = some o → isEff o = false → Nat.testBit r.vm i = true
  vmA : ∀ i, Nat.testBit r.vm i = true → ∀ (j : Nat) (o : Oper), Nat.testBit (ancAt r.anc i) j = true → r.ops[j]? = some o → (isEff o = true → j ∈ D) ∧ (isEff o = false → Nat.testBit r.vm j = true)
  vmN : ∀ (i : Nat) (o : Oper), Nat.testBit r.vm i = true → r.ops[i]? = some o → isEff o = false
  dnt : ∀ (i : Nat) (o : Oper) (d : Nat), r.ops[i]? = some o → Nat.testBit r.vm i = true → o.dst = some d → d < nt
  size : tmps.size = nt
  slots : ∀ t, (∀ (i : Nat) (o : Oper), r.ops[i]? = some o → o.dst = some t → isEff o = true ∨ i ∈ D) → VR ε (tm.get undefV t) (tmps.getD t undef)
  pend : ∀ i o, Pn r tm D i o → ∃ tmi p, (∀ t ∈ tmpsOf o, tmi.get undefV t = tm.get undefV t) ∧ allocF C tmi o = some p ∧ (bl i, p.1) ∈ pd ∧ ∀ d, o.dst = some d → tm.get undefV d = p.2 (bl i)
  binj : ∀ i o i' o', Pn r tm D i o → Pn r tm D i' o' → bl i = bl i' → i = i'

def ItR (ε : Env) : It → Item → Prop
  | .code c, i => i = .code c
  | .blk id, i => i = .inBlock id
  | .lp c, i => i = .inLoop c
  | .sc c, i => i = .inScope c
  | .reg ops rest, i => ∃ k, k + rest.length = ops.size ∧ rest = ops.toList.drop k ∧ i = .inRegion ops (List.range' k rest.length)
  | .dr _, _ => False
  | .rf b, i => ∃ c, ε.φ b = some c ∧ i = .inRangeFunc c
  | .erf b, i => ∃ c, ε.φ b = some c ∧ i = .endRangeFunc c
  | .br, i => i = .beginRound
def ItRs (ε : Env) : List It → List Item → Prop
  | [], l => l = []
  | i :: is, l => ∃ x xs, ItR ε i x ∧ ItRs ε is xs ∧ l = x :: xs

/-- what is left to do, and the slots: at the head a region that draws its order may stand; there some slots lag behind. wt: the frame stands at an operation that does something -/
def TR (C : Ctx) (ε : Env) (wt : Bool) (pd : Pd) (todo : List It) (tm : T V) (nt : Nat) (tmps : Array Value) (todo' : List Item) : Prop :=
  match todo with
  | .dr r :: k => ∃ l D bl k', todo' = .inRegion r.ops l :: k' ∧ ItRs ε k k' ∧ DrR C ε pd bl r tm nt tmps l D ∧ (wt = true → ∃ e es l', r.es = e :: es ∧ l = e :: l')
  | _ => ItRs ε todo todo' ∧ pd = [] ∧ tmR ε tm nt tmps

structure FrR (C : Ctx) (ε : Env) (wt : Bool) (pd : Pd) (f : Fr) (F : Frame) : Prop where
  fn : F.fn = f.fn
  kind : F.kind = f.kind
  kd : f.kind = .normal ∨ f.kind = .deferred
  rnd : oN ε f.rnd F.roundOf
  mode : MoR ε f.mode F.mode
  defs : DeRs ε f.defs F.defers
  run : f.mode = .run → TR C ε wt pd f.todo f.tm f.nt F.tmps F.todo
  idle : f.mode ≠ .run → f.todo = [] ∧ pd = [] ∧ tmR ε f.tm f.nt F.tmps
/-- the frames that wait -/
def FrRs (C : Ctx) (ε : Env) : List Pd → List Fr → List Frame → Prop
  | pds, [], l => pds = [] ∧ l = []
  | pds, f :: fs, l => ∃ pd pds' F Fs, FrR C ε true pd f F ∧ FrRs C ε pds' fs Fs ∧ pds = pd :: pds' ∧ l = F :: Fs

section
variable {C : Ctx} {ε ε' : Env}
theorem ChR.mono (h : ε.le ε') : ∀ {a : List (V × Bool)} {b : List PanicEntry}, ChR ε a b → ChR ε' a b
  | [], _, e => e
  | _ :: _, _, ⟨y, l', hy, hl, e⟩ => ⟨y, l', hy.mono h, ChR.mono h hl, e⟩
theorem ChR.append : ∀ {a c : List (V × Bool)} {b d : List PanicEntry}, ChR ε a b → ChR ε c d → ChR ε (a ++ c) (b ++ d)
  | [], _, _, _, h, g => by rw [ChR] at h; subst h; simpa using g
  | _ :: _, _, _, _, h, g => by
    rw [ChR] at h; obtain ⟨y, l', hy, hl, rfl⟩ := h
    rw [List.cons_append, ChR]; exact ⟨y, _, hy, ChR.append hl g, rfl⟩
theorem MoR.mono (h : ε.le ε') : ∀ {a : Mo} {b : FrameMode}, MoR ε a b → MoR ε' a b
  | .run, _, e => e
  | .ret, _, e => e
  | .pan _, _, ⟨c', hc, e⟩ => ⟨c', hc.mono h, e⟩
theorem ItR.mono (h : ε.le ε') : ∀ {a : It} {b : Item}, ItR ε a b → ItR ε' a b
  | .code _, _, e => e
  | .blk _, _, e => e
  | .lp _, _, e => e
  | .sc _, _, e => e
  | .reg _ _, _, e => e
  | .dr _, _, e => e
  | .rf b, _, ⟨c, hc, e⟩ => ⟨c, (h b c hc).1, e⟩
  | .erf b, _, ⟨c, hc, e⟩ => ⟨c, (h b c hc).1, e⟩
  | .br, _, e => e
theorem ItRs.mono (h : ε.le ε') : ∀ {a : List It} {b : List Item}, ItRs ε a b → ItRs ε' a b
  | [], _, e => e
  | _ :: _, _, ⟨x, xs, hx, hs, e⟩ => ⟨x, xs, hx.mono h, ItRs.mono h hs, e⟩
theorem ItRs.head {x : It} {k : List It} {l : List Item} (r : ItRs ε (x :: k) l) : ∀ r', x ≠ .dr r' := by
  rintro r' rfl
  rw [ItRs] at r; obtain ⟨_, _, h, _⟩ := r; exact h.elim
theorem TR.plain {wt : Bool} {pd : Pd} {todo : List It} {tm : T V} {nt : Nat} {tmps : Array Value} {todo' : List Item} (h1 : ItRs ε todo todo') (h2 : pd = []) (h3 : tmR ε tm nt tmps) : TR C ε wt pd todo tm nt tmps todo' := by
  unfold TR
  split
  · exact absurd rfl (h1.head _)
  · exact ⟨h1, h2, h3⟩
theorem DrR.mono {pd : Pd} {bl : Nat → Nat} {r : Dr} {tm : T V} {nt : Nat} {tmps : Array Value} {l D : List Nat} (h : ε.le ε') (d : DrR C ε pd bl r tm nt tmps l D) : DrR C ε' pd bl r tm nt tmps l D :=
  { d with slots := fun t ht => (d.slots t ht).mono h }
theorem TR.mono {wt : Bool} {pd : Pd} {todo : List It} {tm : T V} {nt : Nat} {tmps : Array Value} {todo' : List Item} (h : ε.le ε') (r : TR C ε wt pd todo tm nt tmps todo') : TR C ε' wt pd todo tm nt tmps todo' := by
  unfold TR at *
  split at r
  · obtain ⟨l, D, bl, k', h1, h2, h3, h4⟩ := r; exact ⟨l, D, bl, k', h1, h2.mono h, h3.mono h, h4⟩
  · exact ⟨r.1.mono h, r.2.1, r.2.2.mono h⟩
theorem TR.loose {wt : Bool} {pd : Pd} {todo : List It} {tm : T V} {nt : Nat} {tmps : Array Value} {todo' : List Item} (r : TR C ε wt pd todo tm nt tmps todo') : TR C ε false pd todo tm nt tmps todo' := by
  unfold TR at *
  split at r
  · obtain ⟨l, D, bl, k', h1, h2, h3, h4⟩ := r; exact ⟨l, D, bl, k', h1, h2, h3, fun e => by cases e⟩
  · exact r
theorem FrR.mono {wt : Bool} {pd : Pd} {f : Fr} {F : Frame} (h : ε.le ε') (r : FrR C ε wt pd f F) : FrR C ε' wt pd f F :=
  ⟨r.fn, r.kind, r.kd, r.rnd.mono h, r.mode.mono h, r.defs.mono h, fun e => (r.run e).mono h, fun e => ⟨(r.idle e).1, (r.idle e).2.1, (r.idle e).2.2.mono h⟩⟩
theorem FrR.loose {wt : Bool} {pd : Pd} {f : Fr} {F : Frame} (r : FrR C ε wt pd f F) : FrR C ε false pd f F :=
  { r with run := fun e => (r.run e).loose }
theorem FrRs.mono (h : ε.le ε') : ∀ {pds : List Pd} {fs : List Fr} {Fs : List Frame}, FrRs C ε pds fs Fs → FrRs C ε' pds fs Fs
  | _, [], _, e => e
  | _, _ :: _, _, ⟨pd, pds', F, Fs, a, b, c, d⟩ => ⟨pd, pds', F, Fs, a.mono h, FrRs.mono h b, c, d⟩
end

/-- the bottom frame -/
def BotR (f0 : Nat) (cs : List Fr) (fn : Nat) (kind : CallKind) (rnd : Option Nat) : Prop :=
  match cs.getLast? with | none => fn = f0 ∧ kind = .normal ∧ rnd = none | some f => f.fn = f0 ∧ f.kind = .normal ∧ f.rnd = none
/-- the machine stands where the evaluator stands -/
structure MR (P : Program) (C : Ctx) (w0 : World) (f0 : Nat) (cs0 : List Frame) (s : St) (m : Machine) : Prop where
  it : ∃ ε pd pds F Cs w, m = lone F (Cs ++ cs0) w ∧ WR w0 ε (pd ++ pds.flatten) s.h w ∧ FrR C ε false pd (s.b.fr s.mode s.tm s.todo) F ∧ FrRs C ε pds s.b.cs Cs
  bot : BotR f0 s.b.cs s.b.fn s.b.kind s.b.rnd

/-- what a step gives -/
def Sim (P : Program) (C : Ctx) (w0 : World) (f0 : Nat) (cs0 : List Frame) (r : R) (m : Machine) : Prop :=
  match r with
  | .inl s => ∃ m', Steps P m m' ∧ MR P C w0 f0 cs0 s m'
  | .inr (.more l) => ∃ s ∈ l, ∃ m', Steps P m m' ∧ MR P C w0 f0 cs0 s m'
  | .inr (.done v) => ∃ ε h y w F, Steps P m (lone F cs0 w) ∧ F.leaving P w (.returned y) ∧ F.fn = f0 ∧ VR ε v y ∧ WR w0 ε [] h w
  | .inr (.bad _) => True

theorem Sim.steps {P : Program} {C : Ctx} {w0 : World} {f0 : Nat} {cs0 : List Frame} {r : R} {m m' : Machine} (h : Steps P m m') (s : Sim P C w0 f0 cs0 r m') : Sim P C w0 f0 cs0 r m := by
  unfold Sim at *
  split at s
  · obtain ⟨m2, h1, h2⟩ := s; exact ⟨m2, h.trans h1, h2⟩
  · obtain ⟨s', hs, m2, h1, h2⟩ := s; exact ⟨s', hs, m2, h.trans h1, h2⟩
  · obtain ⟨ε, hh, y, w, F, h1, h2⟩ := s; exact ⟨ε, hh, y, w, F, h.trans h1, h2⟩
  · trivial

section
variable {P : Program} {C : Ctx} {w0 : World} {f0 : Nat} {cs0 : List Frame}

/-- the machine stands at a running frame, whose next thing to do is this -/
structure At (C : Ctx) (w0 : World) (f0 : Nat) (ε : Env) (pds : List Pd) (b : Ba) (tm : T V) (h : Hp) (k : List It) (w : World) (tmps : Array Value) (k' : List Item) (ds : List Deferred) (rnd : Option Nat) (Cs : List Frame) : Prop where
  wr : WR w0 ε pds.flatten h w
  tm : tmR ε tm b.nt tmps
  k : ItRs ε k k'
  ds : DeRs ε b.defs ds
  kd : b.kind = .normal ∨ b.kind = .deferred
  rnd : oN ε b.rnd rnd
  cs : FrRs C ε pds b.cs Cs
  bot : BotR f0 b.cs b.fn b.kind b.rnd

theorem At.mr {ε : Env} {pds : List Pd} {b : Ba} {tm : T V} {h : Hp} {k : List It} {w : World} {tmps : Array Value} {k' : List Item} {ds : List Deferred} {rnd : Option Nat} {Cs : List Frame}
    (a : At C w0 f0 ε pds b tm h k w tmps k' ds rnd Cs)   : MR P C w0 f0 cs0 ⟨b, .run, tm, h, k⟩ (lone ⟨b.fn, tmps, k', ds, .run, b.kind, rnd⟩ (Cs ++ cs0) w) where
  it := ⟨ε, [], pds, _, Cs, w, rfl, by simpa using a.wr, ⟨rfl, rfl, a.kd, a.rnd, rfl, a.ds, fun _ => .plain a.k rfl a.tm, fun e => absurd rfl e⟩, a.cs⟩
  bot := a.bot

theorem ev_sound {ε : Env} {tm : T V} {nt : Nat} {F : Frame} (h : tmR ε tm nt F.tmps) (x : Operand) : EvR ε tm F.eval x := by
  unfold EvR
  cases x with
  | tmp t => exact h.2 t
  | const v => exact VR_absC ε v
  | global g => show VR _ (.glob g 0) (.pointer (some ⟨g, 0, none⟩)); rw [VR]
  | func f => show VR ε (.fn (.func f) [] []) (.func (.func f) #[] #[]); rw [VR]; exact ⟨by simp, [], [], VRs.nil, VRs.nil, rfl⟩

theorem exitTo_sound {ε : Env} {id : Nat} : ∀ (k : List It) (k' : List Item), ItRs ε k k' → (match exitToF id k with | none => exitTo id k' = none | some k2 => ∃ k2', exitTo id k' = some k2' ∧ ItRs ε k2 k2')
  | [], k', h => by rw [ItRs] at h; subst h; rfl
  | i :: k, k', h => by
    rw [ItRs] at h; obtain ⟨x, xs, hx, hs, rfl⟩ := h
    have ih := exitTo_sound (id := id) k xs hs
    cases i
    case blk id' =>
      have hx : x = .inBlock id' := hx
      subst hx
      unfold exitToF exitTo
      simp only
      cases hb : Nat.beq id' id with
      | true => have := beq_nat hb; subst this; simp; exact hs
      | false =>
        have : (id' == id) = false := by
          cases hb' : (id' == id) with
          | false => rfl
          | true => have : id' = id := by simpa using hb'
                    subst this; simp at hb
        simp [this]; exact ih
    case dr r => exact hx.elim
    case code c => have hx : x = .code c := hx; subst hx; exact ih
    case lp c => have hx : x = .inLoop c := hx; subst hx; exact ih
    case sc c => have hx : x = .inScope c := hx; subst hx; exact ih
    case reg ops rest => obtain ⟨_, _, _, rfl⟩ := hx; exact ih
    case rf b => obtain ⟨_, _, rfl⟩ := hx; exact ih
    case erf b => obtain ⟨_, _, rfl⟩ := hx; exact ih
    case br => have hx : x = .beginRound := hx; subst hx; exact ih
theorem gotoIn_sound {ε : Env} {l : Nat} : ∀ (k : List It) (k' : List Item), ItRs ε k k' → (match gotoInF l k with | none => gotoIn l k' = none | some k2 => ∃ k2', gotoIn l k' = some k2' ∧ ItRs ε k2 k2')
  | [], k', h => by rw [ItRs] at h; subst h; rfl
  | i :: k, k', h => by
    have h0 := h
    rw [ItRs] at h; obtain ⟨x, xs, hx, hs, rfl⟩ := h
    have ih := gotoIn_sound (l := l) k xs hs
    cases i
    case sc body =>
      have hx : x = .inScope body := hx
      subst hx
      unfold gotoInF gotoIn
      simp only
      cases hf : findLabel body l with
      | none => exact ih
      | some rest => exact ⟨_, rfl, by rw [ItRs]; exact ⟨_, _, rfl, h0, rfl⟩⟩
    case dr r => exact hx.elim
    case code c => have hx : x = .code c := hx; subst hx; exact ih
    case lp c => have hx : x = .inLoop c := hx; subst hx; exact ih
    case blk c => have hx : x = .inBlock c := hx; subst hx; exact ih
    case reg ops rest => obtain ⟨_, _, _, rfl⟩ := hx; exact ih
    case rf b => obtain ⟨_, _, rfl⟩ := hx; exact ih
    case erf b => obtain ⟨_, _, rfl⟩ := hx; exact ih
    case br => have hx : x = .beginRound := hx; subst hx; exact ih
end
end Go.Lev
namespace Go.Lev
open Go
section
variable {P : Program} {C : Ctx} {w0 : World} {f0 : Nat} {cs0 : List Frame}
/-! ### one operation -/
theorem stepG_at {F : Frame} {ops : Array Oper} {i : Nat} {l : List Nat} {k' : List Item} {o : Oper} {cs : List Frame} {w : World} (hm : F.mode = .run) (ht : F.todo = .inRegion ops (i :: l) :: k') (ho : ops[i]? = some o)
    (hw : Region.wanted o (yielded ops F.tmps) = true) (hr : F.roundOf = none ∨ ∀ c, o.op ≠ .defer c) :
    stepG P true { frame := F, callers := cs, status := .running, dying := none } w = stepG.apply P true F cs none (execOp F.eval o) w := by
  obtain ⟨fn, tmps, todo, ds, mode, kind, rnd⟩ := F
  simp only at hm ht hr; subst hm ht
  simp only [stepG, stepG.exec, ho, Option.map_some, Option.getD_some, hw, if_true, stepG.oper, Frame.oper?]
  rcases hr with rfl | hr
  · rfl
  · cases rnd with
    | none => rfl
    | some r =>
      split
      · rename_i c hc; exact absurd (by assumption) (hr _)
      · rfl

theorem step_skipop {F : Frame} {ops : Array Oper} {i : Nat} {l : List Nat} {k' : List Item} {o : Oper} {cs : List Frame} {w : World} (hm : F.mode = .run) (ht : F.todo = .inRegion ops (i :: l) :: k') (ho : ops[i]? = some o)
    (hw : Region.wanted o (yielded ops F.tmps) = false) : step P (lone F cs w) = .next (lone (F.finish undef) cs w) := by
  obtain ⟨fn, tmps, todo, ds, mode, kind, rnd⟩ := F
  simp only at hm ht; subst hm ht
  exact step_lone_go (by simp only [stepG, stepG.exec, ho, Option.map_some, Option.getD_some, hw]; rfl)

theorem step_val {F : Frame} {ops : Array Oper} {i : Nat} {l : List Nat} {k' : List Item} {o : Oper} {cs : List Frame} {w w' : World} {nx : Next} {y : Value} (hm : F.mode = .run) (ht : F.todo = .inRegion ops (i :: l) :: k') (ho : ops[i]? = some o)
    (hw : Region.wanted o (yielded ops F.tmps) = true) (hr : F.roundOf = none ∨ ∀ c, o.op ≠ .defer c) (hrun : (execOp F.eval o).run P w = .ok nx w') (hnx : nx = .value y ∨ (nx = .skip ∧ y = undef)) :
    step P (lone F cs w) = .next (lone (F.finish y) cs w') := by
  refine step_lone_go ?_
  rw [stepG_at hm ht ho hw hr]
  rcases hnx with rfl | ⟨rfl, rfl⟩ <;> simp [stepG.apply, hrun]

theorem VR_boolV {ε : Env} {v : V} {q : Bool} (h : VR ε v (.bool q)) : v = .any ∨ v = .bool q := by
  cases v <;> simp only [VR] at h <;> simp_all
  
/-- is the operation wanted: the evaluator's word is the machine's -/
theorem wantF_sound {ε : Env} {tm : T V} {nt : Nat} {tmps : Array Value} {ops : Array Oper} {o : Oper} {b : Bool} (htm : tmR ε tm nt tmps) (h : wantF ops tm o = some b) : Region.wanted o (yielded ops tmps) = b := by
  unfold wantF at h
  unfold Region.wanted yielded
  split at h
  · rename_i hg; rw [hg]; simpa using h
  · rename_i j w hg
    rw [hg]
    simp only
    split at h
    · rename_i hj; cases h; simp [hj]
    · rename_i g hj
      split at h
      · rename_i hd; cases h; simp [hj, hd]
      · rename_i d hd
        have hv := htm.2 d
        simp only [hj, Option.bind_some, hd]
        split at h
        · rename_i q hq
          cases h
          rw [hq, VR] at hv
          rw [Array.getD_eq_getD_getElem?] at hv
          cases ht : tmps[d]? with
          | none => rw [ht] at hv; simp [undef] at hv
          | some z => rw [ht] at hv; simp only [Option.getD_some] at hv; subst hv; simp
        · cases h
        · rename_i hnb hna
          cases h
          rw [Array.getD_eq_getD_getElem?] at hv
          cases ht : tmps[d]? with
          | none => simp
          | some z =>
            rw [ht] at hv
            simp only [Option.getD_some] at hv
            cases z with
            | bool q =>
              exfalso
              rcases VR_boolV hv with e | e
              · exact hna e
              · exact hnb _ e
            | _ => simp

/-- a value is written into a slot -/
theorem putDst_some {ε : Env} {tm tm' : T V} {nt : Nat} {tmps : Array Value} {d : Nat} {v : V} {y : Value} (h : putDst2 (Nat.blt d nt) (tm.set? v d) = some tm') (htm : tmR ε tm nt tmps) (hv : VR ε v y) :
    tmR ε tm' nt (tmps.setIfInBounds d y) := by
  unfold putDst2 at h
  split at h
  · rename_i hlt
    rw [Nat.blt_eq] at hlt
    refine ⟨by simp [htm.1], fun t => ?_⟩
    rw [T.get_set h]
    by_cases e : t = d
    · subst e
      have : t < tmps.size := by rw [htm.1]; exact hlt
      rw [if_pos rfl, Array.getD_eq_getD_getElem?, Array.getElem?_setIfInBounds, if_pos rfl, if_pos this]; exact hv
    · rw [if_neg e, Array.getD_eq_getD_getElem?, Array.getElem?_setIfInBounds_ne (fun e' => e e'.symm)]
      have := htm.2 t
      rw [Array.getD_eq_getD_getElem?] at this
      exact this
  · cases h
theorem putDst_sound {ε : Env} {tm tm' : T V} {nt : Nat} {tmps : Array Value} {d : Option Nat} {v : V} {y : Value} (h : putDst nt tm d v = some tm') (htm : tmR ε tm nt tmps) (hv : VR ε v y) :
    tmR ε tm' nt (match d with | some d => tmps.setIfInBounds d y | none => tmps) := by
  cases d with
  | none => cases h; exact htm
  | some d => exact putDst_some h htm hv

theorem oper_val_defer {C : Ctx} {h h' : Hp} {tm : T V} {o : Op} {v : V} (e : operTab o C h tm = .val v h') : ∀ c, o ≠ .defer c := by
  rintro ⟨callee, args, argTypes⟩ rfl
  change eDefer ⟨callee, args, argTypes⟩ C h tm = _ at e
  unfold eDefer at e
  split at e
  · unfold defrV at e; split at e <;> cases e
  · cases e

/-- what the machine has done, when it has gone through operations -/
def OpsR (P : Program) (C : Ctx) (w0 : World) (ops : Array Oper) (nt : Nat) (kind : CallKind) (rnd : Option Nat) (fn : Nat) (ds : List Deferred) (k' : List Item) (cs : List Frame) (pd : Pd) (ε : Env) (m : Machine) (r : RR) : Prop :=
  match r with
  | .done tm' h' => ∃ ε' tmps' w', Steps P m (lone ⟨fn, tmps', k', ds, .run, kind, rnd⟩ cs w') ∧ ε.le ε' ∧ tmR ε' tm' nt tmps' ∧ WR w0 ε' pd h' w'
  | .stop o rest' out tm' h' => ∃ ε' tmps' w' j', Steps P m (lone ⟨fn, tmps', .inRegion ops (j' :: List.range' (j' + 1) rest'.length) :: k', ds, .run, kind, rnd⟩ cs w') ∧ ε.le ε' ∧
      tmR ε' tm' nt tmps' ∧ WR w0 ε' pd h' w' ∧ ops[j']? = some o ∧ rest' = ops.toList.drop (j' + 1) ∧ j' + 1 + rest'.length = ops.size ∧ Region.wanted o (yielded ops tmps') = true ∧
      out = operTab o.op C h' tm'
  | .bad => True
theorem OpsR.head {C : Ctx} {w0 : World} {ops : Array Oper} {nt : Nat} {kind : CallKind} {rnd : Option Nat} {fn : Nat} {ds : List Deferred} {k' : List Item} {cs : List Frame} {pd : Pd} {ε ε1 : Env} {m m1 : Machine} {r : RR}
    (hs : step P m = .next m1) (hle : ε.le ε1) (h : OpsR P C w0 ops nt kind rnd fn ds k' cs pd ε1 m1 r) : OpsR P C w0 ops nt kind rnd fn ds k' cs pd ε m r := by
  cases r with
  | done tm' h' => obtain ⟨ε', tmps', w', g1, g2, g3⟩ := h; exact ⟨ε', tmps', w', .head hs g1, Env.le_trans hle g2, g3⟩
  | stop => obtain ⟨ε', tmps', w', j', g1, g2, g3⟩ := h; exact ⟨ε', tmps', w', j', .head hs g1, Env.le_trans hle g2, g3⟩
  | bad => trivial

theorem finish_reg {fn : Nat} {tmps : Array Value} {ops : Array Oper} {j : Nat} {l : List Nat} {k' : List Item} {ds : List Deferred} {mode : FrameMode} {kind : CallKind} {rnd : Option Nat} {o : Oper} (ho : ops[j]? = some o) (y : Value) :
    (Frame.mk fn tmps (.inRegion ops (j :: l) :: k') ds mode kind rnd).finish y = Frame.mk fn (match o.dst with | some d => tmps.setIfInBounds d y | none => tmps) (.inRegion ops l :: k') ds mode kind rnd := by
  simp only [Frame.finish, ho, Option.bind_some]
  cases o.dst <;> rfl

/-- the operations of a region whose order is laid down -/
theorem ops_sim (hC : CtxOk P C) {ops : Array Oper} {nt : Nat} {kind : CallKind} {rnd : Option Nat} {fn : Nat} {ds : List Deferred} {k' : List Item} {cs : List Frame} {pd : Pd} :
    ∀ (rest : List Oper) (j : Nat) (ε : Env) (tm : T V) (h : Hp) (tmps : Array Value) (w : World), j + rest.length = ops.size → rest = ops.toList.drop j → tmR ε tm nt tmps → WR w0 ε pd h w →
    OpsR P C w0 ops nt kind rnd fn ds k' cs pd ε (lone ⟨fn, tmps, .inRegion ops (List.range' j rest.length) :: k', ds, .run, kind, rnd⟩ cs w) (opsF C ops nt rest tm h)
  | [], j, ε, tm, h, tmps, w, hlen, hdrop, htm, hw => by
    show ∃ ε' tmps' w', _
    refine ⟨ε, tmps, w, .one (step_lone_go (by simp [stepG, stepG.exec])), Env.le_refl ε, htm, hw⟩
  | o :: rest, j, ε, tm, h, tmps, w, hlen, hdrop, htm, hw => by
    have ho : ops[j]? = some o := by
      have : (ops.toList.drop j)[0]? = some o := by rw [← hdrop]; rfl
      rw [List.getElem?_drop] at this
      simpa using this
    have hrest : rest = ops.toList.drop (j + 1) := by
      have := congrArg List.tail hdrop
      simpa using this
    simp only [List.length_cons] at hlen
    have hlen' : j + 1 + rest.length = ops.size := by omega
    rw [show List.range' j (o :: rest).length = j :: List.range' (j + 1) rest.length by simp [List.range'_succ]]
    have hops : opsF C ops nt (o :: rest) tm h = rrOne C ops nt o rest (opsF C ops nt rest) tm h := rfl
    rw [hops]
    -- behind a value
    have next : ∀ (ε1 : Env) (v : V) (y : Value) (h1 : Hp) (w1 : World), ε.le ε1 → WR w0 ε1 pd h1 w1 → VR ε1 v y →
        step P (lone ⟨fn, tmps, .inRegion ops (j :: List.range' (j + 1) rest.length) :: k', ds, .run, kind, rnd⟩ cs w) =
          .next (lone ((Frame.mk fn tmps (.inRegion ops (j :: List.range' (j + 1) rest.length) :: k') ds .run kind rnd).finish y) cs w1) →
        OpsR P C w0 ops nt kind rnd fn ds k' cs pd ε (lone ⟨fn, tmps, .inRegion ops (j :: List.range' (j + 1) rest.length) :: k', ds, .run, kind, rnd⟩ cs w) (rrVal nt (opsF C ops nt rest) o.dst tm h1 v) := by
      intro ε1 v y h1 w1 hle hw1 hv hs
      rw [finish_reg ho] at hs
      have go : ∀ (tm1 : T V), tmR ε1 tm1 nt (match o.dst with | some d => tmps.setIfInBounds d y | none => tmps) →
          OpsR P C w0 ops nt kind rnd fn ds k' cs pd ε (lone ⟨fn, tmps, .inRegion ops (j :: List.range' (j + 1) rest.length) :: k', ds, .run, kind, rnd⟩ cs w) (opsF C ops nt rest tm1 h1) := fun tm1 htm1 =>
        (ops_sim hC rest (j + 1) ε1 tm1 h1 _ w1 hlen' hrest htm1 hw1).head hs hle
      unfold rrVal
      split
      · rename_i hd
        rw [hd] at go
        exact go tm (htm.mono hle)
      · rename_i d hd
        rw [hd] at go
        unfold rrPut
        split
        · rename_i tm1 hset
          exact go tm1 (putDst_some hset (htm.mono hle) hv)
        · trivial
    -- an operation that is wanted
    have want : Region.wanted o (yielded ops tmps) = true →
        OpsR P C w0 ops nt kind rnd fn ds k' cs pd ε (lone ⟨fn, tmps, .inRegion ops (j :: List.range' (j + 1) rest.length) :: k', ds, .run, kind, rnd⟩ cs w) (rrOut nt o rest (opsF C ops nt rest) o.dst tm h (operTab o.op C h tm)) := by
      intro hwant
      unfold rrOut
      split
      · rename_i v h' he
        have hop := oper_sound (P := P) (o := o) (ρ := (Frame.mk fn tmps (.inRegion ops (j :: List.range' (j + 1) rest.length) :: k') ds .run kind rnd).eval) hC hw (fun x _ => ev_sound (F := Frame.mk fn tmps (.inRegion ops (j :: List.range' (j + 1) rest.length) :: k') ds .run kind rnd) htm x)
        rw [he] at hop
        obtain ⟨ε1, w1, y, nx, g1, g2, g3, g4, g5⟩ := hop
        exact next ε1 v y h' w1 g3 g4 g5 (step_val rfl rfl ho hwant (.inr (oper_val_defer he)) g1 g2)
      · exact ⟨ε, tmps, w, j, .refl _ _, Env.le_refl ε, htm, hw, ho, hrest, hlen', hwant, rfl⟩
    obtain ⟨dst, op, ty, pos, after, guard⟩ := o
    show OpsR P C w0 ops nt kind rnd fn ds k' cs pd ε _ (rrGo C ops nt ⟨dst, op, ty, pos, after, guard⟩ rest (opsF C ops nt rest) dst op guard tm h)
    cases guard with
    | none => exact want rfl
    | some p =>
      show OpsR P C w0 ops nt kind rnd fn ds k' cs pd ε _ (rrWant C nt ⟨dst, op, ty, pos, after, some p⟩ rest (opsF C ops nt rest) dst op tm h (wantF ops tm ⟨dst, op, ty, pos, after, some p⟩))
      cases hwf : wantF ops tm ⟨dst, op, ty, pos, after, some p⟩ with
      | none => trivial
      | some b =>
        have hwb := wantF_sound htm hwf
        cases b with
        | true => exact want hwb
        | false => exact next ε undefV undef h w (Env.le_refl ε) hw (by rw [undefV, VR]; exact ⟨[], VRs.nil, rfl⟩) (step_skipop rfl rfl ho hwb)
end
end Go.Lev
namespace Go.Lev
open Go
/-! ### regions that draw their order: what drOk says -/
theorem edgeMask_bit (anc : List Nat) (j : Nat) : ∀ (es : List Edge), Nat.testBit (edgeMask anc es) j = true ↔ ∃ e ∈ es, Region.binds .any e = true ∧ (j = e.on ∨ Nat.testBit ((anc[e.on]?).getD 0) j = true)
  | [] => by simp [edgeMask]
  | e :: es => by
    have ih := edgeMask_bit anc j es
    unfold edgeMask
    cases hb : Region.binds .any e with
    | true =>
      simp only [List.mem_cons, exists_eq_or_imp, hb, true_and]
      rw [← ih]
      show Nat.testBit ((2 ^ e.on ||| (anc[e.on]?).getD 0) ||| edgeMask anc es) j = true ↔ _
      simp only [Nat.testBit_or, Nat.testBit_two_pow, Bool.or_eq_true, decide_eq_true_eq]
      constructor
      · rintro ((h | h) | h)
        · exact .inl (.inl h.symm)
        · exact .inl (.inr h)
        · exact .inr h
      · rintro ((h | h) | h)
        · exact .inl (.inl h.symm)
        · exact .inl (.inr h)
        · exact .inr h
    | false =>
      simp only [List.mem_cons, exists_eq_or_imp, hb, Bool.false_eq_true, false_and, false_or]
      exact ih

theorem ancF_len : ∀ (ops : List Oper) (acc : List Nat), (ancF ops acc).length = acc.length + ops.length
  | [], acc => by simp [ancF]
  | o :: os, acc => by rw [ancF, ancF_len os]; simp; omega
theorem ancF_pre : ∀ (ops : List Oper) (acc : List Nat) (i : Nat), i < acc.length → (ancF ops acc)[i]? = acc[i]?
  | [], acc, i, _ => rfl
  | o :: os, acc, i, h => by
    rw [ancF, ancF_pre os _ i (by simp; omega), List.getElem?_append_left h]
theorem ancF_at : ∀ (ops : List Oper) (acc : List Nat) (i : Nat) (o : Oper), ops[i]? = some o →
    ∃ pre : List Nat, pre.length = acc.length + i ∧ (∀ k, k < pre.length → (ancF ops acc)[k]? = pre[k]?) ∧ (ancF ops acc)[acc.length + i]? = some (edgeMask pre o.after.toList)
  | [], _, _, _, h => by simp at h
  | a :: os, acc, 0, o, h => by
    simp at h; subst h
    refine ⟨acc, rfl, fun k hk => ?_, ?_⟩
    · exact ancF_pre _ acc k hk
    · rw [ancF, ancF_pre os _ _ (by simp)]; simp
  | a :: os, acc, i + 1, o, h => by
    simp at h
    obtain ⟨pre, h1, h2, h3⟩ := ancF_at os (acc ++ [edgeMask acc a.after.toList]) i o h
    refine ⟨pre, by rw [h1]; simp; omega, fun k hk => by rw [ancF]; exact h2 k hk, ?_⟩
    rw [ancF, ← h3]
    congr 1
    simp; omega

structure DrF (ops : Array Oper) (anc : List Nat) : Prop where
  lt : ∀ (i : Nat) (o : Oper), ops[i]? = some o → ∀ e ∈ o.after, Region.binds .any e = true → e.on < i
  iff : ∀ (i : Nat) (o : Oper), ops[i]? = some o → ∀ j, Nat.testBit (ancAt anc i) j = true ↔ ∃ e ∈ o.after, Region.binds .any e = true ∧ (j = e.on ∨ Nat.testBit (ancAt anc e.on) j = true)
  oob : ∀ (i : Nat), ops[i]? = none → ancAt anc i = 0
  read : ∀ (i : Nat) (o : Oper), ops[i]? = some o → ∀ t ∈ tmpsOf o ++ guardTmp ops.toList o, ∀ (j : Nat) (o' : Oper), ops[j]? = some o' → o'.dst = some t → Nat.testBit (ancAt anc i) j = true ∨ (isEff o' = true ∧ (i = j ∨ Nat.testBit (ancAt anc j) i = true))
  guard : ∀ (i : Nat) (o : Oper), ops[i]? = some o → ∀ j w, o.guard = some (j, w) → Nat.testBit (ancAt anc i) j = true
  dst : ∀ (i : Nat) (o : Oper), ops[i]? = some o → ∀ (j : Nat) (o' : Oper), ops[j]? = some o' → i ≠ j → ∀ d, o.dst = some d → o'.dst ≠ some d
  chain : chainF anc (effsF ops.toList 0) = true

theorem zipIdx_mem {α : Type} {l : List α} {i : Nat} {a : α} (h : l[i]? = some a) : (a, i) ∈ l.zipIdx := by
  rw [List.mem_zipIdx_iff_getElem?]; exact h

theorem drOk_sound {ops : Array Oper} (h : drOk ops.toList (ancF ops.toList []) = true) : DrF ops (ancF ops.toList []) := by
  unfold drOk at h
  rw [Bool.and_eq_true, List.all_eq_true] at h
  obtain ⟨hall, hch⟩ := h
  have key : ∀ i o, ops[i]? = some o → _ := fun i o ho => hall (o, i) (zipIdx_mem (by simpa using ho))
  simp only [Bool.and_eq_true, List.all_eq_true, Bool.or_eq_true, Bool.not_eq_true', Nat.blt_eq] at key
  have hlt : ∀ i o, ops[i]? = some o → ∀ e ∈ o.after, Region.binds .any e = true → e.on < i := by
    intro i o ho e he hb
    rcases (key i o ho).1.1.1 e (by simpa using he) with h | h
    · rw [h] at hb; cases hb
    · exact h
  refine ⟨hlt, ?_, ?_, ?_, ?_, ?_, hch⟩
  · intro i o ho j
    obtain ⟨pre, h1, h2, h3⟩ := ancF_at ops.toList [] i o (by simpa using ho)
    have e1 : ancAt (ancF ops.toList []) i = edgeMask pre o.after.toList := by
      unfold ancAt; rw [show i = ([] : List Nat).length + i by simp, h3]; rfl
    rw [e1, edgeMask_bit]
    constructor
    · rintro ⟨e, he, hb, hj⟩
      refine ⟨e, by simpa using he, hb, hj.imp id (fun g => ?_)⟩
      unfold ancAt; rw [h2 e.on (by rw [h1]; have := hlt i o ho e (by simpa using he) hb; simpa using this)]; exact g
    · rintro ⟨e, he, hb, hj⟩
      refine ⟨e, by simpa using he, hb, hj.imp id (fun g => ?_)⟩
      unfold ancAt at g; rw [h2 e.on (by rw [h1]; have := hlt i o ho e (by simpa using he) hb; simpa using this)] at g; exact g
  · intro i hi
    unfold ancAt
    have hl : (ancF ops.toList []).length ≤ i := by rw [ancF_len]; simpa using hi
    rw [List.getElem?_eq_none hl]; rfl
  · intro i o ho t ht j o' ho' hd
    have := (key i o ho).1.1.2 t ht
    unfold readOk at this
    rw [List.all_eq_true] at this
    have h2 := this (o', j) (zipIdx_mem (by simpa using ho'))
    simp only [hd, Bool.or_eq_true, Bool.not_eq_true', Bool.and_eq_true] at h2
    rcases h2 with (h2 | h2) | h2
    · simp at h2
    · exact .inl h2
    · exact .inr ⟨h2.1, h2.2.imp beq_nat id⟩
  · intro i o ho j w hg
    have := (key i o ho).1.2
    rw [hg] at this
    exact this
  · intro i o ho j o' ho' hne d hd hd'
    have := (key i o ho).2 (o', j) (zipIdx_mem (by simpa using ho'))
    simp [hd, hd'] at this
    exact hne this

section
variable {ops : Array Oper} {anc : List Nat}
theorem DrF.ops_of (F : DrF ops anc) {i j : Nat} (h : Nat.testBit (ancAt anc i) j = true) : ∃ o, ops[i]? = some o := by
  cases ho : ops[i]? with
  | some o => exact ⟨o, rfl⟩
  | none => rw [F.oob i ho] at h; simp at h
theorem DrF.anc_lt (F : DrF ops anc) : ∀ (i j : Nat), Nat.testBit (ancAt anc i) j = true → j < i := by
  intro i
  induction i using Nat.strongRecOn with
  | ind i ih =>
    intro j h
    obtain ⟨o, ho⟩ := F.ops_of h
    obtain ⟨e, he, hb, hj⟩ := (F.iff i o ho j).1 h
    have := F.lt i o ho e he hb
    rcases hj with rfl | hj
    · exact this
    · have := ih e.on this j hj; omega
theorem DrF.trans (F : DrF ops anc) : ∀ (i j k : Nat), Nat.testBit (ancAt anc i) j = true → Nat.testBit (ancAt anc j) k = true → Nat.testBit (ancAt anc i) k = true := by
  intro i
  induction i using Nat.strongRecOn with
  | ind i ih =>
    intro j k h g
    obtain ⟨o, ho⟩ := F.ops_of h
    obtain ⟨e, he, hb, hj⟩ := (F.iff i o ho j).1 h
    have := F.lt i o ho e he hb
    refine (F.iff i o ho k).2 ⟨e, he, hb, .inr ?_⟩
    rcases hj with rfl | hj
    · exact g
    · exact ih e.on this j k hj g
theorem effsF_mem : ∀ (l : List Oper) (k i : Nat), i ∈ effsF l k ↔ ∃ o, k ≤ i ∧ l[i - k]? = some o ∧ isEff o = true
  | [], k, i => by simp [effsF]
  | o :: l, k, i => by
    have ih := effsF_mem l (k + 1) i
    unfold effsF
    have hrest : (∃ o', k + 1 ≤ i ∧ l[i - (k + 1)]? = some o' ∧ isEff o' = true) ↔ ∃ o', k < i ∧ (o :: l)[i - k]? = some o' ∧ isEff o' = true := by
      constructor
      · rintro ⟨o', h1, h2, h3⟩
        refine ⟨o', h1, ?_, h3⟩
        rw [show i - k = (i - (k + 1)) + 1 by omega]; simpa using h2
      · rintro ⟨o', h1, h2, h3⟩
        refine ⟨o', h1, ?_, h3⟩
        rw [show i - k = (i - (k + 1)) + 1 by omega] at h2; simpa using h2
    cases he : isEff o with
    | true =>
      simp only [List.mem_cons, ih, hrest]
      constructor
      · rintro (rfl | ⟨o', h1, h2⟩)
        · exact ⟨o, Nat.le_refl _, by simp, he⟩
        · exact ⟨o', Nat.le_of_lt h1, h2⟩
      · rintro ⟨o', h1, h2⟩
        by_cases e : i = k
        · exact .inl e
        · exact .inr ⟨o', by omega, h2⟩
    | false =>
      simp only [ih, hrest]
      constructor
      · rintro ⟨o', h1, h2⟩
        exact ⟨o', Nat.le_of_lt h1, h2⟩
      · rintro ⟨o', h1, h2, h3⟩
        refine ⟨o', ?_, h2, h3⟩
        by_cases e : i = k
        · subst e; simp at h2; subst h2; rw [he] at h3; cases h3
        · omega
theorem effs_iff (ops : Array Oper) (i : Nat) : i ∈ effsF ops.toList 0 ↔ ∃ o, ops[i]? = some o ∧ isEff o = true := by
  rw [effsF_mem]; simp
theorem effsF_sorted : ∀ (l : List Oper) (k : Nat), (effsF l k).Pairwise (· < ·)
  | [], _ => List.Pairwise.nil
  | o :: l, k => by
    unfold effsF
    cases he : isEff o with
    | true =>
      refine List.Pairwise.cons (fun i hi => ?_) (effsF_sorted l (k + 1))
      obtain ⟨_, h, _⟩ := (effsF_mem l (k + 1) i).1 hi
      omega
    | false => exact effsF_sorted l (k + 1)
theorem DrF.chainP (F : DrF ops anc) : ∀ (l : List Nat), chainF anc l = true → l.Pairwise (fun a b => Nat.testBit (ancAt anc b) a = true)
  | [], _ => List.Pairwise.nil
  | [a], _ => by simp
  | a :: b :: l, h => by
    rw [chainF, Bool.and_eq_true] at h
    have ih := F.chainP (b :: l) h.2
    refine List.Pairwise.cons (fun c hc => ?_) ih
    rcases List.mem_cons.1 hc with rfl | hc
    · exact h.1
    · exact F.trans c b a (List.rel_of_pairwise_cons ih hc) h.1

section
variable {C : Ctx} {ε : Env} {pd : Pd} {bl : Nat → Nat} {r : Dr} {tm : T V} {nt : Nat} {tmps : Array Value} {l D : List Nat}
theorem DrR.F (d : DrR C ε pd bl r tm nt tmps l D) : DrF r.ops r.anc := by rw [d.anc]; exact drOk_sound d.ok
theorem DrR.mem_es (d : DrR C ε pd bl r tm nt tmps l D) (i : Nat) : i ∈ r.es ↔ (∃ o, r.ops[i]? = some o ∧ isEff o = true) ∧ i ∉ D := by
  rw [d.es, List.mem_filter, effs_iff]; simp
/-- what is done ahead of the next one is done -/
theorem DrR.anc_done {e : Nat} (d : DrR C ε pd bl r tm nt tmps (e :: l) D) : ∀ j, Nat.testBit (ancAt r.anc e) j = true → j ∈ D := by
  intro j hj
  cases d.lin with
  | cons ho hn ha hl =>
    obtain ⟨e', he', hb, h⟩ := (d.F.iff e _ ho j).1 hj
    rcases h with rfl | h
    · exact ha e' he' hb
    · exact d.closed _ (ha e' he' hb) j h
/-- the next operation that does something is the first in the text -/
theorem DrR.head_eff {e : Nat} {o : Oper} (d : DrR C ε pd bl r tm nt tmps (e :: l) D) (ho : r.ops[e]? = some o) (he : isEff o = true) : ∃ es, r.es = e :: es := by
  have hn : e ∉ D := by cases d.lin with | cons _ hn _ _ => exact hn
  have hmem : e ∈ r.es := (d.mem_es e).2 ⟨⟨o, ho, he⟩, hn⟩
  have hch : r.es.Pairwise (fun a b => Nat.testBit (ancAt r.anc b) a = true) := by
    rw [d.es]; exact (d.F.chainP _ d.F.chain).filter _
  cases hes : r.es with
  | nil => rw [hes] at hmem; simp at hmem
  | cons e0 es =>
    rw [hes] at hmem hch
    rcases List.mem_cons.1 hmem with rfl | hm
    · exact ⟨es, rfl⟩
    · have h1 := d.anc_done e0 (List.rel_of_pairwise_cons hch hm)
      have h2 : e0 ∈ r.es := by rw [hes]; simp
      exact absurd h1 ((d.mem_es e0).1 h2).2
end
end
end Go.Lev
namespace Go.Lev
open Go
theorem wantF_congr {ops : Array Oper} {tm tm' : T V} {o : Oper} (h : ∀ t ∈ guardTmp ops.toList o, tm.get undefV t = tm'.get undefV t) : wantF ops tm o = wantF ops tm' o := by
  unfold wantF
  unfold guardTmp at h
  split
  · rfl
  · rename_i j w hg
    rw [hg] at h
    simp only [Array.getElem?_toList] at h
    split
    · rfl
    · rename_i g hj
      rw [hj] at h
      simp only at h
      split
      · rfl
      · rename_i d hd
        rw [hd] at h
        rw [h d (by simp)]
theorem putDst_get {nt : Nat} {tm tm' : T V} {d : Option Nat} {v : V} (h : putDst nt tm d v = some tm') (t : Nat) : tm'.get undefV t = (if d = some t then v else tm.get undefV t) ∧ (d = some t → t < nt) := by
  cases d with
  | none => cases h; simp
  | some d =>
    unfold putDst putDst2 at h
    simp only at h
    split at h
    · rename_i hlt
      rw [Nat.blt_eq] at hlt
      refine ⟨?_, fun e => by cases e; exact hlt⟩
      rw [T.get_set h]
      by_cases e : t = d
      · subst e; simp
      · rw [if_neg e, if_neg (fun e' => e (Option.some.inj e').symm)]
    · cases h
/-- a slot of the machine behind a value -/
def putM (tmps : Array Value) (d : Option Nat) (y : Value) : Array Value := match d with | some d => tmps.setIfInBounds d y | none => tmps
theorem putM_size (tmps : Array Value) (d : Option Nat) (y : Value) : (putM tmps d y).size = tmps.size := by cases d <;> simp [putM]
theorem putM_get {tmps : Array Value} {d : Option Nat} {y : Value} (t : Nat) : (putM tmps d y).getD t undef = if d = some t ∧ t < tmps.size then y else tmps.getD t undef := by
  cases d with
  | none => simp [putM]
  | some d =>
    simp only [putM, Option.some.injEq]
    rw [Array.getD_eq_getD_getElem?, Array.getD_eq_getD_getElem?]
    by_cases e : d = t
    · subst e
      by_cases hd : d < tmps.size
      · rw [if_pos ⟨rfl, hd⟩, Array.getElem?_setIfInBounds, if_pos rfl, if_pos hd]; rfl
      · rw [if_neg (fun e => hd e.2), Array.getElem?_setIfInBounds, if_pos rfl, if_neg hd, Array.getElem?_eq_none (by omega)]
    · rw [if_neg (fun e' => e e'.1), Array.getElem?_setIfInBounds_ne e]

section
variable {C : Ctx} {ε : Env} {pd : Pd} {bl : Nat → Nat} {r : Dr} {tm tm' : T V} {nt : Nat} {tmps : Array Value} {l D : List Nat}
/-- an operation that does something has been done -/
theorem DrR.fin {e : Nat} {o : Oper} {es : List Nat} {v : V} {y : Value} (d : DrR C ε pd bl r tm nt tmps (e :: l) D) (ho : r.ops[e]? = some o) (heff : isEff o = true) (hes : r.es = e :: es)
    (hput : putDst nt tm o.dst v = some tm') (hv : VR ε v y) :
    DrR C ε pd bl ⟨r.ops, r.anc, es, Nat.lor r.dm (Nat.pow 2 e), Nat.lor r.xm ((r.anc[e]?).getD 0), r.vm⟩ tm' nt (putM tmps o.dst y) l (e :: D) := by
  have hF := d.F
  have hnD : e ∉ D := by cases d.lin with | cons _ hn _ _ => exact hn
  have hanc := d.anc_done
  have hget := fun t => (putDst_get hput t)
  have hbe : Nat.testBit r.vm e = true → False := fun h => by rw [d.vmN e o h ho] at heff; cases heff
  -- a slot that a pending operation looks at, or writes, is not turned
  have hsame : ∀ i o', r.ops[i]? = some o' → Nat.testBit r.vm i = true → i ∉ e :: D → ∀ t ∈ tmpsOf o' ++ guardTmp r.ops.toList o', tm'.get undefV t = tm.get undefV t := by
    intro i o' ho' hvi hi t ht
    rw [(hget t).1]
    split
    · rename_i hd
      exfalso
      rcases hF.read i o' ho' t ht e o ho hd with h | ⟨_, h | h⟩
      · exact hnD ((d.vmA i hvi e o h ho).1 heff)
      · subst h; exact hbe hvi
      · exact hi (List.mem_cons_of_mem _ (hanc i h))
    · rfl
  have hdst : ∀ i o', r.ops[i]? = some o' → i ≠ e → ∀ t, o'.dst = some t → tm'.get undefV t = tm.get undefV t := by
    intro i o' ho' hne t ht
    rw [(hget t).1, if_neg (hF.dst i o' ho' e o ho hne t ht)]
  have hpn : ∀ i o', Pn ⟨r.ops, r.anc, es, Nat.lor r.dm (Nat.pow 2 e), Nat.lor r.xm ((r.anc[e]?).getD 0), r.vm⟩ tm' (e :: D) i o' → Pn r tm D i o' := by
    rintro i o' ⟨h1, h2, h3, h4, h5⟩
    refine ⟨h1, h2, h3, fun h => h4 (List.mem_cons_of_mem _ h), ?_⟩
    rw [← h5]
    exact wantF_congr fun t ht => (hsame i o' h1 h3 h4 t (List.mem_append.2 (.inr ht))).symm
  constructor
  · cases d.lin with | cons _ _ _ hl => exact hl
  · exact d.ok
  · exact d.anc
  · intro i hi j hj
    rcases List.mem_cons.1 hi with rfl | hi
    · exact List.mem_cons_of_mem _ (hanc j hj)
    · exact List.mem_cons_of_mem _ (d.closed i hi j hj)
  · intro i hi
    rcases List.mem_cons.1 hi with rfl | hi
    · exact (Array.getElem?_eq_some_iff.1 ho).1
    · exact d.inb i hi
  · have h1 : (effsF r.ops.toList 0).filter (fun i => decide (i ∉ e :: D)) = ((effsF r.ops.toList 0).filter (fun i => decide (i ∉ D))).filter (fun i => decide (i ≠ e)) := by
      rw [List.filter_filter]
      congr 1; funext i
      simp only [List.mem_cons, not_or, Bool.decide_and]
    show es = _
    rw [h1, ← d.es, hes]
    have hs : (e :: es).Pairwise (· < ·) := by rw [← hes, d.es]; exact (effsF_sorted _ _).filter _
    rw [List.filter_cons]
    simp only [ne_eq, not_true_eq_false, decide_false, Bool.false_eq_true, if_false]
    symm
    rw [List.filter_eq_self]
    intro i hi
    have := List.rel_of_pairwise_cons hs hi
    simp; omega
  · intro i
    show Nat.testBit (r.dm ||| 2 ^ e) i = true ↔ _
    rw [Nat.testBit_or, Nat.testBit_two_pow, Bool.or_eq_true, d.dm]
    simp only [decide_eq_true_eq, List.mem_cons]
    constructor
    · rintro (⟨h1, h2⟩ | rfl)
      · exact ⟨.inr h1, h2⟩
      · exact ⟨.inl rfl, o, ho, heff⟩
    · rintro ⟨rfl | h1, h2⟩
      · exact .inr rfl
      · exact .inl ⟨h1, h2⟩
  · intro i
    show Nat.testBit (r.xm ||| (r.anc[e]?).getD 0) i = true ↔ _
    rw [Nat.testBit_or, Bool.or_eq_true, d.xm]
    constructor
    · rintro (⟨e', h1, h2⟩ | h)
      · exact ⟨e', List.mem_cons_of_mem _ h1, h2⟩
      · exact ⟨e, by simp, ⟨o, ho, heff⟩, h⟩
    · rintro ⟨e', h1, h2, h3⟩
      rcases List.mem_cons.1 h1 with rfl | h1
      · exact .inr h3
      · exact .inl ⟨e', h1, h2, h3⟩
  · intro i hi o' ho' hn
    rcases List.mem_cons.1 hi with rfl | hi
    · rw [ho] at ho'; cases ho'; rw [heff] at hn; cases hn
    · exact d.vm i hi o' ho' hn
  · intro i hi j o' hj ho'
    obtain ⟨g1, g2⟩ := d.vmA i hi j o' hj ho'
    exact ⟨fun h => List.mem_cons_of_mem _ (g1 h), g2⟩
  · exact d.vmN
  · exact d.dnt
  · rw [putM_size]; exact d.size
  · intro t ht
    rw [(hget t).1, putM_get]
    by_cases hd : o.dst = some t
    · rw [if_pos hd, if_pos ⟨hd, by rw [d.size]; exact (hget t).2 hd⟩]; exact hv
    · rw [if_neg hd, if_neg (fun h => hd h.1)]
      refine d.slots t fun i o' ho' hd' => ?_
      rcases ht i o' ho' hd' with h | h
      · exact .inl h
      · rcases List.mem_cons.1 h with rfl | h
        · rw [ho] at ho'; cases ho'; exact absurd hd' hd
        · exact .inr h
  · intro i o' hp
    obtain ⟨tmi, p, g1, g2, g3, g4⟩ := d.pend i o' (hpn i o' hp)
    obtain ⟨h1, h2, h3, h4, h5⟩ := hp
    refine ⟨tmi, p, fun t ht => (g1 t ht).trans (hsame i o' h1 h3 h4 t (List.mem_append.2 (.inl ht))).symm, g2, g3, fun t ht => ?_⟩
    rw [hdst i o' h1 (fun e' => h4 (by rw [e']; simp)) t ht]; exact g4 t ht
  · intro i o1 i' o2 hp hp' hb
    exact d.binj i o1 i' o2 (hpn i o1 hp) (hpn i' o2 hp') hb
end
end Go.Lev
namespace Go.Lev
open Go
/-- a heap of the evaluator is a part of another -/
def Sub (h h' : Hp) : Prop := h.ro = h'.ro ∧ ∀ b, h.get b = .dead ∨ h.get b = h'.get b
theorem Sub.refl (h : Hp) : Sub h h := ⟨rfl, fun _ => .inr rfl⟩
theorem Sub.trans {a b c : Hp} (h : Sub a b) (g : Sub b c) : Sub a c := ⟨h.1.trans g.1, fun x => by
  rcases h.2 x with e | e
  · exact .inl e
  · rcases g.2 x with e' | e'
    · exact .inl (e.trans e')
    · exact .inr (e.trans e')⟩
theorem HR.sub {ε : Env} {h h' : Hp} {w : World} (r : HR ε h' w) (s : Sub h h') : HR ε h w where
  blk := fun b c hb => by
    obtain ⟨o, ho, hr⟩ := r.blk b c hb
    refine ⟨o, ho, ?_⟩
    rcases s.2 b with e | e
    · rw [e]; trivial
    · rw [e]; exact hr
  gl := by rw [s.1]; exact r.gl

/-- the evaluator has done all that may be done now -/
def Ready (C : Ctx) (r : Dr) (h : Hp) (tm : T V) (D : List Nat) : Prop :=
  ∀ (i : Nat) (o : Oper), r.ops[i]? = some o → isEff o = false → i ∉ D → (∀ (j : Nat) (o' : Oper), Nat.testBit (ancAt r.anc i) j = true → r.ops[j]? = some o' → isEff o' = true → j ∈ D) →
    Nat.testBit r.vm i = true ∧ ∃ wt, wantF r.ops tm o = some wt ∧ (wt = false → ∀ d, o.dst = some d → tm.get undefV d = undefV) ∧
      (wt = true → isAllocOp o.op = false → ∃ hi tmi v, Sub hi h ∧ (∀ t ∈ tmpsOf o, tmi.get undefV t = tm.get undefV t) ∧ quiet C hi tmi o = some v ∧ ∀ d, o.dst = some d → tm.get undefV d = v)

theorem not_eff_defer {o : Oper} (h : isEff o = false) : ∀ c, o.op ≠ .defer c := by
  intro c e
  unfold isEff at h
  rw [e] at h
  cases h

theorem ev_agree {tm tm' : T V} {o : Oper} (h : ∀ t ∈ tmpsOf o, tm.get undefV t = tm'.get undefV t) : ∀ x ∈ o.op.operands, ev tm x = ev tm' x := by
  intro x hx
  cases x with
  | tmp t =>
    show tm.get undefV t = tm'.get undefV t
    refine h t ?_
    unfold tmpsOf
    rw [List.mem_filterMap]
    exact ⟨.tmp t, by simpa using hx, rfl⟩
  | const v => rfl
  | global g => rfl
  | func f => rfl

section
variable {P : Program} {C : Ctx} {w0 : World} {ε : Env} {pd : Pd} {bl : Nat → Nat} {r : Dr} {tm : T V} {nt : Nat} {tmps : Array Value} {l D : List Nat}
/-- what an operation that may be done looks at, the machine knows as well -/
theorem DrR.look {i : Nat} {o : Oper} (d : DrR C ε pd bl r tm nt tmps (i :: l) D) (ho : r.ops[i]? = some o) : ∀ t ∈ tmpsOf o ++ guardTmp r.ops.toList o, VR ε (tm.get undefV t) (tmps.getD t undef) := by
  intro t ht
  refine d.slots t fun j o' ho' hd => ?_
  rcases d.F.read i o ho t ht j o' ho' hd with h | h
  · exact .inr (d.anc_done j h)
  · exact .inl h.1

theorem wantF_look {ops : Array Oper} {o : Oper} {b : Bool} (hl : ∀ t ∈ guardTmp ops.toList o, VR ε (tm.get undefV t) (tmps.getD t undef)) (h : wantF ops tm o = some b) : Region.wanted o (yielded ops tmps) = b := by
  unfold wantF at h
  unfold guardTmp at hl
  unfold Region.wanted yielded
  split at h
  · rename_i hg; rw [hg]; simpa using h
  · rename_i j w hg
    rw [hg] at hl ⊢
    simp only [Array.getElem?_toList] at hl ⊢
    split at h
    · rename_i hj; cases h; simp [hj]
    · rename_i g hj
      rw [hj] at hl
      simp only at hl
      split at h
      · rename_i hd; cases h; simp [hj, hd]
      · rename_i d hd
        rw [hd] at hl
        have hv := hl d (by simp)
        simp only [hj, Option.bind_some, hd]
        split at h
        · rename_i q hq
          cases h
          rw [hq, VR] at hv
          rw [Array.getD_eq_getD_getElem?] at hv
          cases ht : tmps[d]? with
          | none => rw [ht] at hv; simp [undef] at hv
          | some z => rw [ht] at hv; simp only [Option.getD_some] at hv; subst hv; simp
        · cases h
        · rename_i hnb hna
          cases h
          rw [Array.getD_eq_getD_getElem?] at hv
          cases ht : tmps[d]? with
          | none => simp
          | some z =>
            rw [ht] at hv
            simp only [Option.getD_some] at hv
            cases z with
            | bool q =>
              exfalso
              rcases VR_boolV hv with e | e
              · exact hna e
              · exact hnb _ e
            | _ => simp

/-- an operation that only looks, or makes a block, has been done -/
theorem DrR.did {i : Nat} {o : Oper} {y : Value} {pd' : Pd} (d : DrR C ε pd bl r tm nt tmps (i :: l) D) (ho : r.ops[i]? = some o) (hne : isEff o = false) (hvm : Nat.testBit r.vm i = true)
    (hy : ∀ t, o.dst = some t → VR ε (tm.get undefV t) y) (hpd : ∀ i' o', Pn r tm (i :: D) i' o' → ∀ p, (bl i', p) ∈ pd → (bl i', p) ∈ pd') :
    DrR C ε pd' bl r tm nt (putM tmps o.dst y) l (i :: D) := by
  have hanc := d.anc_done
  have hpn : ∀ i' o', Pn r tm (i :: D) i' o' → Pn r tm D i' o' := fun i' o' h => ⟨h.1, h.2.1, h.2.2.1, fun hm => h.2.2.2.1 (List.mem_cons_of_mem _ hm), h.2.2.2.2⟩
  constructor
  · cases d.lin with | cons _ _ _ hl => exact hl
  · exact d.ok
  · exact d.anc
  · intro j hj k hk
    rcases List.mem_cons.1 hj with rfl | hj
    · exact List.mem_cons_of_mem _ (hanc k hk)
    · exact List.mem_cons_of_mem _ (d.closed j hj k hk)
  · intro j hj
    rcases List.mem_cons.1 hj with rfl | hj
    · exact (Array.getElem?_eq_some_iff.1 ho).1
    · exact d.inb j hj
  · rw [d.es]
    refine List.filter_congr fun j hj => ?_
    have hji : j ≠ i := by
      rintro rfl
      obtain ⟨o', ho', he'⟩ := (effs_iff r.ops j).1 hj
      rw [ho] at ho'; cases ho'; rw [hne] at he'; cases he'
    simp [hji]
  · intro j
    rw [d.dm]
    constructor
    · rintro ⟨h1, h2⟩; exact ⟨List.mem_cons_of_mem _ h1, h2⟩
    · rintro ⟨h1, o', ho', he'⟩
      rcases List.mem_cons.1 h1 with rfl | h1
      · rw [ho] at ho'; cases ho'; rw [hne] at he'; cases he'
      · exact ⟨h1, o', ho', he'⟩
  · intro j
    rw [d.xm]
    constructor
    · rintro ⟨e, h1, h2⟩; exact ⟨e, List.mem_cons_of_mem _ h1, h2⟩
    · rintro ⟨e, h1, ⟨o', ho', he'⟩, h3⟩
      rcases List.mem_cons.1 h1 with rfl | h1
      · rw [ho] at ho'; cases ho'; rw [hne] at he'; cases he'
      · exact ⟨e, h1, ⟨o', ho', he'⟩, h3⟩
  · intro j hj o' ho' hn
    rcases List.mem_cons.1 hj with rfl | hj
    · exact hvm
    · exact d.vm j hj o' ho' hn
  · intro j hj k o' hk ho'
    obtain ⟨g1, g2⟩ := d.vmA j hj k o' hk ho'
    exact ⟨fun h => List.mem_cons_of_mem _ (g1 h), g2⟩
  · exact d.vmN
  · exact d.dnt
  · rw [putM_size]; exact d.size
  · intro t ht
    rw [putM_get]
    by_cases hd : o.dst = some t
    · rw [if_pos ⟨hd, by rw [d.size]; exact d.dnt i o t ho hvm hd⟩]; exact hy t hd
    · rw [if_neg (fun h => hd h.1)]
      refine d.slots t fun j o' ho' hd' => ?_
      rcases ht j o' ho' hd' with h | h
      · exact .inl h
      · rcases List.mem_cons.1 h with rfl | h
        · rw [ho] at ho'; cases ho'; exact absurd hd' hd
        · exact .inr h
  · intro j o' hp
    obtain ⟨tmi, p, g1, g2, g3, g4⟩ := d.pend j o' (hpn j o' hp)
    exact ⟨tmi, p, g1, g2, hpd j o' hp p.1 g3, g4⟩
  · intro j o1 j' o2 hp hp' hb
    exact d.binj j o1 j' o2 (hpn j o1 hp) (hpn j' o2 hp') hb

theorem Ready.did {i : Nat} {o : Oper} {h : Hp} (hr : Ready C r h tm D) (ho : r.ops[i]? = some o) (hne : isEff o = false) : Ready C r h tm (i :: D) := by
  intro j o' ho' hn hj hanc
  refine hr j o' ho' hn (fun h => hj (List.mem_cons_of_mem _ h)) fun k o2 hk ho2 he2 => ?_
  rcases List.mem_cons.1 (hanc k o2 hk ho2 he2) with rfl | h
  · rw [ho] at ho2; cases ho2; rw [hne] at he2; cases he2
  · exact h

theorem finish_putM {fn : Nat} {ops : Array Oper} {j : Nat} {l : List Nat} {k' : List Item} {ds : List Deferred} {mode : FrameMode} {kind : CallKind} {rnd : Option Nat} {o : Oper} (ho : ops[j]? = some o) (y : Value) :
    (Frame.mk fn tmps (.inRegion ops (j :: l) :: k') ds mode kind rnd).finish y = Frame.mk fn (putM tmps o.dst y) (.inRegion ops l :: k') ds mode kind rnd := by
  rw [finish_reg ho]; rfl

/-- the machine does all that only looks, or makes a block, up to what does something -/
theorem exec_quiet (hC : CtxOk P C) {h : Hp} {pds : Pd} {fn : Nat} {k' : List Item} {ds : List Deferred} {kind : CallKind} {rnd : Option Nat} {cs : List Frame} :
    ∀ (l D : List Nat) (ε : Env) (pd : Pd) (tmps : Array Value) (w : World), DrR C ε pd bl r tm nt tmps l D → Ready C r h tm D → WR w0 ε (pd ++ pds) h w →
    ∃ ε' pd' tmps' l' D' w', Steps P (lone ⟨fn, tmps, .inRegion r.ops l :: k', ds, .run, kind, rnd⟩ cs w) (lone ⟨fn, tmps', .inRegion r.ops l' :: k', ds, .run, kind, rnd⟩ cs w') ∧ ε.le ε' ∧
      DrR C ε' pd' bl r tm nt tmps' l' D' ∧ WR w0 ε' (pd' ++ pds) h w' ∧ (l' = [] ∨ ∃ e l'' o, l' = e :: l'' ∧ r.ops[e]? = some o ∧ isEff o = true)
  | [], D, ε, pd, tmps, w, d, hr, hw => ⟨ε, pd, tmps, [], D, w, .refl _ _, Env.le_refl ε, d, hw, .inl rfl⟩
  | i :: l, D, ε, pd, tmps, w, d, hr, hw => by
    obtain ⟨o, ho⟩ : ∃ o, r.ops[i]? = some o := by cases d.lin with | cons ho _ _ _ => exact ⟨_, ho⟩
    have hnD : i ∉ D := by cases d.lin with | cons _ hn _ _ => exact hn
    cases heff : isEff o with
    | true => exact ⟨ε, pd, tmps, i :: l, D, w, .refl _ _, Env.le_refl ε, d, hw, .inr ⟨i, l, o, rfl, ho, heff⟩⟩
    | false =>
      obtain ⟨hvm, wt, hwt, hf, ht⟩ := hr i o ho heff hnD fun j _ hj _ _ => d.anc_done j hj
      have hlook := d.look ho
      have hwanted := wantF_look (fun t ht => hlook t (List.mem_append.2 (.inr ht))) hwt
      have go : ∀ (ε1 : Env) (pd1 : Pd) (y : Value) (w1 : World), ε.le ε1 → WR w0 ε1 (pd1 ++ pds) h w1 → (∀ t, o.dst = some t → VR ε1 (tm.get undefV t) y) → (∀ i' o', Pn r tm (i :: D) i' o' → ∀ p, (bl i', p) ∈ pd → (bl i', p) ∈ pd1) →
          step P (lone ⟨fn, tmps, .inRegion r.ops (i :: l) :: k', ds, .run, kind, rnd⟩ cs w) = .next (lone ((Frame.mk fn tmps (.inRegion r.ops (i :: l) :: k') ds .run kind rnd).finish y) cs w1) →
          ∃ ε' pd' tmps' l' D' w', Steps P (lone ⟨fn, tmps, .inRegion r.ops (i :: l) :: k', ds, .run, kind, rnd⟩ cs w) (lone ⟨fn, tmps', .inRegion r.ops l' :: k', ds, .run, kind, rnd⟩ cs w') ∧ ε.le ε' ∧
            DrR C ε' pd' bl r tm nt tmps' l' D' ∧ WR w0 ε' (pd' ++ pds) h w' ∧ (l' = [] ∨ ∃ e l'' o, l' = e :: l'' ∧ r.ops[e]? = some o ∧ isEff o = true) := by
        intro ε1 pd1 y w1 hle hw1 hy hpd hs
        rw [finish_putM ho] at hs
        obtain ⟨ε', pd', tmps', l', D', w', g1, g2, g3⟩ := exec_quiet hC (fn := fn) (k' := k') (ds := ds) (kind := kind) (rnd := rnd) (cs := cs) l (i :: D) ε1 pd1 _ w1 ((d.mono hle).did ho heff hvm hy hpd) (hr.did ho heff) hw1
        exact ⟨ε', pd', tmps', l', D', w', .head hs g1, Env.le_trans hle g2, g3⟩
      cases wt with
      | false =>
        exact go ε pd undef w (Env.le_refl ε) hw (fun t hd => by rw [hf rfl t hd, undefV, VR]; exact ⟨[], VRs.nil, rfl⟩) (fun _ _ _ _ h => h) (step_skipop rfl rfl ho hwanted)
      | true =>
        have hev : ∀ (tmi : T V), (∀ t ∈ tmpsOf o, tmi.get undefV t = tm.get undefV t) → ∀ x ∈ o.op.operands, EvR ε tmi (Frame.mk fn tmps (.inRegion r.ops (i :: l) :: k') ds .run kind rnd).eval x := by
          intro tmi hag x hx
          unfold EvR
          rw [ev_agree hag x hx]
          cases x with
          | tmp t => exact hlook t (List.mem_append.2 (.inl (List.mem_filterMap.2 ⟨.tmp t, by simpa using hx, rfl⟩)))
          | const v => exact VR_absC ε v
          | global g => show VR _ (.glob g 0) (.pointer (some ⟨g, 0, none⟩)); rw [VR]
          | func f => show VR ε (.fn (.func f) [] []) (.func (.func f) #[] #[]); rw [VR]; exact ⟨by simp, [], [], VRs.nil, VRs.nil, rfl⟩
        cases hal : isAllocOp o.op with
        | false =>
          obtain ⟨hi, tmi, v, hsub, hag, hq, hdv⟩ := ht rfl hal
          obtain ⟨y, hrun, hvy⟩ := quiet_sound (P := P) hC (hw.hr.sub hsub) hq (hev tmi hag)
          exact go ε pd y w (Env.le_refl ε) hw (fun t hd => by rw [hdv t hd]; exact hvy) (fun _ _ _ _ h => h) (step_val rfl rfl ho hwanted (.inr (not_eff_defer heff)) hrun (.inl rfl))
        | true =>
          have hpn : Pn r tm D i o := ⟨ho, hal, hvm, hnD, hwt⟩
          obtain ⟨tmi, p, hag, hal', hmem, hdv⟩ := d.pend i o hpn
          obtain ⟨s, hs, hnd, obj, yv, hrun, hobj⟩ := alloc_sound (P := P) (ε := ε) hC hal' (hev tmi hag)
          obtain ⟨l1, l2, rfl⟩ := List.append_of_mem hmem
          rw [List.append_assoc, List.cons_append] at hw
          have hbind : (ε.bind (bl i) w.heap.size 0).φ (bl i) = some w.heap.size := by simp [Env.bind]
          have hnone := (hw.pend (bl i, p.1) (by simp)).1
          obtain ⟨ho', hv'⟩ := hobj _ (bl i) w.heap.size (Env.le_bind hnone w.heap.size 0) hbind
          obtain ⟨hle, hw1⟩ := hw.bind (o := obj) (w' := { w with heap := w.heap.push obj }) 0 (by intro x; simp [Array.getElem?_push]) ho' (by simp) rfl rfl rfl
          rw [← List.append_assoc] at hw1
          refine go _ (l1 ++ l2) (yv w.heap.size) _ hle hw1 (fun t hd => by rw [hdv t hd]; exact hv') ?_ (step_val (w' := { w with heap := w.heap.push obj }) (nx := .value (yv w.heap.size)) rfl rfl ho hwanted (.inr (not_eff_defer heff)) (by rw [hs]; simp [hrun]) (.inl rfl))
          intro i' o' hp' q hq
          have hne : bl i' ≠ bl i := fun e => hp'.2.2.2.1 (by
            have := d.binj i' o' i o ⟨hp'.1, hp'.2.1, hp'.2.2.1, fun hm => hp'.2.2.2.1 (List.mem_cons_of_mem _ hm), hp'.2.2.2.2⟩ hpn e
            rw [this]; simp)
          rcases List.mem_append.1 hq with h | h
          · exact List.mem_append.2 (.inl h)
          · rcases List.mem_cons.1 h with h | h
            · exact absurd (congrArg Prod.fst h) hne
            · exact List.mem_append.2 (.inr h)
end
end Go.Lev
namespace Go.Lev
open Go
/-- as Ready, up to an index -/
def ReadyTo (C : Ctx) (r : Dr) (h : Hp) (tm : T V) (D : List Nat) (n : Nat) : Prop :=
  ∀ (i : Nat) (o : Oper), i < n → r.ops[i]? = some o → isEff o = false → i ∉ D → (∀ (j : Nat) (o' : Oper), Nat.testBit (ancAt r.anc i) j = true → r.ops[j]? = some o' → isEff o' = true → j ∈ D) →
    Nat.testBit r.vm i = true ∧ ∃ wt, wantF r.ops tm o = some wt ∧ (wt = false → ∀ d, o.dst = some d → tm.get undefV d = undefV) ∧
      (wt = true → isAllocOp o.op = false → ∃ hi tmi v, Sub hi h ∧ (∀ t ∈ tmpsOf o, tmi.get undefV t = tm.get undefV t) ∧ quiet C hi tmi o = some v ∧ ∀ d, o.dst = some d → tm.get undefV d = v)

theorem lor_bit (vm i j : Nat) : Nat.testBit (Nat.lor vm (Nat.pow 2 i)) j = true ↔ Nat.testBit vm j = true ∨ j = i := by
  show Nat.testBit (vm ||| 2 ^ i) j = true ↔ _
  rw [Nat.testBit_or, Nat.testBit_two_pow, Bool.or_eq_true, decide_eq_true_eq, eq_comm (a := i)]
theorem lor_self {vm i : Nat} (h : Nat.testBit vm i = true) : Nat.lor vm (Nat.pow 2 i) = vm := by
  apply Nat.eq_of_testBit_eq
  intro j
  rw [Bool.eq_iff_iff, lor_bit]
  exact ⟨fun g => g.elim id (fun e => by rw [e]; exact h), .inl⟩
theorem maskOf_bit : ∀ (l : List Nat) (j : Nat), Nat.testBit (maskOf l) j = true ↔ j ∈ l
  | [], j => by simp [maskOf]
  | i :: l, j => by
    unfold maskOf
    show Nat.testBit (2 ^ i ||| maskOf l) j = true ↔ _
    rw [Nat.testBit_or, Nat.testBit_two_pow, Bool.or_eq_true, decide_eq_true_eq, maskOf_bit l j, List.mem_cons, eq_comm (a := i)]
theorem subMask_iff (a b : Nat) : subMask a b = true ↔ ∀ j, Nat.testBit a j = true → Nat.testBit b j = true := by
  unfold subMask
  constructor
  · intro h j hj
    have e : a &&& b = a := beq_nat h
    rw [← e, Nat.testBit_and, Bool.and_eq_true] at hj
    exact hj.2
  · intro h
    have e : a &&& b = a := by
      apply Nat.eq_of_testBit_eq
      intro j
      rw [Nat.testBit_and]
      cases hj : Nat.testBit a j with
      | false => rfl
      | true => rw [h j hj]; rfl
    show Nat.beq (a &&& b) a = true
    rw [e]; simp

section
variable {P : Program} {C : Ctx} {w0 : World} {ε : Env} {pd : Pd} {bl : Nat → Nat} {tm tm' : T V} {nt : Nat} {tmps : Array Value} {l D : List Nat} {ops : Array Oper} {anc es : List Nat} {dm xm vm : Nat}

/-- what an operation looks at is not turned by one that comes to be known -/
theorem learn_same {i : Nat} {o : Oper} {v : V} (d : DrR C ε pd bl ⟨ops, anc, es, dm, xm, vm⟩ tm nt tmps l D) (ho : ops[i]? = some o) (hne : isEff o = false) (hvi : Nat.testBit vm i = false)
    (hget : ∀ t, tm'.get undefV t = if o.dst = some t then v else tm.get undefV t) {j : Nat} {o' : Oper} (ho' : ops[j]? = some o') (hvj : Nat.testBit vm j = true) :
    ∀ t ∈ tmpsOf o' ++ guardTmp ops.toList o', tm'.get undefV t = tm.get undefV t := by
  intro t ht
  rw [hget t]
  split
  · rename_i hd
    exfalso
    rcases d.F.read j o' ho' t ht i o ho hd with h | ⟨h, _⟩
    · have := (d.vmA j hvj i o h ho).2 hne
      simp only at this
      rw [hvi] at this; cases this
    · rw [hne] at h; cases h
  · rfl

theorem DrR.learn {i b : Nat} {o : Oper} {v : V} {pd' : Pd} (d : DrR C ε pd bl ⟨ops, anc, es, dm, xm, vm⟩ tm nt tmps l D) (ho : ops[i]? = some o) (hne : isEff o = false) (hvi : Nat.testBit vm i = false)
    (hA : ∀ j o', Nat.testBit (ancAt anc i) j = true → ops[j]? = some o' → (isEff o' = true → j ∈ D) ∧ (isEff o' = false → Nat.testBit vm j = true))
    (hget : ∀ t, tm'.get undefV t = if o.dst = some t then v else tm.get undefV t) (hnt : ∀ t, o.dst = some t → t < nt) (hpd : ∀ p ∈ pd, p ∈ pd') (hfr : ∀ p ∈ pd, p.1 ≠ b)
    (hal : isAllocOp o.op = true → wantF ops tm o = some true → ∃ p, allocF C tm o = some p ∧ (b, p.1) ∈ pd' ∧ v = p.2 b) :
    DrR C ε pd' (fun k => if k = i then b else bl k) ⟨ops, anc, es, dm, xm, Nat.lor vm (Nat.pow 2 i)⟩ tm' nt tmps l D := by
  have hiD : i ∉ D := fun h => by have := d.vm i h o ho hne; simp only at this; rw [hvi] at this; cases this
  have hsame := fun {j o'} h1 h2 => learn_same d ho hne hvi hget (j := j) (o' := o') h1 h2
  have hdst : ∀ j o', ops[j]? = some o' → j ≠ i → ∀ t, o'.dst = some t → tm'.get undefV t = tm.get undefV t := by
    intro j o' ho' hji t ht
    rw [hget t, if_neg (d.F.dst j o' ho' i o ho hji t ht)]
  have hself : ∀ t ∈ tmpsOf o ++ guardTmp ops.toList o, tm'.get undefV t = tm.get undefV t := by
    intro t ht
    rw [hget t]
    split
    · rename_i hd
      exfalso
      rcases d.F.read i o ho t ht i o ho hd with h | ⟨h, _⟩
      · exact absurd (d.F.anc_lt i i h) (Nat.lt_irrefl _)
      · rw [hne] at h; cases h
    · rfl
  have hpn : ∀ j o', Pn ⟨ops, anc, es, dm, xm, Nat.lor vm (Nat.pow 2 i)⟩ tm' D j o' → j ≠ i → Pn ⟨ops, anc, es, dm, xm, vm⟩ tm D j o' := by
    rintro j o' ⟨h1, h2, h3, h4, h5⟩ hji
    have hv : Nat.testBit vm j = true := ((lor_bit vm i j).1 h3).resolve_right hji
    refine ⟨h1, h2, hv, h4, ?_⟩
    rw [← h5]
    exact wantF_congr fun t ht => (hsame h1 hv t (List.mem_append.2 (.inr ht))).symm
  constructor
  · exact d.lin
  · exact d.ok
  · exact d.anc
  · exact d.closed
  · exact d.inb
  · exact d.es
  · exact d.dm
  · exact d.xm
  · intro j hj o' ho' hn
    exact (lor_bit vm i j).2 (.inl (d.vm j hj o' ho' hn))
  · intro j hj k o' hk ho'
    rcases (lor_bit vm i j).1 hj with h | h
    · obtain ⟨g1, g2⟩ := d.vmA j h k o' hk ho'
      exact ⟨g1, fun hn => (lor_bit vm i k).2 (.inl (g2 hn))⟩
    · subst h
      obtain ⟨g1, g2⟩ := hA k o' hk ho'
      exact ⟨g1, fun hn => (lor_bit vm j k).2 (.inl (g2 hn))⟩
  · intro j o' hj ho'
    rcases (lor_bit vm i j).1 hj with h | h
    · exact d.vmN j o' h ho'
    · subst h; simp only at ho'; rw [ho] at ho'; cases ho'; exact hne
  · intro j o' t ho' hj ht
    rcases (lor_bit vm i j).1 hj with h | h
    · exact d.dnt j o' t ho' h ht
    · subst h; simp only at ho'; rw [ho] at ho'; cases ho'; exact hnt t ht
  · exact d.size
  · intro t ht
    rw [hget t, if_neg]
    · exact d.slots t ht
    · intro hd
      rcases ht i o ho hd with h | h
      · rw [hne] at h; cases h
      · exact hiD h
  · intro j o' hp
    by_cases e : j = i
    · subst e
      obtain ⟨h1, h2, h3, h4, h5⟩ := hp
      simp only at h1 h5
      rw [ho] at h1; cases h1
      have hw : wantF ops tm o = some true := by
        rw [← h5]; exact wantF_congr fun t ht => (hself t (List.mem_append.2 (.inr ht))).symm
      obtain ⟨p, g1, g2, g3⟩ := hal h2 hw
      refine ⟨tm, p, fun t ht => (hself t (List.mem_append.2 (.inl ht))).symm, g1, by simpa using g2, fun t ht => ?_⟩
      rw [hget t, if_pos ht, if_pos rfl]; exact g3
    · obtain ⟨tmi, p, g1, g2, g3, g4⟩ := d.pend j o' (hpn j o' hp e)
      have hv : Nat.testBit vm j = true := ((lor_bit vm i j).1 hp.2.2.1).resolve_right e
      refine ⟨tmi, p, fun t ht => (g1 t ht).trans (hsame hp.1 hv t (List.mem_append.2 (.inl ht))).symm, g2, by rw [if_neg e]; exact hpd _ g3, fun t ht => ?_⟩
      rw [if_neg e, hdst j o' hp.1 e t ht]; exact g4 t ht
  · intro j o1 j' o2 hp hp' hb
    by_cases e : j = i
    · by_cases e' : j' = i
      · rw [e, e']
      · simp only [if_pos e, if_neg e'] at hb
        obtain ⟨_, p, _, _, g3, _⟩ := d.pend j' o2 (hpn j' o2 hp' e')
        exact absurd hb.symm (hfr _ g3)
    · by_cases e' : j' = i
      · simp only [if_pos e', if_neg e] at hb
        obtain ⟨_, p, _, _, g3, _⟩ := d.pend j o1 (hpn j o1 hp e)
        exact absurd hb (hfr _ g3)
      · simp only [if_neg e, if_neg e'] at hb
        exact d.binj j o1 j' o2 (hpn j o1 hp e) (hpn j' o2 hp' e') hb

/-- what was known stays known -/
theorem ReadyTo.learn {i n : Nat} {o : Oper} {v : V} {h h' : Hp} (d : DrR C ε pd bl ⟨ops, anc, es, dm, xm, vm⟩ tm nt tmps l D) (hr : ReadyTo C ⟨ops, anc, es, dm, xm, vm⟩ h tm D n) (ho : ops[i]? = some o) (hne : isEff o = false) (hvi : Nat.testBit vm i = false)
    (hget : ∀ t, tm'.get undefV t = if o.dst = some t then v else tm.get undefV t) (hn : n ≤ i) (hsub : Sub h h') : ReadyTo C ⟨ops, anc, es, dm, xm, Nat.lor vm (Nat.pow 2 i)⟩ h' tm' D n := by
  intro j o' hj ho' hn' hD hanc
  obtain ⟨hv, wt, h1, h2, h3⟩ := hr j o' hj ho' hn' hD hanc
  simp only at ho' hv h1
  have hsame := learn_same d ho hne hvi hget ho' hv
  have hdst : ∀ t, o'.dst = some t → tm'.get undefV t = tm.get undefV t := by
    intro t ht
    rw [hget t, if_neg (d.F.dst j o' ho' i o ho (by omega) t ht)]
  refine ⟨(lor_bit vm i j).2 (.inl hv), wt, ?_, ?_, ?_⟩
  · rw [← h1]; exact wantF_congr fun t ht => hsame t (List.mem_append.2 (.inr ht))
  · intro hf t ht; rw [hdst t ht]; exact h2 hf t ht
  · intro ht hal
    obtain ⟨hi, tmi, v, g1, g2, g3, g4⟩ := h3 ht hal
    exact ⟨hi, tmi, v, g1.trans hsub, fun t ht => (g2 t ht).trans (hsame t (List.mem_append.2 (.inl ht))).symm, g3, fun t ht => by rw [hdst t ht]; exact g4 t ht⟩
end
end Go.Lev
namespace Go.Lev
open Go
section
variable {P : Program} {C : Ctx} {w0 : World} {ε : Env} {nt : Nat} {tmps : Array Value} {l D : List Nat} {ops : Array Oper} {anc es : List Nat} {dm xm : Nat} {w : World} {pds : Pd}

theorem ReadyTo.skip {r : Dr} {h : Hp} {tm : T V} {i : Nat} (hr : ReadyTo C r h tm D i)
    (hi : ∀ o, r.ops[i]? = some o → isEff o = false → i ∉ D → (∀ (j : Nat) (o' : Oper), Nat.testBit (ancAt r.anc i) j = true → r.ops[j]? = some o' → isEff o' = true → j ∈ D) →
      Nat.testBit r.vm i = true ∧ ∃ wt, wantF r.ops tm o = some wt ∧ (wt = false → ∀ d, o.dst = some d → tm.get undefV d = undefV) ∧
        (wt = true → isAllocOp o.op = false → ∃ hi tmi v, Sub hi h ∧ (∀ t ∈ tmpsOf o, tmi.get undefV t = tm.get undefV t) ∧ quiet C hi tmi o = some v ∧ ∀ d, o.dst = some d → tm.get undefV d = v)) :
    ReadyTo C r h tm D (i + 1) := by
  intro j o hj ho hn hD hanc
  by_cases e : j = i
  · subst e; exact hi o ho hn hD hanc
  · exact hr j o (by omega) ho hn hD hanc

theorem pass_sound : ∀ (L : List (Oper × Nat)) (i : Nat) (pd : Pd) (bl : Nat → Nat) (tm : T V) (h : Hp) (vm : Nat) {tm' : T V} {h' : Hp} {vm' : Nat}, L = (ops.toList.zip anc).drop i →
    DrR C ε pd bl ⟨ops, anc, es, dm, xm, vm⟩ tm nt tmps l D → ReadyTo C ⟨ops, anc, es, dm, xm, vm⟩ h tm D i → WR w0 ε (pd ++ pds) h w →
    passF C ops nt (maskOf (effsF ops.toList 0)) dm xm L i tm h vm = some (tm', h', vm') →
    ∃ pd' bl', DrR C ε pd' bl' ⟨ops, anc, es, dm, xm, vm'⟩ tm' nt tmps l D ∧ Ready C ⟨ops, anc, es, dm, xm, vm'⟩ h' tm' D ∧ WR w0 ε (pd' ++ pds) h' w
  | [], i, pd, bl, tm, h, vm, tm', h', vm', hL, d, hr, hw, hp => by
    cases hp
    refine ⟨pd, bl, d, ?_, hw⟩
    intro j o ho
    have hlen : anc.length = ops.size := by have := d.anc; simp only at this; rw [this, ancF_len]; simp
    have h1 : (ops.toList.zip anc).length ≤ i := by
      have := List.drop_eq_nil_iff.1 hL.symm; exact this
    rw [List.length_zip, hlen] at h1
    simp at h1
    have : j < ops.size := (Array.getElem?_eq_some_iff.1 ho).1
    exact hr j o (by omega) ho
  | (o, a) :: L, i, pd, bl, tm, h, vm, tm', h', vm', hL, d, hr, hw, hp => by
    have hz : (ops.toList.zip anc)[i]? = some (o, a) := by
      have : ((ops.toList.zip anc).drop i)[0]? = some (o, a) := by rw [← hL]; rfl
      rw [List.getElem?_drop] at this
      simpa using this
    obtain ⟨ho, ha⟩ : ops[i]? = some o ∧ anc[i]? = some a := by
      rw [List.getElem?_zip_eq_some] at hz
      simpa using hz
    have haa : ancAt anc i = a := by unfold ancAt; rw [ha]; rfl
    have hL' : L = (ops.toList.zip anc).drop (i + 1) := by
      have := congrArg List.tail hL
      simpa using this
    unfold passF at hp
    split at hp
    · -- passed over
      rename_i hskip
      refine pass_sound L (i + 1) pd bl tm h vm hL' d (hr.skip ?_) hw hp
      intro o' ho' hn hD hanc
      simp only at ho'
      rw [ho] at ho'; cases ho'
      exfalso
      simp only [Bool.or_eq_true, Bool.not_eq_true'] at hskip
      rcases hskip with (h1 | h1) | h1
      · rw [hn] at h1; cases h1
      · obtain ⟨e, he, _, hb⟩ := (d.xm i).1 h1
        exact hD (d.closed e he i hb)
      · rw [← Bool.not_eq_true, subMask_iff] at h1
        refine h1 fun j hj => ?_
        have hj : Nat.testBit (a &&& maskOf (effsF ops.toList 0)) j = true := hj
        rw [Nat.testBit_and, Bool.and_eq_true, maskOf_bit, effs_iff] at hj
        obtain ⟨hj1, o2, ho2, he2⟩ := hj
        exact (d.dm j).2 ⟨hanc j o2 (by rw [← haa] at hj1; exact hj1) ho2 he2, o2, ho2, he2⟩
    · rename_i hgo
      simp only [Bool.or_eq_false_iff, Bool.not_eq_false'] at hgo
      obtain ⟨⟨hne, hxm⟩, hsubm⟩ := hgo
      rw [subMask_iff] at hsubm
      have hA1 : ∀ (j : Nat) (o' : Oper), Nat.testBit (ancAt anc i) j = true → ops[j]? = some o' → isEff o' = true → j ∈ D := by
        intro j o' hj ho' he'
        refine ((d.dm j).1 (hsubm j ?_)).1
        show Nat.testBit (a &&& maskOf (effsF ops.toList 0)) j = true
        rw [Nat.testBit_and, Bool.and_eq_true, maskOf_bit, effs_iff]
        exact ⟨by rw [← haa]; exact hj, o', ho', he'⟩
      have hA : ∀ j o', Nat.testBit (ancAt anc i) j = true → ops[j]? = some o' → (isEff o' = true → j ∈ D) ∧ (isEff o' = false → Nat.testBit vm j = true) := by
        intro j o' hj ho'
        refine ⟨hA1 j o' hj ho', fun hn => ?_⟩
        by_cases hD : j ∈ D
        · exact d.vm j hD o' ho' hn
        · exact (hr j o' (d.F.anc_lt i j hj) ho' hn hD fun k o2 hk ho2 he2 => hA1 k o2 (d.F.trans i j k hj hk) ho2 he2).1
      split at hp
      · cases hp
      · rename_i q hq
        unfold free1 at hq
        split at hq
        · cases hq
        · rename_i wt hwt
          simp only at hwt hq
          cases hvi : Nat.testBit vm i with
          | true =>
            rw [hvi] at hq
            -- known: nothing is turned
            suffices hs : q = (tm, h, vm) ∧ (wt = false → ∀ d, o.dst = some d → tm.get undefV d = undefV) ∧
                (wt = true → isAllocOp o.op = false → ∃ hi tmi v, Sub hi h ∧ (∀ t ∈ tmpsOf o, tmi.get undefV t = tm.get undefV t) ∧ quiet C hi tmi o = some v ∧ ∀ d, o.dst = some d → tm.get undefV d = v) by
              obtain ⟨rfl, h1, h2⟩ := hs
              refine pass_sound L (i + 1) pd bl tm h vm hL' d (hr.skip ?_) hw hp
              intro o' ho' hn hD hanc
              simp only at ho'
              rw [ho] at ho'; cases ho'
              exact ⟨hvi, wt, hwt, h1, h2⟩
            unfold free2 at hq
            split at hq
            · cases hq
            · rename_i p hfo
              split at hq
              · rename_i qq hfp
                cases hq
                unfold freePut at hfp
                cases wt with
                | false =>
                  cases hfo
                  split at hfp
                  · rename_i hd
                    cases hfp
                    exact ⟨by rw [lor_self hvi], (fun _ t ht => by rw [hd] at ht; cases ht), fun e => by cases e⟩
                  · rename_i t hd
                    simp only [Bool.false_and, Bool.false_or] at hfp
                    split at hfp
                    · rename_i hsm
                      cases hfp
                      exact ⟨rfl, fun _ t' ht => by rw [hd] at ht; cases ht; exact (V.same_eq hsm).symm, fun e => by cases e⟩
                    · cases hfp
                | true =>
                  unfold freeOp at hfo
                  simp only at hfo
                  split at hfo
                  · rename_i hal
                    split at hfo
                    · rename_i v hqv
                      cases hfo
                      rw [hal] at hfp
                      split at hfp
                      · rename_i hd
                        cases hfp
                        exact ⟨by rw [lor_self hvi], (fun e => by cases e), fun _ _ => ⟨h, tm, v, .refl h, fun _ _ => rfl, hqv, fun t ht => by rw [hd] at ht; cases ht⟩⟩
                      · rename_i t hd
                        simp only [Bool.and_false, Bool.false_or] at hfp
                        split at hfp
                        · rename_i hsm
                          cases hfp
                          exact ⟨rfl, (fun e => by cases e), fun _ _ => ⟨h, tm, v, .refl h, fun _ _ => rfl, hqv, fun t' ht => by rw [hd] at ht; cases ht; exact (V.same_eq hsm).symm⟩⟩
                        · cases hfp
                    · cases hfo
                  · rename_i hal
                    cases hfo
                    rw [hal] at hfp
                    split at hfp
                    · cases hfp
                      exact ⟨by rw [lor_self hvi], (fun e => by cases e), fun _ e => by rw [hal] at e; cases e⟩
                    · simp only [Bool.and_self, Bool.true_or] at hfp
                      cases hfp
                      exact ⟨rfl, (fun e => by cases e), fun _ e => by rw [hal] at e; cases e⟩
              · cases hq
          | false =>
            rw [hvi] at hq
            have hiD : i ∉ D := fun hm => by have := d.vm i hm o ho hne; simp only at this; rw [hvi] at this; cases this
            -- new
            suffices hs : ∃ v pd1 b, (∀ t, q.1.get undefV t = if o.dst = some t then v else tm.get undefV t) ∧ (∀ t, o.dst = some t → t < nt) ∧ q.2.2 = Nat.lor vm (Nat.pow 2 i) ∧ (∀ p ∈ pd, p ∈ pd1) ∧ (∀ p ∈ pd, p.1 ≠ b) ∧
                (isAllocOp o.op = true → wantF ops tm o = some true → ∃ p, allocF C tm o = some p ∧ (b, p.1) ∈ pd1 ∧ v = p.2 b) ∧ WR w0 ε (pd1 ++ pds) q.2.1 w ∧ Sub h q.2.1 ∧
                (wt = false → v = undefV) ∧ (wt = true → isAllocOp o.op = false → quiet C h tm o = some v) by
              obtain ⟨v, pd1, b, g1, g2, g3, g4, g5, g6, g7, g8, g9, g10⟩ := hs
              obtain ⟨tm1, h1, vm1⟩ := q
              simp only at g1 g2 g3 g7 g8
              subst g3
              have d1 := d.learn ho hne hvi hA g1 g2 g4 g5 g6
              have hself : ∀ t ∈ tmpsOf o ++ guardTmp ops.toList o, tm1.get undefV t = tm.get undefV t := by
                intro t ht
                rw [g1 t]
                split
                · rename_i hd
                  exfalso
                  rcases d.F.read i o ho t ht i o ho hd with h | ⟨h, _⟩
                  · exact absurd (d.F.anc_lt i i h) (Nat.lt_irrefl _)
                  · rw [hne] at h; cases h
                · rfl
              refine pass_sound L (i + 1) pd1 _ tm1 h1 _ hL' d1 ((hr.learn d ho hne hvi g1 (Nat.le_refl i) g8).skip ?_) g7 hp
              intro o' ho' hn hD hanc
              simp only at ho'
              rw [ho] at ho'; cases ho'
              refine ⟨(lor_bit vm i i).2 (.inr rfl), wt, ?_, ?_, ?_⟩
              · rw [← hwt]; exact wantF_congr fun t ht => hself t (List.mem_append.2 (.inr ht))
              · intro hf t ht; rw [g1 t, if_pos ht]; exact g9 hf
              · intro ht hal
                exact ⟨h, tm, v, g8, fun t ht => (hself t (List.mem_append.2 (.inl ht))).symm, g10 ht hal, fun t ht => by rw [g1 t, if_pos ht]⟩
            unfold free2 at hq
            split at hq
            · cases hq
            · rename_i p hfo
              split at hq
              · rename_i qq hfp
                cases hq
                have hput : (∀ t, qq.1.get undefV t = if o.dst = some t then p.1 else tm.get undefV t) ∧ (∀ t, o.dst = some t → t < nt) ∧ qq.2 = Nat.lor vm (Nat.pow 2 i) := by
                  unfold freePut at hfp
                  split at hfp
                  · rename_i hd
                    cases hfp
                    exact ⟨fun t => by rw [hd]; simp, fun t ht => (by rw [hd] at ht; cases ht), rfl⟩
                  · rename_i t hd
                    simp only at hfp
                    split at hfp
                    · rename_i tm1 hlt hset
                      cases hfp
                      rw [Nat.blt_eq] at hlt
                      refine ⟨fun t' => ?_, fun t' ht => by rw [hd] at ht; cases ht; exact hlt, rfl⟩
                      rw [hd, T.get_set hset]
                      by_cases e : t' = t
                      · subst e; simp
                      · rw [if_neg e, if_neg (fun e' => e (Option.some.inj e').symm)]
                    · cases hfp
                have hfresh : ∀ p ∈ pd, p.1 ≠ h.nx := fun p hp => by have := (hw.pend p (by simp [hp])).2.1; omega
                refine ⟨p.1, ?_⟩
                cases wt with
                | false =>
                  cases hfo
                  exact ⟨pd, h.nx, hput.1, hput.2.1, hput.2.2, fun _ h => h, hfresh, (fun _ e => by rw [hwt] at e; cases e), hw, .refl h, (fun _ => rfl), fun e => by cases e⟩
                | true =>
                  unfold freeOp at hfo
                  simp only at hfo
                  split at hfo
                  · rename_i hal
                    split at hfo
                    · rename_i v hqv
                      cases hfo
                      exact ⟨pd, h.nx, hput.1, hput.2.1, hput.2.2, fun _ h => h, hfresh, (fun e => by rw [hal] at e; cases e), hw, .refl h, (fun e => by cases e), fun _ _ => hqv⟩
                    · cases hfo
                  · rename_i hal
                    split at hfo
                    · rename_i pa hpa
                      split at hfo
                      · rename_i h1 hnew
                        cases hfo
                        refine ⟨(h.nx, pa.1) :: pd, h.nx, hput.1, hput.2.1, hput.2.2, fun _ h => List.mem_cons_of_mem _ h, hfresh, (fun _ _ => ⟨pa, hpa, by simp, rfl⟩), by simpa using hw.pre hnew, ?_, (fun e => by cases e), fun _ e => by rw [hal] at e; cases e⟩
                        refine ⟨(Hp.ro_new hnew).symm, ?_⟩
                        intro x
                        simp only
                        rw [Hp.get_new hnew]
                        by_cases e : x = h.nx
                        · subst e; exact .inl (hw.nxd _ (Nat.le_refl _))
                        · rw [if_neg e]; exact .inr rfl
                      · cases hfo
                    · cases hfo
              · cases hq
end
end Go.Lev
namespace Go.Lev
open Go
section
variable {P : Program} {C : Ctx} {w0 : World} {f0 : Nat} {cs0 : List Frame} {ε : Env} {pd : Pd} {pds : List Pd} {h : Hp} {w : World} {Cs : List Frame} {cs : List Fr}

theorem putDst_putM {tm tm' : T V} {nt : Nat} {tmps : Array Value} {d : Option Nat} {v : V} {y : Value} (h : putDst nt tm d v = some tm') (htm : tmR ε tm nt tmps) (hv : VR ε v y) : tmR ε tm' nt (putM tmps d y) := by
  cases d with
  | none => cases h; exact htm
  | some d => exact putDst_some h htm hv

/-- a frame that waits takes a value -/
theorem finTodo_sound {nt : Nat} {fn : Nat} {defs : List De} {kind : CallKind} {rnd : Option Nat} {mode : Mo} {tm tm' : T V} {todo todo' : List It} {F : Frame} {v : V} {y : Value}
    (hf : FrR C ε true pd ⟨fn, nt, defs, kind, rnd, mode, tm, todo⟩ F) (hv : VR ε v y) (hfin : finTodo nt tm todo v = some (tm', todo')) :
    FrR C ε false pd ⟨fn, nt, defs, kind, rnd, mode, tm', todo'⟩ (F.finish y) := by
  cases hm : mode with
  | ret => have := (hf.idle (by rw [hm]; simp)).1; simp only at this; subst this; cases hfin
  | pan c => have := (hf.idle (by rw [hm]; simp)).1; simp only at this; subst this; cases hfin
  | run =>
    subst hm
    obtain ⟨Fn, tmps, Ftodo, ds, Fmode, Fkind, Frnd⟩ := F
    have hrun := hf.run rfl
    have hmode := hf.mode
    obtain ⟨h1, h2, h3, h4, h5, h6, h7, h8⟩ := hf
    clear h7 h8
    simp only at h1 h2 h3 h4 h5 h6 hrun
    have mk : ∀ (tmps' : Array Value) (Ft' : List Item), (Frame.mk Fn tmps Ftodo ds Fmode Fkind Frnd).finish y = Frame.mk Fn tmps' Ft' ds Fmode Fkind Frnd → TR C ε false pd todo' tm' nt tmps' Ft' →
        FrR C ε false pd ⟨fn, nt, defs, kind, rnd, .run, tm', todo'⟩ ((Frame.mk Fn tmps Ftodo ds Fmode Fkind Frnd).finish y) := by
      intro tmps' Ft' e ht
      rw [e]
      exact ⟨h1, h2, h3, h4, h5, h6, fun _ => ht, fun e => absurd rfl e⟩
    cases todo with
    | nil => cases hfin
    | cons it k =>
      cases it
      case dr r =>
        obtain ⟨l, D, bl, k', e1, hk, hd, hwt⟩ := hrun
        obtain ⟨e, es, l', hes, rfl⟩ := hwt rfl
        subst e1
        obtain ⟨ops, anc, res, dm, xm, vm⟩ := r
        simp only at hes hd; subst hes
        change finDr nt tm k ⟨ops, anc, e :: es, dm, xm, vm⟩ v = _ at hfin
        unfold finDr at hfin
        simp only at hfin
        split at hfin
        · cases hfin
        · rename_i o ho
          unfold finDr2 at hfin
          split at hfin
          · rename_i tm1 hput
            cases hfin
            have heff : isEff o = true := by
              obtain ⟨⟨o', ho', he'⟩, _⟩ := (hd.mem_es e).1 (by simp)
              simp only at ho'; rw [ho] at ho'; cases ho'; exact he'
            have hfinD := hd.fin ho heff rfl hput hv
            exact mk _ _ (finish_putM ho y) ⟨l', e :: D, bl, k', rfl, hk, hfinD, fun e => by cases e⟩
          · cases hfin
      case reg ops rest =>
        obtain ⟨hk, hpd, htm⟩ := hrun
        rw [ItRs] at hk
        obtain ⟨x, xs, ⟨j, hj1, hj2, rfl⟩, hxs, hFt⟩ := hk
        subst hFt
        change finReg nt tm k ops rest v = _ at hfin
        unfold finReg at hfin
        split at hfin
        · cases hfin
        · rename_i o rest'
          split at hfin
          · rename_i tm1 hput
            cases hfin
            have ho : ops[j]? = some o := by
              have : (ops.toList.drop j)[0]? = some o := by rw [← hj2]; rfl
              rw [List.getElem?_drop] at this
              simpa using this
            have hrest : rest' = ops.toList.drop (j + 1) := by
              have := congrArg List.tail hj2
              simpa using this
            simp only [List.length_cons] at hj1
            refine mk _ _ (by rw [show List.range' j (o :: rest').length = j :: List.range' (j + 1) rest'.length by simp [List.range'_succ]]; exact finish_putM ho y) (.plain ?_ hpd (putDst_putM hput htm hv))
            rw [ItRs]
            exact ⟨_, xs, ⟨j + 1, by omega, hrest, rfl⟩, hxs, rfl⟩
          · cases hfin
      case rf b =>
        cases hfin
        obtain ⟨hk, hpd, htm⟩ := hrun
        rw [ItRs] at hk
        obtain ⟨x, xs, ⟨c, hc, rfl⟩, hxs, hFt⟩ := hk
        subst hFt
        refine mk tmps (.endRangeFunc c :: xs) rfl (.plain ?_ hpd htm)
        rw [ItRs]
        exact ⟨_, xs, ⟨c, hc, rfl⟩, hxs, rfl⟩
      case br =>
        cases hfin
        obtain ⟨hk, hpd, htm⟩ := hrun
        rw [ItRs] at hk
        obtain ⟨x, xs, hx, hxs, hFt⟩ := hk
        have hx : x = .beginRound := hx
        subst hx hFt
        exact mk tmps xs rfl (.plain hxs hpd htm)
      all_goals cases hfin

theorem resume_mr {f : Fr} {F : Frame} {v : V} {y : Value} (hf : FrR C ε true pd f F) (hcs : FrRs C ε pds cs Cs) (hw : WR w0 ε (pd ++ pds.flatten) h w) (hv : VR ε v y) (hb : BotR f0 cs f.fn f.kind f.rnd)
    {s : St} (e : resume f cs h v = .inl s) : MR P C w0 f0 cs0 s (lone (F.finish y) (Cs ++ cs0) w) := by
  obtain ⟨fn, nt, defs, kind, rnd, mode, tm, todo⟩ := f
  change fin2 fn nt defs kind rnd mode cs h (finTodo nt tm todo v) = _ at e
  unfold fin2 at e
  split at e
  · rename_i p hp
    obtain ⟨tm', todo'⟩ := p
    cases e
    exact ⟨⟨ε, pd, pds, _, Cs, w, rfl, hw, finTodo_sound hf hv hp, hcs⟩, hb⟩
  · cases e
theorem resume_res {f : Fr} {v : V} {x : Res} (e : resume f cs h v = .inr x) : ∃ s, x = .bad s := by
  obtain ⟨fn, nt, defs, kind, rnd, mode, tm, todo⟩ := f
  change fin2 fn nt defs kind rnd mode cs h (finTodo nt tm todo v) = _ at e
  unfold fin2 at e
  split at e
  · cases e
  · cases e; exact ⟨_, rfl⟩
theorem Sim.of_mr {r : R} {m m' : Machine} (hs : Steps P m m') (h1 : ∀ s, r = .inl s → MR P C w0 f0 cs0 s m') (h2 : ∀ x, r = .inr x → ∃ s, x = .bad s) : Sim P C w0 f0 cs0 r m := by
  cases r with
  | inl s => exact ⟨m', hs, h1 s rfl⟩
  | inr x => obtain ⟨s, rfl⟩ := h2 x rfl; trivial
theorem resume_sim {f : Fr} {F : Frame} {v : V} {y : Value} {m : Machine} (hf : FrR C ε true pd f F) (hcs : FrRs C ε pds cs Cs) (hw : WR w0 ε (pd ++ pds.flatten) h w) (hv : VR ε v y) (hb : BotR f0 cs f.fn f.kind f.rnd)
    (hs : Steps P m (lone (F.finish y) (Cs ++ cs0) w)) : Sim P C w0 f0 cs0 (resume f cs h v) m :=
  .of_mr hs (fun _ e => resume_mr hf hcs hw hv hb e) (fun _ e => resume_res e)
end
end Go.Lev
namespace Go.Lev
open Go
theorem BotR.push {f0 : Nat} {cs : List Fr} {f : Fr} {x : Nat} {y : CallKind} {z : Option Nat} (h : BotR f0 cs f.fn f.kind f.rnd) : BotR f0 (f :: cs) x y z := by
  unfold BotR at *
  cases cs with
  | nil => exact h
  | cons c cs => rw [List.getLast?_cons_cons]; revert h; cases hg : (c :: cs).getLast? with
    | none => simp at hg
    | some g => exact id
theorem BotR.pop {f0 : Nat} {cs : List Fr} {f : Fr} {x : Nat} {y : CallKind} {z : Option Nat} (h : BotR f0 (f :: cs) x y z) : BotR f0 cs f.fn f.kind f.rnd := by
  unfold BotR at *
  cases cs with
  | nil => exact h
  | cons c cs => rw [List.getLast?_cons_cons] at h; revert h; cases hg : (c :: cs).getLast? with
    | none => simp at hg
    | some g => exact id

section
variable {P : Program} {C : Ctx} {w0 : World} {f0 : Nat} {cs0 : List Frame} {ε : Env} {pd : Pd} {pds : List Pd} {h : Hp} {w : World} {Cs : List Frame} {cs : List Fr}

/-- a function is entered -/
theorem enter_mr (hC : CtxOk P C) {g : Nat} {args : List V} {xs : Array Value} {kind : CallKind} {i : FI} (hi : C.fi g = some i) (hok : i.ok = true) (hx : VRs ε args xs.toList) (hcs : FrRs C ε pds cs Cs)
    (hw : WR w0 ε pds.flatten h w) (hkd : kind = .normal ∨ kind = .deferred) (hb : BotR f0 cs g kind none) {s : St} (e : enterR C g args kind cs h = .inl s) :
    MR P C w0 f0 cs0 s (lone (Frame.enter P g xs kind) (Cs ++ cs0) w) := by
  unfold enterR enter2 at e
  rw [hi] at e
  simp only at e
  unfold enter3 at e
  split at e
  · rename_i tm hput
    cases e
    obtain ⟨fn, hfn, h1, h2, _⟩ := (hC.fs g i hi).fn
    have hbody := (h1 hok).1
    have hlen := hx.length
    simp only [Array.length_toList] at hlen
    have hE : Frame.enter P g xs kind = { fn := g, tmps := xs ++ Array.replicate (i.nt - xs.size) undef, todo := [.code i.body], defers := [], mode := .run, kind := kind } := by
      simp [Frame.enter, hfn, hbody, h2]
    rw [hE]
    refine ⟨⟨ε, [], pds, _, Cs, w, rfl, by simpa using hw, ⟨rfl, rfl, hkd, rfl, rfl, rfl, fun _ => .plain ?_ rfl ?_, fun e => absurd rfl e⟩, hcs⟩, hb⟩
    · show ItRs ε [.code i.body] [.code i.body]
      rw [ItRs]; exact ⟨_, _, rfl, rfl, rfl⟩
    · refine ⟨?_, fun t => ?_⟩
      · show (xs ++ Array.replicate (i.nt - xs.size) undef).size = max args.length i.nt
        simp; omega
      · show VR ε (tm.get undefV t) ((xs ++ Array.replicate (i.nt - xs.size) undef).getD t undef)
        rw [putRow_get args _ tm 0 hput t]
        rw [Array.getD_eq_getD_getElem?]
        by_cases ht : t < args.length
        · rw [if_pos (by omega), Nat.sub_zero]
          obtain ⟨y, g1, g2⟩ := hx.at t ht
          rw [Array.getElem?_append_left (by omega)]
          rw [Array.getElem?_toList] at g1
          rw [g1]
          have hsome : args[t]? = some args[t] := List.getElem?_eq_getElem ht
          rw [hsome] at g2 ⊢; exact g2
        · rw [if_neg (by omega)]
          have : undefTree.get undefV t = undefV := T.get_full _ _ _
          rw [this, Array.getElem?_append_right (by omega)]
          have hu : VR ε undefV undef := by rw [undefV, VR]; exact ⟨[], VRs.nil, rfl⟩
          rw [Array.getElem?_replicate]
          split <;> exact hu
  · cases e
theorem enter_res {g : Nat} {args : List V} {kind : CallKind} {x : Res} (e : enterR C g args kind cs h = .inr x) : ∃ s, x = .bad s := by
  unfold enterR enter2 at e
  split at e
  · unfold enter3 at e
    split at e
    · cases e
    · cases e; exact ⟨_, rfl⟩
  · cases e; exact ⟨_, rfl⟩

/-- slots that may have been written: nobody knows them -/
theorem clobber_get : ∀ (l : List Oper) (tm tm' : T V), clobber l tm = some tm' → ∀ t, tm'.get undefV t = .any ∨ (tm'.get undefV t = tm.get undefV t ∧ ∀ o ∈ l, o.dst ≠ some t)
  | [], tm, tm', h, t => by cases h; exact .inr ⟨rfl, by simp⟩
  | o :: l, tm, tm', h, t => by
    unfold clobber at h
    split at h
    · rename_i hd
      rcases clobber_get l tm tm' h t with e | ⟨e, g⟩
      · exact .inl e
      · exact .inr ⟨e, fun o' ho' => by
          rcases List.mem_cons.1 ho' with rfl | ho'
          · rw [hd]; simp
          · exact g o' ho'⟩
    · rename_i d hd
      split at h
      · rename_i tm1 hset
        rcases clobber_get l tm1 tm' h t with e | ⟨e, g⟩
        · exact .inl e
        · rw [T.get_set hset] at e
          by_cases hdt : t = d
          · rw [if_pos hdt] at e; exact .inl e
          · rw [if_neg hdt] at e
            exact .inr ⟨e, fun o' ho' => by
              rcases List.mem_cons.1 ho' with rfl | ho'
              · rw [hd]; intro e'; exact hdt (Option.some.inj e').symm
              · exact g o' ho'⟩
      · cases h

/-- the frame panics -/
theorem raise_mr {wt : Bool} {f : Fr} {F : Frame} {c : List (V × Bool)} {c' : List PanicEntry} (hf : FrR C ε wt pd f F) (hcs : FrRs C ε pds cs Cs) (hw : WR w0 ε (pd ++ pds.flatten) h w) (hc : ChR ε c c') (hb : BotR f0 cs f.fn f.kind f.rnd)
    {s : St} (e : raiseF f c cs h = .inl s) : MR P C w0 f0 cs0 s (lone (F.raise c') (Cs ++ cs0) w) := by
  obtain ⟨fn, nt, defs, kind, rnd, mode, tm, todo⟩ := f
  have hw' : WR w0 ε ([] ++ pds.flatten) h w := hw.weaken (by simp)
  have hmo : ∃ m', (F.raise c') = { F with mode := m' } ∧ MoR ε (raiseMo mode c) m' ∧ raiseMo mode c ≠ .run := by
    have hm := hf.mode
    unfold Frame.raise raiseMo
    cases mode with
    | run => have hm : F.mode = .run := hm; rw [hm]; exact ⟨_, rfl, ⟨c', hc, rfl⟩, by simp⟩
    | ret => have hm : F.mode = .returning := hm; rw [hm]; exact ⟨_, rfl, ⟨c', hc, rfl⟩, by simp⟩
    | pan d => obtain ⟨d', hd, hm⟩ := hm; rw [hm]; exact ⟨_, rfl, ⟨c' ++ d', hc.append hd, rfl⟩, by simp⟩
  obtain ⟨m', hr, hmR, hne⟩ := hmo
  rw [hr]
  have mk : ∀ (tm' : T V), tmR ε tm' nt F.tmps → MR P C w0 f0 cs0 ⟨⟨fn, nt, defs, kind, rnd, cs⟩, raiseMo mode c, tm', h, []⟩ (lone { F with mode := m' } (Cs ++ cs0) w) := by
    intro tm' htm
    exact ⟨⟨ε, [], pds, _, Cs, w, rfl, hw', ⟨hf.fn, hf.kind, hf.kd, hf.rnd, hmR, hf.defs, fun e => absurd e hne, fun _ => ⟨rfl, rfl, htm⟩⟩, hcs⟩, hb⟩
  have plain : (∀ r k, todo ≠ .dr r :: k) → tmR ε tm nt F.tmps := by
    intro hn
    cases hm : mode with
    | run =>
      have := hf.run hm
      unfold TR at this
      split at this
      · rename_i r k e; simp only at e; exact absurd e (hn r k)
      · exact this.2.2
    | ret => exact (hf.idle (by rw [hm]; simp)).2.2
    | pan d => exact (hf.idle (by rw [hm]; simp)).2.2
  unfold raiseF at e
  simp only at e
  split at e
  · rename_i r k
    split at e
    · rename_i tm1 hcl
      cases e
      refine mk tm1 ?_
      cases hm : mode with
      | run =>
        obtain ⟨l, D, bl, k', e1, hk, hd, _⟩ := hf.run hm
        refine ⟨hd.size, fun t => ?_⟩
        rcases clobber_get _ _ _ hcl t with e | ⟨e, g⟩
        · rw [e]; trivial
        · rw [e]; exact hd.slots t fun i o ho hd' => absurd hd' (g o (Array.mem_toList_iff.2 (Array.mem_of_getElem? ho)))
      | ret => have := (hf.idle (by rw [hm]; simp)).1; simp at this
      | pan d => have := (hf.idle (by rw [hm]; simp)).1; simp at this
    · cases e
  · rename_i hn
    cases e
    exact mk tm (plain fun r k e => hn r k e)
theorem raise_res {f : Fr} {c : List (V × Bool)} {x : Res} (e : raiseF f c cs h = .inr x) : ∃ s, x = .bad s := by
  obtain ⟨fn, nt, defs, kind, rnd, mode, tm, todo⟩ := f
  unfold raiseF at e
  simp only at e
  split at e
  · split at e
    · cases e
    · cases e; exact ⟨_, rfl⟩
  · cases e

/-- recover -/
theorem tryRec_sound {f : Fr} {F : Frame} {wt : Bool} (hf : FrR C ε wt pd f F) (hcs : FrRs C ε pds cs Cs) (hb : BotR f0 cs f.fn f.kind f.rnd) :
    (∃ v' Cs', tryRecover F (Cs ++ cs0) = some (v', Cs' ++ cs0) ∧ VR ε (tryRecF f.kind cs).1 v' ∧ FrRs C ε pds (tryRecF f.kind cs).2 Cs' ∧ BotR f0 (tryRecF f.kind cs).2 f.fn f.kind f.rnd) ∨
    (tryRecover F (Cs ++ cs0) = none ∧ tryRecF f.kind cs = (.nilif, cs)) := by
  rcases hf.kd with hk | hk
  · right
    have hK : F.kind = .normal := hf.kind.trans hk
    refine ⟨?_, by rw [hk]; rfl⟩
    unfold tryRecover; rw [hK]
  · have hK : F.kind = .deferred := hf.kind.trans hk
    cases cs with
    | nil => rw [hk] at hb; obtain ⟨_, h, _⟩ := hb; cases h
    | cons c rest =>
      rw [FrRs] at hcs
      obtain ⟨pd1, pds1, Fc, Fs, h1, h2, rfl, rfl⟩ := hcs
      have hm := h1.mode
      rw [hk]
      unfold tryRecF
      simp only
      split
      · rename_i v older hcm
        left
        rw [hcm] at hm
        obtain ⟨c', hch, hFm⟩ := hm
        rw [ChR] at hch
        obtain ⟨y, l', hy, hl', rfl⟩ := hch
        refine ⟨y, { Fc with mode := .panicking ({ v := y, recovered := true } :: l') } :: Fs, ?_, hy, ?_, ?_⟩
        · simp only [tryRecover, hK, List.cons_append, hFm]
        · rw [FrRs]
          refine ⟨pd1, pds1, _, Fs, ?_, h2, rfl, rfl⟩
          refine ⟨h1.fn, h1.kind, h1.kd, h1.rnd, ⟨_, ?_, rfl⟩, h1.defs, (fun e => by cases e), fun _ => h1.idle (by rw [hcm]; simp)⟩
          rw [ChR]
          exact ⟨y, l', hy, hl', rfl⟩
        · have := hb.pop
          exact BotR.push (f := { c with mode := .pan ((v, true) :: older) }) this
      · rename_i hn
        right
        refine ⟨?_, rfl⟩
        simp only [tryRecover, hK, List.cons_append]
        split
        · rename_i v older hcm
          exfalso
          cases hmm : c.mode with
          | run => rw [hmm] at hm; have hm : Fc.mode = .run := hm; rw [hm] at hcm; cases hcm
          | ret => rw [hmm] at hm; have hm : Fc.mode = .returning := hm; rw [hm] at hcm; cases hcm
          | pan d =>
            rw [hmm] at hm
            obtain ⟨c', hch, hFm⟩ := hm
            rw [hFm] at hcm
            cases d with
            | nil => rw [ChR] at hch; subst hch; cases hcm
            | cons p ps =>
              rw [ChR] at hch
              obtain ⟨y, l', hy, hl', rfl⟩ := hch
              obtain ⟨v1, r1⟩ := p
              simp at hcm
              obtain ⟨⟨_, h3⟩, _⟩ := hcm
              subst h3
              exact hn _ _ hmm
        · rfl
end
end Go.Lev
namespace Go.Lev
open Go
section
variable {P : Program} {C : Ctx} {w0 : World} {f0 : Nat} {cs0 : List Frame} {ε : Env} {pd : Pd} {pds : List Pd} {h : Hp} {w : World} {Cs : List Frame} {cs : List Fr}

theorem FrRs.push {f : Fr} {F : Frame} (hf : FrR C ε true pd f F) (hcs : FrRs C ε pds cs Cs) : FrRs C ε (pd :: pds) (f :: cs) (F :: Cs) := by
  rw [FrRs]; exact ⟨pd, pds, F, Cs, hf, hcs, rfl, rfl⟩

theorem branch_mem {f : Fr} : ∀ (l : List (V × Hp)) (r : List St), branchF f cs l = some r → ∀ p ∈ l, ∃ s ∈ r, resume f cs p.2 p.1 = .inl s
  | [], r, h, p, hp => by cases hp
  | q :: l, r, h, p, hp => by
    unfold branchF at h
    split at h
    · rename_i s r' h1 h2
      cases h
      rcases List.mem_cons.1 hp with rfl | hp
      · exact ⟨s, by simp, h1⟩
      · obtain ⟨s', hs', e⟩ := branch_mem l r' h2 p hp
        exact ⟨s', List.mem_cons_of_mem _ hs', e⟩
    · cases h

theorem defer_out {C : Ctx} {h : Hp} {tm : T V} (c : Call) : operTab (.defer c) C h tm = .bad ∨ ∃ d h', operTab (.defer c) C h tm = .defr d h' := by
  show eDefer c C h tm = .bad ∨ ∃ d h', eDefer c C h tm = .defr d h'
  unfold eDefer
  split
  · unfold defrV; split
    · exact .inr ⟨_, _, rfl⟩
    · exact .inl rfl
  · exact .inl rfl

theorem WR.below {w' : World} {pd : Pd} (hw : WR w0 ε pd h w) (hb : RowKit.Below w.heap.size w w') : WR w0 ε pd h w' := by
  have hk : ∀ c o, w.heap[c]? = some o → w'.heap[c]? = some o := fun c o ho => by
    have := (Array.getElem?_eq_some_iff.1 ho).1
    rw [hb.block c this]; exact ho
  constructor
  · refine ⟨fun b c hc => ?_, hw.hr.gl⟩
    obtain ⟨o, ho, hr⟩ := hw.hr.blk b c hc
    exact ⟨o, hk c o ho, hr⟩
  · exact hw.inj
  · exact hw.fresh
  · exact hw.base
  · intro c hc
    rw [hb.block c (by have := hw.size; omega)]
    exact hw.old c hc
  · have := hw.size; have := hb.size; omega
  · exact hb.os.trans hw.os
  · exact hb.output.trans hw.out
  · exact hb.tape.trans hw.tape
  · exact hw.pend
  · exact hw.pn
  · exact hw.nxd
theorem strsAt_sound {cs : T V} : ∀ (n o : Nat) (l : List (List UInt8)), strsAt cs o n = some l → l.length = n ∧ ∀ (j : Nat) s, l[j]? = some s → cs.get .any (o + j) = .str s
  | 0, o, l, e => by simp only [strsAt, Option.some.injEq] at e; subst e; simp
  | n + 1, o, l, e => by
    unfold strsAt at e
    split at e
    · rename_i s hs
      split at e
      · rename_i r hr
        cases e
        obtain ⟨h1, h2⟩ := strsAt_sound n _ r hr
        refine ⟨by simp [h1], fun j t hj => ?_⟩
        cases j with
        | zero => simp at hj; subst hj; simpa using hs
        | succ j =>
          have := h2 j t (by simpa using hj)
          rw [show o + (j + 1) = Nat.succ o + j by omega]; exact this
      · cases e
    · cases e
theorem prim_sound (hC : CtxOk P C) {pd : Pd} (hw : WR w0 ε pd h w) {f n : Nat} {args : List V} {v : V} {xs : Array Value} (hx : VRs ε args xs.toList) (hp : findPr f C.pr = some n) (e : primF h f n args = .cal f n args v h) :
    Calls P f xs w (fun e w' => ∃ y, e = .returned y ∧ RowKit.Below w.heap.size w w' ∧ VR ε v y) := by
  have hok := hC.prim f n hp
  unfold primF at e
  split at e
  · unfold prJoin at e
    split at e
    · rename_i x sep
      split at e
      · rename_i l hl
        split at e
        · rename_i hsh
          simp only [Out.cal.injEq, true_and, and_true] at e
          subst e
          obtain ⟨X, ys, hX, hys, hxe⟩ := hx.cons_inv
          obtain ⟨S, zs, hS, hzs, rfl⟩ := hys.cons_inv
          have := hzs.nil_inv; subst this
          have hS : S = .string ⟨sep.toArray⟩ := by rw [VR] at hS; exact hS
          subst hS
          unfold strsOf at hl
          split at hl
          · rename_i b o d n cp
            split at hl
            · rename_i e2 sz m cs ex tl hd hg
              have hd := beq_nat hd; subst hd
              split at hl
              · rename_i hle
                rw [Bool.and_eq_true] at hle
                have h1 : o + n ≤ m := Nat.le_of_ble_eq_true hle.1
                have h2 : 1 ≤ n := Nat.le_of_ble_eq_true hle.2
                obtain ⟨q1, q2⟩ := strsAt_sound n o l hl
                rw [VR] at hX
                obtain ⟨c, K, hc, hK, hn, rfl⟩ := hX
                rw [if_neg (by omega), Nat.add_zero] at hxe
                obtain ⟨ob, ho, hr⟩ := hw.hr.blk b c hc
                rw [hg] at hr
                obtain ⟨A, fz, rfl, hcell, _⟩ := hr
                unfold shortB at hsh
                rw [Bool.and_eq_true] at hsh
                have s1 := Nat.le_of_ble_eq_true hsh.1
                have s2 := Nat.le_of_ble_eq_true hsh.2
                have hback : (l.map fun s => (⟨s.toArray⟩ : ByteArray)).map (·.data.toList) = l := by
                  rw [List.map_map]
                  conv => rhs; rw [← List.map_id l]
                  rfl
                have hj := hok c o K (l.map fun s => (⟨s.toArray⟩ : ByteArray)) ⟨sep.toArray⟩ w (fun j x hjx => by
                  rw [List.getElem?_map] at hjx
                  obtain ⟨s, hs, rfl⟩ := Option.map_eq_some_iff.1 hjx
                  have hlt : j < l.length := (List.getElem?_eq_some_iff.1 hs).1
                  obtain ⟨y, hy1, hy2⟩ := hcell (o + j) (by omega)
                  rw [q2 j s hs, VR] at hy2
                  rw [cell_of ho, hy1, hy2]) (Array.getElem?_eq_some_iff.1 ho).1 (by simpa using s1) (by simpa [q1] using hn) (by rw [hback]; simpa using s2)
                rw [hback] at hj
                have hxs : xs = #[.slice (some ⟨c, o, none⟩) (l.map fun s => (⟨s.toArray⟩ : ByteArray)).length K, .string ⟨sep.toArray⟩] := by
                  apply Array.ext'; simpa [q1] using hxe
                rw [hxs]
                exact hj.mono fun e w' ⟨he, hb⟩ => ⟨_, he, hb, by rw [VR]⟩
              · cases hl
            · cases hl
          · cases hl
        · cases e
      · cases e
    · cases e
  · cases e

/-- what becomes of an operation's outcome -/
theorem out_sim (hC : CtxOk P C) {f : Fr} {F : Frame} (hf : FrR C ε true pd f F) (hm : f.mode = .run) (hcs : FrRs C ε pds cs Cs) (hw : WR w0 ε (pd ++ pds.flatten) h w) (hb : BotR f0 cs f.fn f.kind f.rnd)
    {out : Out} {s : Sem Next} (hst : (F.roundOf = none ∨ (out ≠ .bad ∧ ∀ d h', out ≠ .defr d h')) → stepG P true { frame := F, callers := Cs ++ cs0, status := .running, dying := none } w = stepG.apply P true F (Cs ++ cs0) none s w)
    (hk : ∀ d a b c k, F.todo ≠ .call d a b c :: k) (ho : OutR C w0 ε (pd ++ pds.flatten) w h out (s.run P w)) :
    Sim P C w0 f0 cs0 (outF C f cs h out) (lone F (Cs ++ cs0) w) := by
  cases out with
  | val v h' =>
    obtain ⟨ε', w', y, nx, h1, h2, h3, h4, h5⟩ := ho
    refine resume_sim (hf.mono h3) (hcs.mono h3) h4 h5 hb (.one (step_lone_go ?_))
    rw [hst (.inr ⟨by simp, by intro d h' e; cases e⟩)]
    rcases h2 with rfl | ⟨rfl, rfl⟩ <;> simp [stepG.apply, h1]
  | enter g args h' =>
    obtain ⟨ε', w', xs, h1, h3, h4, h5, i, hi, hok⟩ := ho
    refine .of_mr (m' := lone (Frame.enter P g xs .normal) ((F :: Cs) ++ cs0) w') (.one (step_lone_go ?_)) (fun s' e => enter_mr hC hi hok h5 (FrRs.push (hf.mono h3) (hcs.mono h3)) h4 (.inl rfl) (BotR.push hb) e) (fun x e => enter_res e)
    rw [hst (.inr ⟨by simp, by intro d h' e; cases e⟩)]
    simp [stepG.apply, h1]
    split
    · rename_i h; exact absurd h (hk _ _ _ _ _)
    · rfl
  | round b fn tm nt asg body h' =>
    obtain ⟨c, tmps, h1, rfl, h3, h4⟩ := ho
    refine ⟨lone (Frame.round c fn tmps asg body .normal) ((F :: Cs) ++ cs0) w, .one (step_lone_go ?_), ⟨ε, [], pd :: pds, _, F :: Cs, w, rfl, by simpa using hw, ⟨rfl, rfl, .inl rfl, ⟨c, h3, rfl⟩, rfl, rfl, fun _ => .plain ?_ rfl h4, fun e => absurd rfl e⟩, FrRs.push hf hcs⟩, BotR.push hb⟩
    · rw [hst (.inr ⟨by simp, by intro d h' e; cases e⟩)]
      simp [stepG.apply, h1]
    · show ItRs ε [.code asg, .br, .code body] [.code asg, .beginRound, .code body]
      simp only [ItRs]
      exact ⟨_, _, rfl, ⟨_, _, rfl, ⟨_, _, rfl, rfl, rfl⟩, rfl⟩, rfl⟩
  | defr d h' =>
    obtain ⟨D, h1, rfl, h3⟩ := ho
    show Sim P C w0 f0 cs0 (defR f d cs h' f.rnd) _
    unfold defR
    split
    · trivial
    · rename_i hr
      have hR : F.roundOf = none := by have := hf.rnd; rw [hr] at this; exact this
      have hu : VR ε undefV undef := by rw [undefV, VR]; exact ⟨[], VRs.nil, rfl⟩
      have hf' : FrR C ε true pd (withDef f d) { F with defers := D :: F.defers } := by
        obtain ⟨fn, nt, defs, kind, rnd, mode, tm, todo⟩ := f
        refine ⟨hf.fn, hf.kind, hf.kd, hf.rnd, hf.mode, ?_, hf.run, hf.idle⟩
        show DeRs ε (d :: defs) (D :: F.defers)
        rw [DeRs]; exact ⟨D, _, h3, hf.defs, rfl⟩
      refine resume_sim hf' hcs hw hu (by obtain ⟨fn, nt, defs, kind, rnd, mode, tm, todo⟩ := f; exact hb) (.one (step_lone_go ?_))
      rw [hst (.inl hR)]
      simp [stepG.apply, h1]
  | recv =>
    have h1 : s.run P w = .ok .recover w := ho
    show Sim P C w0 f0 cs0 (recR f f.rnd h (tryRecF f.kind cs)) _
    unfold recR
    split
    · trivial
    · rename_i hr
      have hR : F.roundOf = none := by have := hf.rnd; rw [hr] at this; exact this
      rcases tryRec_sound (cs0 := cs0) hf hcs hb with ⟨v', Cs', g1, g2, g3, g4⟩ | ⟨g1, g2⟩
      · refine resume_sim hf g3 hw g2 g4 (.one (step_lone_go ?_))
        rw [hst (.inl hR)]
        simp [stepG.apply, h1, hR, g1]
      · rw [g2]
        refine resume_sim hf hcs hw (v := .nilif) (y := .nilIface) (by rw [VR]) hb (.one (step_lone_go ?_))
        rw [hst (.inl hR)]
        simp [stepG.apply, h1, hR, g1]
  | pan v =>
    obtain ⟨y, h1, h2⟩ := ho
    refine .of_mr (m' := lone (F.raise [{ v := y, recovered := false }]) (Cs ++ cs0) w) (.one (step_lone_go ?_)) (fun s' e => raise_mr hf hcs hw (c := [(v, false)]) (by rw [ChR]; exact ⟨y, [], h2, rfl, rfl⟩) hb e) (fun x e => raise_res e)
    rw [hst (.inr ⟨by simp, by intro d h' e; cases e⟩)]
    simp [stepG.apply, h1]
  | brs l =>
    obtain ⟨p, hp, ε', w', y, nx, h1, h2, h3, h4, h5⟩ := ho
    show Sim P C w0 f0 cs0 (moreR (branchF f cs l)) _
    cases hbr : branchF f cs l with
    | none => trivial
    | some r =>
      obtain ⟨s', hs', e⟩ := branch_mem l r hbr p hp
      refine ⟨s', hs', _, .one (step_lone_go ?_), resume_mr (hf.mono h3) (hcs.mono h3) h4 h5 hb e⟩
      rw [hst (.inr ⟨by simp, by intro d h' e; cases e⟩)]
      rcases h2 with rfl | ⟨rfl, rfl⟩ <;> simp [stepG.apply, h1]
  | cal f2 n2 args v h' =>
    obtain ⟨xs, h1, rfl, h3, h4, h5⟩ := ho
    obtain ⟨e, w', fr, ⟨y, rfl, hb', hv⟩, hcome, _, hleave⟩ := prim_sound hC hw h3 h4 h5 ((F :: Cs) ++ cs0)
    have hcome : Steps P (lone (Frame.enter P f2 xs .normal) ((F :: Cs) ++ cs0) w) (lone fr ((F :: Cs) ++ cs0) w') := hcome
    refine resume_sim hf hcs (hw.below hb') hv hb ((Steps.one (step_lone_go ?_)).trans (hcome.trans (.one (step_leave_returned hleave))))
    rw [hst (.inr ⟨by simp, by intro d h' e; cases e⟩)]
    simp [stepG.apply, h1]
    split
    · rename_i h; exact absurd h (hk _ _ _ _ _)
    · rfl
  | bad => trivial
end
end Go.Lev
namespace Go.Lev
open Go
/-- an order that is drawn is one in which the operations may be done -/
theorem lin_go {ops : Array Oper} (hlt : ∀ (i : Nat) (o : Oper), ops[i]? = some o → ∀ e ∈ o.after, Region.binds .any e = true → e.on < i) : ∀ (fuel t : Nat) (listed : Array Bool) (D : List Nat),
    (∀ i, i < ops.size → listed[i]? = some (decide (i ∈ D))) → listed.size = ops.size → ((List.range ops.size).filter (fun i => decide (i ∉ D))).length ≤ fuel →
    Lin ops D (Region.linearise.go .any ops fuel t listed [])
  | 0, t, listed, D, hl, hs, hf => by
    simp only [Region.linearise.go, List.reverse_nil]
    refine .nil fun i hi => ?_
    have : (List.range ops.size).filter (fun i => decide (i ∉ D)) = [] := List.eq_nil_of_length_eq_zero (by omega)
    rw [List.filter_eq_nil_iff] at this
    have := this i (List.mem_range.2 hi)
    simpa using this
  | fuel + 1, t, listed, D, hl, hs, hf => by
    simp only [Region.linearise.go]
    generalize hrs : ((List.range ops.size).filter fun i => !listed.getD i true && ((ops[i]?).map (·.after.all fun e => !Region.binds .any e || listed.getD e.on false)).getD false) = rs
    cases hi : rs[t % rs.length]? with
    | none =>
      simp only [List.reverse_nil]
      have hnil : rs = [] := by
        cases hr : rs with
        | nil => rfl
        | cons x xs =>
          rw [hr] at hi
          have hlt : t % (x :: xs).length < (x :: xs).length := Nat.mod_lt _ (by simp)
          simp at hi
          simp at hlt
          omega
      rw [hnil] at hrs
      refine .nil fun i hi => ?_
      induction i using Nat.strongRecOn with
      | ind i ih =>
        by_cases hD : i ∈ D
        · exact hD
        · exfalso
          rw [List.filter_eq_nil_iff] at hrs
          refine hrs i (List.mem_range.2 hi) ?_
          have ho : ops[i]? = some ops[i] := Array.getElem?_eq_getElem hi
          rw [ho, Array.getD_eq_getD_getElem?, hl i hi]
          simp only [Option.getD_some, hD, decide_false, Bool.not_false, Option.map_some, Bool.true_and, Array.all_eq_true_iff_forall_mem]
          intro e he
          cases hb : Region.binds .any e with
          | false => rfl
          | true =>
            have hlt' := hlt i _ ho e he hb
            have := ih e.on hlt' (by omega)
            rw [Array.getD_eq_getD_getElem?, hl e.on (by omega)]
            simp [this]
    | some i =>
      simp only
      rw [linearise_go_acc, List.reverse_singleton, List.singleton_append]
      have hmem : i ∈ rs := List.mem_of_getElem? hi
      rw [← hrs, List.mem_filter, List.mem_range] at hmem
      obtain ⟨hi1, hi2⟩ := hmem
      have ho : ops[i]? = some ops[i] := Array.getElem?_eq_getElem hi1
      rw [ho, Array.getD_eq_getD_getElem?, hl i hi1] at hi2
      simp only [Option.getD_some, Option.map_some, Bool.and_eq_true, Bool.not_eq_true', decide_eq_false_iff_not, Array.all_eq_true_iff_forall_mem, Bool.or_eq_true] at hi2
      obtain ⟨hD, hall⟩ := hi2
      refine .cons ho hD (fun e he hb => ?_) (lin_go hlt fuel _ _ (i :: D) ?_ ?_ ?_)
      · rcases hall e he with h | h
        · rw [hb] at h; cases h
        · have := hlt i _ ho e he hb
          rw [Array.getD_eq_getD_getElem?, hl e.on (by omega)] at h
          simpa using h
      · intro j hj
        by_cases e : j = i
        · subst e
          rw [Array.getElem?_setIfInBounds, if_pos rfl, if_pos (by omega)]; simp
        · rw [Array.getElem?_setIfInBounds_ne (fun e' => e e'.symm), hl j hj]
          simp [e]
      · simp [hs]
      · have h1 : (List.range ops.size).filter (fun j => decide (j ∉ i :: D)) = ((List.range ops.size).filter (fun j => decide (j ∉ D))).filter (fun j => decide (j ≠ i)) := by
          rw [List.filter_filter]
          congr 1; funext j
          simp only [List.mem_cons, not_or, Bool.decide_and]
        rw [h1]
        have : (((List.range ops.size).filter (fun j => decide (j ∉ D))).filter (fun j => decide (j ≠ i))).length < ((List.range ops.size).filter (fun j => decide (j ∉ D))).length := by
          rw [List.length_filter_lt_length_iff_exists]
          exact ⟨i, List.mem_filter.2 ⟨List.mem_range.2 hi1, by simpa using hD⟩, by simp⟩
        omega

theorem lin_any {ops : Array Oper} (hlt : ∀ (i : Nat) (o : Oper), ops[i]? = some o → ∀ e ∈ o.after, Region.binds .any e = true → e.on < i) (t : Nat) : Lin ops [] (Region.linearise .any ops t) := by
  refine lin_go hlt _ _ _ [] (fun i hi => ?_) (by simp) ?_
  · rw [Array.getElem?_replicate, if_pos hi]; simp
  · have := List.length_filter_le (fun i => decide (i ∉ ([] : List Nat))) (List.range ops.size)
    simpa using this

/-- a region that draws its order begins -/
theorem DrR.start {C : Ctx} {ε : Env} {ops : Array Oper} {tm : T V} {nt : Nat} {tmps : Array Value} {l : List Nat} (hok : drOk ops.toList (ancF ops.toList []) = true) (hlin : Lin ops [] l) (htm : tmR ε tm nt tmps) :
    DrR C ε [] (fun _ => 0) ⟨ops, ancF ops.toList [], effsF ops.toList 0, 0, 0, 0⟩ tm nt tmps l [] := by
  constructor
  · exact hlin
  · exact hok
  · rfl
  · intro i hi; cases hi
  · intro i hi; cases hi
  · symm; rw [List.filter_eq_self]; intro i _; simp
  · intro i; simp
  · intro i; simp
  · intro i hi; cases hi
  · intro i hi; simp at hi
  · intro i o hi; simp at hi
  · intro i o d _ hi; simp at hi
  · exact htm.1
  · intro t _; exact htm.2 t
  · rintro i o ⟨_, _, h, _⟩; simp at h
  · rintro i o i' o' ⟨_, _, h, _⟩; simp at h
end Go.Lev
namespace Go.Lev
open Go
section
variable {P : Program} {C : Ctx} {w0 : World} {f0 : Nat} {cs0 : List Frame} {ε : Env} {pd : Pd} {pds : List Pd} {h : Hp} {w : World} {Cs : List Frame} {cs : List Fr}

theorem run_getLoop {c : Nat} {r : Loop} (h : w.heap[c]? = some (.loop r)) : (Instr.getLoop c).run P w = .ok r w := by
  simp [Instr.getLoop, run_getObj h]
/-- a loop's record is turned -/
theorem setLoop_sound (hw : WR w0 ε pd h w) {b c : Nat} (hb : ε.φ b = some c) {st : LoopState} {pend : Option Code} {h' : Hp} (e : setLoop h b st pend = some h') :
    ∃ r : Loop, w.heap[c]? = some (.loop r) ∧ ∀ w', SameBut w w' c (.loop { r with state := st, pending := pend }) → WR w0 ε pd h' w' := by
  unfold setLoop at e
  split at e
  · rename_i st0 pend0 fn tm nt ps asg body df hg
    obtain ⟨o, ho, hr⟩ := hw.hr.blk b c hb
    rw [hg] at hr
    obtain ⟨tmps, df', rfl, h1, h2⟩ := hr
    refine ⟨_, ho, fun w' hs => ?_⟩
    exact hw.set hb e (by rw [hg]; simp) hs.heap ⟨tmps, df', rfl, h1, h2⟩ hs.size hs.os hs.out hs.tape
  · cases e
theorem loopIs_sound (hw : WR w0 ε pd h w) {b c : Nat} (hb : ε.φ b = some c) {st : LoopState} {pend : Option Code} {df : Nat} (e : loopIs h b = some (st, pend, df)) :
    ∃ r : Loop, w.heap[c]? = some (.loop r) ∧ r.state = st ∧ r.pending = pend ∧ ε.φ df = some r.defers := by
  unfold loopIs at e
  split at e
  · rename_i st0 pend0 fn tm nt ps asg body df0 hg
    cases e
    obtain ⟨o, ho, hr⟩ := hw.hr.blk b c hb
    rw [hg] at hr
    obtain ⟨tmps, df', rfl, h1, h2⟩ := hr
    exact ⟨_, ho, rfl, rfl, h2⟩
  · cases e

/-- back to the caller -/
theorem back_sim {F : Frame} {kind : CallKind} {x : Nat} {z : Option Nat} {v : V} {y : Value} {w1 : World} (hcs : FrRs C ε pds cs Cs) (hw : WR w0 ε pds.flatten h w) (hv : VR ε v y) (hb : BotR f0 cs x kind z) (hkF : F.kind = kind)
    (hst : (stepG P true { frame := F, callers := Cs ++ cs0, status := .running, dying := none } w1).bare = (doReturn P true F (Cs ++ cs0) none y w).bare) :
    Sim P C w0 f0 cs0 (backF kind cs h v) (lone F (Cs ++ cs0) w1) := by
  cases cs with
  | nil => trivial
  | cons c rest =>
    rw [FrRs] at hcs
    obtain ⟨pd1, pds1, Fc, Fs, h1, h2, rfl, rfl⟩ := hcs
    rw [List.flatten_cons] at hw
    unfold backF
    simp only
    cases kind with
    | normal =>
      refine resume_sim h1 h2 hw hv hb.pop (.one (step_lone_go ?_))
      rw [hst]; simp [doReturn, hkF]
    | deferred =>
      simp only
      unfold afterDef
      have hm := h1.mode
      split
      · rename_i v1 older hcm
        rw [hcm] at hm
        obtain ⟨c', hch, hFm⟩ := hm
        rw [ChR] at hch
        obtain ⟨y1, l', hy1, hl', rfl⟩ := hch
        have hdrop : l'.dropWhile (fun e => !e.goexit) = [] := by
          clear hcm hFm
          induction older generalizing l' with
          | nil => rw [ChR] at hl'; subst hl'; rfl
          | cons p ps ih =>
            rw [ChR] at hl'; obtain ⟨_, l2, _, hl2, rfl⟩ := hl'
            simpa using ih _ hl2
        refine ⟨lone { Fc with mode := .returning } (Fs ++ cs0) w, .one (step_lone_go ?_), ⟨ε, pd1, pds1, _, Fs, w, rfl, hw, ?_, h2⟩, hb.pop⟩
        · rw [hst]; simp [doReturn, hkF, hFm, hdrop]
        · exact ⟨h1.fn, h1.kind, h1.kd, h1.rnd, rfl, h1.defs, (fun e => by cases e), fun _ => h1.idle (by rw [hcm]; simp)⟩
      · rename_i hn
        refine ⟨lone Fc (Fs ++ cs0) w, .one (step_lone_go ?_), ⟨ε, pd1, pds1, _, Fs, w, rfl, hw, ?_, h2⟩, hb.pop⟩
        · rw [hst]
          simp only [doReturn, hkF, List.cons_append]
          split
          · rename_i v1 g1 older hFm
            exfalso
            cases hmm : c.mode with
            | run => rw [hmm] at hm; have hm : Fc.mode = .run := hm; rw [hm] at hFm; cases hFm
            | ret => rw [hmm] at hm; have hm : Fc.mode = .returning := hm; rw [hm] at hFm; cases hFm
            | pan d =>
              rw [hmm] at hm
              obtain ⟨c', hch, hFm'⟩ := hm
              rw [hFm'] at hFm
              cases d with
              | nil => rw [ChR] at hch; subst hch; cases hFm
              | cons p ps =>
                rw [ChR] at hch
                obtain ⟨y, l', hy, hl', rfl⟩ := hch
                obtain ⟨v1, r1⟩ := p
                simp at hFm
                obtain ⟨⟨_, h3, _⟩, _⟩ := hFm
                subst h3
                exact hn _ _ hmm
          · rfl
        · obtain ⟨fn, nt, defs, kind, rnd, mode, tm, todo⟩ := c
          exact h1.loose
    | wrapped => trivial
    | report => trivial
    | early => trivial

/-- the frame is left -/
theorem leave_sim {b : Ba} {tm : T V} {k : List It} {tmps : Array Value} {k' l' : List Item} {ds : List Deferred} {rnd : Option Nat} {jump : Option Code} (a : At C w0 f0 ε pds b tm h k w tmps k' ds rnd Cs)
    (hst1 : rnd = none → (jump = none ∨ jump = some .ret) → stepG P true { frame := ⟨b.fn, tmps, l', ds, .run, b.kind, rnd⟩, callers := Cs ++ cs0, status := .running, dying := none } w =
      .go { frame := ⟨b.fn, tmps, l', ds, .returning, b.kind, rnd⟩, callers := Cs ++ cs0, status := .running, dying := none } w)
    (hst2 : ∀ l, rnd = some l → ∀ v w', (Instr.endRound l jump).run P w = .ok v w' → (stepG P true { frame := ⟨b.fn, tmps, l', ds, .run, b.kind, rnd⟩, callers := Cs ++ cs0, status := .running, dying := none } w).bare =
      (doReturn P true ⟨b.fn, tmps, l', ds, .run, b.kind, rnd⟩ (Cs ++ cs0) none v w').bare) :
    Sim P C w0 f0 cs0 (leaveF jump C b tm h k) (lone ⟨b.fn, tmps, l', ds, .run, b.kind, rnd⟩ (Cs ++ cs0) w) := by
  unfold leaveF
  have hr := a.rnd
  cases hbr : b.rnd with
  | none =>
    rw [hbr] at hr
    have hr : rnd = none := hr
    subst hr
    simp only
    have fin : (jump = none ∨ jump = some .ret) → Sim P C w0 f0 cs0 (.inl ⟨b, .ret, tm, h, []⟩) (lone ⟨b.fn, tmps, l', ds, .run, b.kind, none⟩ (Cs ++ cs0) w) := by
      intro hj
      refine ⟨lone ⟨b.fn, tmps, l', ds, .returning, b.kind, none⟩ (Cs ++ cs0) w, .one (step_lone_go ?_), ⟨ε, [], pds, _, Cs, w, rfl, by simpa using a.wr, ⟨rfl, rfl, a.kd, a.rnd, rfl, a.ds, (fun e => by cases e), fun _ => ⟨rfl, rfl, a.tm⟩⟩, a.cs⟩, a.bot⟩
      rw [hst1 rfl hj]; rfl
    split
    · exact fin (.inl rfl)
    · split
      · exact fin (.inr rfl)
      · trivial
  | some l =>
    rw [hbr] at hr
    obtain ⟨c, hc, rfl⟩ := hr
    simp only
    unfold leaveRound
    split
    · rename_i h1 hset
      obtain ⟨r, hr1, hr2⟩ := setLoop_sound a.wr hc hset
      obtain ⟨w', g1, g2⟩ := SameBut.setObj (P := P) (o' := .loop { r with state := if jump.isNone then .ready else .done, pending := jump }) hr1 (by simp)
      have hrun : (Instr.endRound c jump).run P w = .ok (.bool jump.isNone) w' := by
        simp only [Instr.endRound, Sem.run_bind, run_getLoop hr1, Result.andThen_ok, Sem.run_pure, g1]
      have hst' : (match jump with | none => LoopState.ready | some _ => .done) = (if jump.isNone then .ready else .done) := by cases jump <;> rfl
      rw [← hst'] at g2
      refine back_sim a.cs (hr2 w' g2) (v := .bool (!isSomeB jump)) (y := .bool jump.isNone) (by rw [VR]; cases jump <;> rfl) a.bot rfl ?_
      exact hst2 c rfl _ _ hrun
    · trivial
end
end Go.Lev
namespace Go.Lev
open Go
section
variable {P : Program} {C : Ctx} {w0 : World} {f0 : Nat} {cs0 : List Frame} {ε : Env} {pd : Pd} {pds : List Pd} {h : Hp} {w : World} {Cs : List Frame} {cs : List Fr}

theorem At.push {b : Ba} {tm : T V} {k : List It} {tmps : Array Value} {k' : List Item} {ds : List Deferred} {rnd : Option Nat} (a : At C w0 f0 ε pds b tm h k w tmps k' ds rnd Cs) {x : It} {i : Item} (hx : ItR ε x i) :
    At C w0 f0 ε pds b tm h (x :: k) w tmps (i :: k') ds rnd Cs :=
  ⟨a.wr, a.tm, by rw [ItRs]; exact ⟨i, k', hx, a.k, rfl⟩, a.ds, a.kd, a.rnd, a.cs, a.bot⟩
theorem At.with {b : Ba} {tm : T V} {k : List It} {tmps : Array Value} {k' : List Item} {ds : List Deferred} {rnd : Option Nat} (a : At C w0 f0 ε pds b tm h k w tmps k' ds rnd Cs) {k2 : List It} {k2' : List Item} (hk : ItRs ε k2 k2') :
    At C w0 f0 ε pds b tm h k2 w tmps k2' ds rnd Cs :=
  ⟨a.wr, a.tm, hk, a.ds, a.kd, a.rnd, a.cs, a.bot⟩
theorem At.turn {ε' : Env} {h' : Hp} {w' : World} {b : Ba} {tm tm' : T V} {k : List It} {tmps tmps' : Array Value} {k' : List Item} {ds : List Deferred} {rnd : Option Nat} (a : At C w0 f0 ε pds b tm h k w tmps k' ds rnd Cs)
    (hle : ε.le ε') (hw : WR w0 ε' pds.flatten h' w') (ht : tmR ε' tm' b.nt tmps') : At C w0 f0 ε' pds b tm' h' k w' tmps' k' ds rnd Cs :=
  ⟨hw, ht, a.k.mono hle, a.ds.mono hle, a.kd, a.rnd.mono hle, a.cs.mono hle, a.bot⟩
theorem At.fr {b : Ba} {tm : T V} {k : List It} {tmps : Array Value} {k' : List Item} {ds : List Deferred} {rnd : Option Nat} (a : At C w0 f0 ε pds b tm h k w tmps k' ds rnd Cs) :
    FrR C ε true [] (b.fr .run tm k) ⟨b.fn, tmps, k', ds, .run, b.kind, rnd⟩ :=
  ⟨rfl, rfl, a.kd, a.rnd, rfl, a.ds, fun _ => .plain a.k rfl a.tm, fun e => absurd rfl e⟩
theorem At.next_sim {b : Ba} {tm : T V} {k : List It} {tmps : Array Value} {k' : List Item} {ds : List Deferred} {rnd : Option Nat} (a : At C w0 f0 ε pds b tm h k w tmps k' ds rnd Cs) {m : Machine}
    (hs : Steps P m (lone ⟨b.fn, tmps, k', ds, .run, b.kind, rnd⟩ (Cs ++ cs0) w)) : Sim P C w0 f0 cs0 (next b tm h k) m := ⟨_, hs, a.mr⟩

/-- a region in the text's order -/
theorem reg_sim (hC : CtxOk P C) {b : Ba} {tm : T V} {k : List It} {tmps : Array Value} {k' : List Item} {ds : List Deferred} {rnd : Option Nat} (a : At C w0 f0 ε pds b tm h k w tmps k' ds rnd Cs)
    {ops : Array Oper} {rest : List Oper} {j : Nat} (hj : j + rest.length = ops.size) (hr : rest = ops.toList.drop j) :
    Sim P C w0 f0 cs0 (cReg ops rest C b tm h k) (lone ⟨b.fn, tmps, .inRegion ops (List.range' j rest.length) :: k', ds, .run, b.kind, rnd⟩ (Cs ++ cs0) w) := by
  have hops := ops_sim (P := P) (kind := b.kind) (rnd := rnd) (fn := b.fn) (ds := ds) (k' := k') (cs := Cs ++ cs0) hC rest j ε tm h tmps w hj hr a.tm a.wr
  unfold cReg regDone
  cases ho : opsF C ops b.nt rest tm h with
  | bad => trivial
  | done tm' h' =>
    rw [ho] at hops
    obtain ⟨ε', tmps', w', h1, h2, h3, h4⟩ := hops
    exact (a.turn h2 h4 h3).next_sim h1
  | stop o rest' out tm' h' =>
    rw [ho] at hops
    obtain ⟨ε', tmps', w', j', h1, h2, h3, h4, h5, h6, h7, h8, rfl⟩ := hops
    have a' := (a.turn h2 h4 h3).push (x := .reg ops (o :: rest')) (i := .inRegion ops (j' :: List.range' (j' + 1) rest'.length))
      ⟨j', by simp; omega, by
        have ho' : ops.toList[j']? = some o := by simpa using h5
        rw [List.drop_eq_getElem_cons (by have := (List.getElem?_eq_some_iff.1 ho').1; exact this), h6]
        congr 1
        exact ((List.getElem?_eq_some_iff.1 ho').2).symm, by simp [List.range'_succ]⟩
    refine .steps h1 (out_sim (s := execOp (Frame.mk b.fn tmps' (.inRegion ops (j' :: List.range' (j' + 1) rest'.length) :: k') ds .run b.kind rnd).eval o) hC a'.fr rfl a'.cs (by simpa using a'.wr) a'.bot ?_ (by simp) ?_)
    · intro hd
      by_cases hb : ∃ c, o.op = .defer c
      · rcases hd with hd | hd
        · exact stepG_at rfl rfl h5 h8 (.inl hd)
        · obtain ⟨c, hc⟩ := hb
          exfalso
          rcases defer_out (C := C) (h := h') (tm := tm') c with e | ⟨d, h2, e⟩
          · exact hd.1 (by rw [hc]; exact e)
          · exact hd.2 d h2 (by rw [hc]; exact e)
      · exact stepG_at rfl rfl h5 h8 (.inr (fun c e => hb ⟨c, e⟩))
    · have := oper_sound (P := P) (pd := [] ++ pds.flatten) (o := o) (ρ := (Frame.mk b.fn tmps' (.inRegion ops (j' :: List.range' (j' + 1) rest'.length) :: k') ds .run b.kind rnd).eval) hC (by simpa using a'.wr) (fun x _ => ev_sound (F := Frame.mk b.fn tmps' (.inRegion ops (j' :: List.range' (j' + 1) rest'.length) :: k') ds .run b.kind rnd) a'.tm x)
      exact this

/-- where the deferred calls of a loop's rounds are kept -/
def loopDefs (around : Option Nat) : Sem (Nat × List Deferred) :=
  match around with
  | some l => do pure ((← Instr.getLoop l).defers, [])
  | none => do
    let r ← newObj (.deferred (some []))
    pure (r, [{ target := .collected r, args := #[] }])
theorem enterLoop_eq (fn : FuncId) (tmps : Array Value) (params : Array Tmp) (assign body : Code) (around : Option Nat) : Instr.enterLoop fn tmps params assign body around =
    (do let p ← loopDefs around
        pure (← newObj (.loop { state := .ready, pending := none, fn, tmps, params, assign, body, defers := p.1 }), p.2)) := by
  cases around <;> simp only [Instr.enterLoop, loopDefs, bind_assoc, pure_bind]

theorem apply_enter {F : Frame} {cs : List Frame} {w w' : World} {s : Sem Next} {g : Nat} {xs : Array Value} (h : s.run P w = .ok (.enter g xs) w') (hk : ∀ d a b c k, F.todo ≠ .call d a b c :: k) :
    (stepG.apply P true F cs none s w).bare = .go { frame := Frame.enter P g xs .normal, callers := F :: cs, status := .running, dying := none } w' := by
  simp [stepG.apply, h]
  split
  · rename_i h; exact absurd h (hk _ _ _ _ _)
  · rfl
theorem step_rf {fn : Nat} {tmps : Array Value} {x : Operand} {ps : Array Tmp} {asg body : Code} {k' : List Item} {ds mk' : List Deferred} {kind : CallKind} {rnd : Option Nat} {cs : List Frame} {w w1 w2 : World} {l g : Nat} {xs : Array Value}
    (h1 : (Instr.enterLoop fn tmps ps asg body rnd).run P w = .ok (l, mk') w1)
    (h2 : (do let d ← resolve (Frame.mk fn tmps (.inRangeFunc l :: k') (mk' ++ ds) .run kind rnd).eval { callee := .value x, args := #[.const (.func (.yield l) #[] #[])], argTypes := #[] } 0; invoke d.target d.args : Sem Next).run P w1 = .ok (.enter g xs) w2) :
    step P (lone ⟨fn, tmps, .code (.rangeFunc x ps asg body) :: k', ds, .run, kind, rnd⟩ cs w) = .next (lone (Frame.enter P g xs .normal) (⟨fn, tmps, .inRangeFunc l :: k', mk' ++ ds, .run, kind, rnd⟩ :: cs) w2) := by
  refine step_lone_go ?_
  have := apply_enter (F := Frame.mk fn tmps (.inRangeFunc l :: k') (mk' ++ ds) .run kind rnd) (cs := cs) h2 (by simp)
  rw [← this]
  simp only [stepG, stepG.exec, Sem.runT_eq, h1, GStep.bare_after]

/-- where a range over a function begins -/
theorem rf_sim (hC : CtxOk P C) {b : Ba} {tm : T V} {k : List It} {tmps : Array Value} {k' : List Item} {ds : List Deferred} {rnd : Option Nat} (a : At C w0 f0 ε pds b tm h k w tmps k' ds rnd Cs)
    {x : Operand} {ps : Array Tmp} {asg body : Code} {fx fy : SF} :
    Sim P C w0 f0 cs0 (cRangeFunc x ps asg body fx fy C b tm h k) (lone ⟨b.fn, tmps, .code (.rangeFunc x ps asg body) :: k', ds, .run, b.kind, rnd⟩ (Cs ++ cs0) w) := by
  unfold cRangeFunc
  split
  · trivial
  · rename_i h1 df mark hdefs
    -- the block of the rounds' deferred calls
    have hd : ∃ ε1 w1 dfc mk', ε.le ε1 ∧ WR w0 ε1 pds.flatten h1 w1 ∧ ε1.φ df = some dfc ∧ DeRs ε1 mark mk' ∧
        (loopDefs rnd).run P w = .ok (dfc, mk') w1 := by
      unfold rfDefs at hdefs
      have hr := a.rnd
      split at hdefs
      · rename_i l hl
        split at hdefs
        · rename_i pp hpp
          cases hdefs
          rw [hl] at hr
          obtain ⟨c, hc, rfl⟩ := hr
          obtain ⟨st, pend, df⟩ := pp
          obtain ⟨r, g1, _, _, g4⟩ := loopIs_sound a.wr hc hpp
          refine ⟨ε, w, r.defers, [], Env.le_refl ε, a.wr, g4, rfl, ?_⟩
          simp only [loopDefs, Sem.run_bind, run_getLoop g1, Result.andThen_ok, Sem.run_pure]
        · cases hdefs
      · rename_i hl
        split at hdefs
        · rename_i h2 hnew
          cases hdefs
          rw [hl] at hr
          have hr : rnd = none := hr
          subst hr
          obtain ⟨g1, g2⟩ := a.wr.new (o := .deferred (some [])) (w' := { w with heap := w.heap.push (.deferred (some [])) }) 0 hnew (by intro x; simp [Array.getElem?_push]) ⟨[], rfl, rfl⟩ (by simp) rfl rfl rfl
          refine ⟨_, _, w.heap.size, [{ target := .collected w.heap.size, args := #[] }], g1, g2, bind_self _ _ _ _, ?_, ?_⟩
          · rw [DeRs]; exact ⟨_, [], ⟨⟨w.heap.size, bind_self _ _ _ _, rfl⟩, VRs.nil⟩, rfl, rfl⟩
          · simp only [loopDefs, Sem.run_bind, run_newObj, Result.andThen_ok, Sem.run_pure]
        · cases hdefs
    obtain ⟨ε1, w1, dfc, mk', hle1, hw1, hdf, hmk, hrun1⟩ := hd
    split
    · trivial
    · rename_i h2 hnew
      obtain ⟨hle2, hw2⟩ := hw1.new (o := .loop { state := .ready, pending := none, fn := b.fn, tmps := tmps, params := ps, assign := asg, body := body, defers := dfc })
        (w' := { w1 with heap := w1.heap.push (.loop { state := .ready, pending := none, fn := b.fn, tmps := tmps, params := ps, assign := asg, body := body, defers := dfc }) }) 0 hnew (by intro x; simp [Array.getElem?_push])
        (by
          have hl : ε1.le (ε1.bind h1.nx w1.heap.size 0) := Env.le_bind (by
            cases e : ε1.φ h1.nx with
            | none => rfl
            | some c => exact absurd (hw1.fresh _ _ e) (Nat.lt_irrefl _)) _ _
          exact ⟨tmps, dfc, rfl, (a.tm.mono hle1).mono hl, (hl _ _ hdf).1⟩) (by simp) rfl rfl rfl
      have hlen : (Instr.enterLoop b.fn tmps ps asg body rnd).run P w = .ok (w1.heap.size, mk') { w1 with heap := w1.heap.push (.loop { state := .ready, pending := none, fn := b.fn, tmps := tmps, params := ps, assign := asg, body := body, defers := dfc }) } := by
        rw [enterLoop_eq]
        simp only [Sem.run_bind, hrun1, run_newObj, Result.andThen_ok, Sem.run_pure]
      have hle := Env.le_trans hle1 hle2
      have hinv := invokeF_sound (P := P) (xs := #[.func (.yield w1.heap.size) #[] #[]]) hC hw2 (fv := ev tm x) (F := (Frame.mk b.fn tmps (.inRangeFunc w1.heap.size :: k') (mk' ++ ds) .run b.kind rnd).eval x) (args := [.yld h1.nx])
        ((ev_sound (F := Frame.mk b.fn tmps (.inRangeFunc w1.heap.size :: k') (mk' ++ ds) .run b.kind rnd) a.tm x).mono hle)
        (VRs.cons (by rw [VR]; exact ⟨_, bind_self _ _ _ _, rfl⟩) VRs.nil)
      unfold rfEnter
      split
      · rename_i g args h3 hout
        rw [hout] at hinv
        obtain ⟨ε3, w3, xs, g1, g2, g3, g4, i, hi, hok⟩ := hinv
        have hle3 := Env.le_trans hle g2
        have a3 := (a.turn (tm' := tm) (tmps' := tmps) hle3 g3 (a.tm.mono hle3))
        have hb3 : (ε1.bind h1.nx w1.heap.size 0).φ h1.nx = some w1.heap.size := bind_self _ _ _ _
        have hf : FrR C ε3 true [] ⟨b.fn, b.nt, mark ++ b.defs, b.kind, b.rnd, .run, tm, .rf h1.nx :: k⟩ ⟨b.fn, tmps, .inRangeFunc w1.heap.size :: k', mk' ++ ds, .run, b.kind, rnd⟩ := by
          refine ⟨rfl, rfl, a.kd, a3.rnd, rfl, DeRs.append ((hmk.mono hle2).mono g2) a3.ds, fun _ => .plain ?_ rfl a3.tm, fun e => absurd rfl e⟩
          rw [ItRs]; exact ⟨_, _, ⟨_, (g2 _ _ hb3).1, rfl⟩, a3.k, rfl⟩
        have g1' : (do let d ← resolve (Frame.mk b.fn tmps (.inRangeFunc w1.heap.size :: k') (mk' ++ ds) .run b.kind rnd).eval { callee := .value x, args := #[.const (.func (.yield w1.heap.size) #[] #[])], argTypes := #[] } 0; invoke d.target d.args : Sem Next).run P
          { w1 with heap := w1.heap.push (.loop { state := .ready, pending := none, fn := b.fn, tmps := tmps, params := ps, assign := asg, body := body, defers := dfc }) } = .ok (.enter g xs) w3 := by
          rw [← g1]; simp [resolve, Frame.eval]
        clear g1
        obtain ⟨bfn, bnt, bdefs, bkind, brnd, bcs⟩ := b
        exact .of_mr (m' := lone (Frame.enter P g xs .normal) ((⟨bfn, tmps, .inRangeFunc w1.heap.size :: k', mk' ++ ds, .run, bkind, rnd⟩ :: Cs) ++ cs0) w3) (.one (step_rf hlen g1'))
          (fun s' e => enter_mr hC hi hok g4 (FrRs.push hf a3.cs) (by simpa using g3) (.inl rfl) (BotR.push a.bot) e) (fun x e => enter_res e)
      · trivial
end
end Go.Lev
namespace Go.Lev
open Go
section
variable {P : Program} {C : Ctx} {w0 : World} {f0 : Nat} {cs0 : List Frame} {ε : Env} {pd : Pd} {pds : List Pd} {h : Hp} {w : World} {Cs : List Frame} {cs : List Fr}

/-- a region that draws its order -/
theorem draw_sim (hC : CtxOk P C) {b : Ba} {tm : T V} {k : List It} {tmps : Array Value} {k' : List Item} {ds : List Deferred} {rnd : Option Nat} (a : At C w0 f0 ε pds b tm h k w tmps k' ds rnd Cs)
    {id : Nat} {ops : Array Oper} :
    Sim P C w0 f0 cs0 (drStart ops C b tm h k) (lone ⟨b.fn, tmps, .code (.region id ops true) :: k', ds, .run, b.kind, rnd⟩ (Cs ++ cs0) w) := by
  unfold drStart drStart2
  split
  · rename_i hok
    have hF := drOk_sound hok
    obtain ⟨t, w', h1, h2, h3, h4, h5⟩ : ∃ t w', (choose (.order b.fn id)).run P w = .ok t w' ∧ w'.heap = w.heap ∧ w'.os = w.os ∧ w'.output = w.output ∧ w'.tape = w.tape := by
      rw [run_choose]
      split <;> exact ⟨_, _, rfl, rfl, rfl, rfl, rfl⟩
    refine ⟨lone ⟨b.fn, tmps, .inRegion ops (Region.linearise .any ops t) :: k', ds, .run, b.kind, rnd⟩ (Cs ++ cs0) w', .one (step_lone_go ?_),
      ⟨ε, [], pds, _, Cs, w', rfl, by simpa using a.wr.world h2 h3 h4 h5, ⟨rfl, rfl, a.kd, a.rnd, rfl, a.ds, fun _ => ?_, fun e => absurd rfl e⟩, a.cs⟩, a.bot⟩
    · simp [stepG, stepG.exec, h1, Region.schedule, hC.mixed]
    · exact ⟨_, [], fun _ => 0, k', rfl, a.k, DrR.start hok (lin_any hF.lt t) a.tm, fun e => by cases e⟩
  · trivial

theorem code_sim (hC : CtxOk P C) : ∀ (c : Code) {b : Ba} {tm : T V} {k : List It} {tmps : Array Value} {k' : List Item} {ds : List Deferred} {rnd : Option Nat}, At C w0 f0 ε pds b tm h k w tmps k' ds rnd Cs →
    Sim P C w0 f0 cs0 (codeTab c C b tm h k) (lone ⟨b.fn, tmps, .code c :: k', ds, .run, b.kind, rnd⟩ (Cs ++ cs0) w) := by
  intro c
  induction c with
  | skip => intro b tm k tmps k' ds rnd a; exact a.next_sim (.one (step_lone_go (by simp [stepG, stepG.exec])))
  | label l => intro b tm k tmps k' ds rnd a; exact a.next_sim (.one (step_lone_go (by simp [stepG, stepG.exec])))
  | refuse why => intro b tm k tmps k' ds rnd a; trivial
  | region id ops draw =>
    intro b tm k tmps k' ds rnd a
    cases draw with
    | false =>
      refine .steps (.one (step_lone_go (fr' := ⟨b.fn, tmps, .inRegion ops (List.range' 0 ops.toList.length) :: k', ds, .run, b.kind, rnd⟩) (cs' := Cs ++ cs0) (w' := w) (by simp [stepG, stepG.exec, List.range_eq_range']))) ?_
      exact reg_sim hC a (by simp) (by simp)
    | true => exact draw_sim hC a
  | seq x y ihx _ =>
    intro b tm k tmps k' ds rnd a
    exact .steps (.one (step_lone_go (fr' := ⟨b.fn, tmps, .code x :: .code y :: k', ds, .run, b.kind, rnd⟩) (cs' := Cs ++ cs0) (w' := w) (by simp [stepG, stepG.exec]))) (ihx (a.push (x := .code y) rfl))
  | block id c ih =>
    intro b tm k tmps k' ds rnd a
    exact .steps (.one (step_lone_go (fr' := ⟨b.fn, tmps, .code c :: .inBlock id :: k', ds, .run, b.kind, rnd⟩) (cs' := Cs ++ cs0) (w' := w) (by simp [stepG, stepG.exec]))) (ih (a.push (x := .blk id) rfl))
  | loop c ih =>
    intro b tm k tmps k' ds rnd a
    exact .steps (.one (step_lone_go (fr' := ⟨b.fn, tmps, .code c :: .inLoop c :: k', ds, .run, b.kind, rnd⟩) (cs' := Cs ++ cs0) (w' := w) (by simp [stepG, stepG.exec]))) (ih (a.push (x := .lp c) rfl))
  | scope c ih =>
    intro b tm k tmps k' ds rnd a
    exact .steps (.one (step_lone_go (fr' := ⟨b.fn, tmps, .code c :: .inScope c :: k', ds, .run, b.kind, rnd⟩) (cs' := Cs ++ cs0) (w' := w) (by simp [stepG, stepG.exec]))) (ih (a.push (x := .sc c) rfl))
  | cond x y z ihy ihz =>
    intro b tm k tmps k' ds rnd a
    show Sim P C w0 f0 cs0 (condF (codeTab y) (codeTab z) C b tm h k (ev tm x)) _
    have hx := ev_sound (F := ⟨b.fn, tmps, .code (.cond x y z) :: k', ds, .run, b.kind, rnd⟩) a.tm x
    unfold EvR at hx
    unfold condF
    split
    · rename_i t ht
      rw [ht, VR] at hx
      have st : Steps P (lone ⟨b.fn, tmps, .code (.cond x y z) :: k', ds, .run, b.kind, rnd⟩ (Cs ++ cs0) w) (lone ⟨b.fn, tmps, .code (if t then y else z) :: k', ds, .run, b.kind, rnd⟩ (Cs ++ cs0) w) :=
        .one (step_lone_go (by simp [stepG, stepG.exec, hx]))
      cases t with
      | true => exact .steps st (ihy a)
      | false => exact .steps st (ihz a)
    · trivial
  | rangeFunc x ps asg body _ _ => intro b tm k tmps k' ds rnd a; exact rf_sim (fx := codeTab asg) (fy := codeTab body) hC a
  | exit id =>
    intro b tm k tmps k' ds rnd a
    show Sim P C w0 f0 cs0 (jumpF (leaveF (some (.exit id))) C b tm h k (exitToF id k)) _
    have hx := exitTo_sound (id := id) k k' a.k
    unfold jumpF
    split
    · rename_i k2 he
      rw [he] at hx
      obtain ⟨k2', g1, g2⟩ := hx
      exact (a.with g2).next_sim (.one (step_lone_go (by simp [stepG, stepG.exec, g1])))
    · rename_i he
      rw [he] at hx
      refine leave_sim a (fun _ hj => by rcases hj with hj | hj <;> simp at hj) (fun l hl v w' hr => ?_)
      subst hl
      simp [stepG, stepG.exec, hx, hr]
  | goto id =>
    intro b tm k tmps k' ds rnd a
    show Sim P C w0 f0 cs0 (jumpF (leaveF (some (.goto id))) C b tm h k (gotoInF id k)) _
    have hx := gotoIn_sound (l := id) k k' a.k
    unfold jumpF
    split
    · rename_i k2 he
      rw [he] at hx
      obtain ⟨k2', g1, g2⟩ := hx
      exact (a.with g2).next_sim (.one (step_lone_go (by simp [stepG, stepG.exec, g1])))
    · rename_i he
      rw [he] at hx
      refine leave_sim a (fun _ hj => by rcases hj with hj | hj <;> simp at hj) (fun l hl v w' hr => ?_)
      subst hl
      simp [stepG, stepG.exec, hx, hr]
  | ret =>
    intro b tm k tmps k' ds rnd a
    refine leave_sim (jump := some .ret) a (fun hr _ => ?_) (fun l hl v w' hr => ?_)
    · subst hr; simp [stepG, stepG.exec]
    · subst hl; simp [stepG, stepG.exec, hr]
end
end Go.Lev
namespace Go.Lev
open Go
section
variable {P : Program} {C : Ctx} {w0 : World} {f0 : Nat} {cs0 : List Frame} {ε : Env} {pd : Pd} {pds : List Pd} {h : Hp} {w : World} {Cs : List Frame} {cs : List Fr}

/-- the end of a range over a function -/
theorem erf_sim {b : Ba} {tm : T V} {k : List It} {tmps : Array Value} {k' : List Item} {ds : List Deferred} {rnd : Option Nat} (a : At C w0 f0 ε pds b tm h k w tmps k' ds rnd Cs)
    {l c : Nat} (hc : ε.φ l = some c) :
    Sim P C w0 f0 cs0 (iErf l C b tm h k) (lone ⟨b.fn, tmps, .endRangeFunc c :: k', ds, .run, b.kind, rnd⟩ (Cs ++ cs0) w) := by
  unfold iErf
  split
  · rename_i st pend df hl
    obtain ⟨r, g1, g2, g3, g4⟩ := loopIs_sound a.wr hc hl
    have go : st ≠ .busy → Sim P C w0 f0 cs0 (match setLoop h l .exhausted pend with
        | some h => next b tm h (match (generalizing := false) pend with | some c => .code c :: k | none => k)
        | none => badR "erf") (lone ⟨b.fn, tmps, .endRangeFunc c :: k', ds, .run, b.kind, rnd⟩ (Cs ++ cs0) w) := by
      intro hst
      split
      · rename_i h2 hset
        obtain ⟨r', hr1, hr2⟩ := setLoop_sound a.wr hc hset
        rw [g1] at hr1
        obtain rfl : r = r' := by simpa using hr1
        obtain ⟨w', s1, s2⟩ := SameBut.setObj (P := P) (o' := .loop { r with state := .exhausted }) g1 (by simp)
        have hw' : WR w0 ε pds.flatten h2 w' := hr2 w' (by rw [← g3]; exact s2)
        have hne : (r.state == LoopState.busy) = false := by
          rw [g2]; cases st <;> first | rfl | exact absurd rfl hst
        have hrun : (Instr.endLoop c).run P w = .ok pend w' := by
          have hne2 : r.state ≠ .busy := by rw [g2]; exact hst
          rw [← g3]; simp [Instr.endLoop, run_getLoop g1, hne2, s1]
        cases pend with
        | none =>
          have a' : At C w0 f0 ε pds b tm h2 k w' tmps k' ds rnd Cs := ⟨hw', a.tm, a.k, a.ds, a.kd, a.rnd, a.cs, a.bot⟩
          exact a'.next_sim (.one (step_lone_go (by simp [stepG, stepG.exec, hrun])))
        | some c2 =>
          have a' : At C w0 f0 ε pds b tm h2 (.code c2 :: k) w' tmps (.code c2 :: k') ds rnd Cs := ⟨hw', a.tm, by rw [ItRs]; exact ⟨_, _, rfl, a.k, rfl⟩, a.ds, a.kd, a.rnd, a.cs, a.bot⟩
          exact a'.next_sim (.one (step_lone_go (by simp [stepG, stepG.exec, hrun])))
      · trivial
    cases st with
    | busy => trivial
    | ready => exact go (by simp)
    | done => exact go (by simp)
    | exhausted => exact go (by simp)
  · trivial

/-- a round begins -/
theorem br_sim {b : Ba} {tm : T V} {k : List It} {tmps : Array Value} {k' : List Item} {ds : List Deferred} {rnd : Option Nat} (a : At C w0 f0 ε pds b tm h k w tmps k' ds rnd Cs) :
    Sim P C w0 f0 cs0 (iBr C b tm h k) (lone ⟨b.fn, tmps, .beginRound :: k', ds, .run, b.kind, rnd⟩ (Cs ++ cs0) w) := by
  unfold iBr
  have hr := a.rnd
  split
  · trivial
  · rename_i l hl
    rw [hl] at hr
    obtain ⟨c, hc, rfl⟩ := hr
    split
    · rename_i pend df hlo
      obtain ⟨r, g1, g2, g3, g4⟩ := loopIs_sound a.wr hc hlo
      split
      · rename_i h2 hset
        obtain ⟨r', hr1, hr2⟩ := setLoop_sound a.wr hc hset
        rw [g1] at hr1
        obtain rfl : r = r' := by simpa using hr1
        obtain ⟨w', s1, s2⟩ := SameBut.setObj (P := P) (o' := .loop { r with state := .busy }) g1 (by simp)
        have hw' : WR w0 ε pds.flatten h2 w' := hr2 w' (by rw [← g3]; exact s2)
        have hrun : (Instr.beginRound c).run P w = .ok () w' := by
          simp only [Instr.beginRound, Sem.run_bind, run_getLoop g1, Result.andThen_ok, s1, g2, Sem.run_pure]
        have a' : At C w0 f0 ε pds b tm h2 k w' tmps k' ds (some c) Cs := ⟨hw', a.tm, a.k, a.ds, a.kd, a.rnd, a.cs, a.bot⟩
        exact a'.next_sim (.one (step_lone_go (by simp [stepG, stepG.exec, stepG.apply, hrun, Frame.finish])))
      · trivial
    · trivial

/-- a region that has drawn its order -/
theorem dr_sim (hC : CtxOk P C) {b : Ba} {tm : T V} {h : Hp} {k : List It} {r : Dr} {F : Frame} (hf : FrR C ε false pd (b.fr .run tm (.dr r :: k)) F) (hcs : FrRs C ε pds b.cs Cs) (hw : WR w0 ε (pd ++ pds.flatten) h w)
    (hb : BotR f0 b.cs b.fn b.kind b.rnd) : Sim P C w0 f0 cs0 (iDr r C b tm h k) (lone F (Cs ++ cs0) w) := by
  obtain ⟨bfn, bnt, bdefs, bkind, brnd, bcs⟩ := b
  have hrun := hf.run rfl
  obtain ⟨Fn, tmps, Ftodo, ds, Fmode, Fkind, Frnd⟩ := F
  obtain ⟨h1, h2, h3, h4, h5, h6, h7, h8⟩ := hf
  clear h7 h8
  obtain ⟨l, D, bl, k', e1, hk, hd, _⟩ := hrun
  have h5 : Fmode = .run := h5
  have h1 : Fn = bfn := h1
  have h2 : Fkind = bkind := h2
  have h6 : DeRs ε bdefs ds := h6
  have h4 : oN ε brnd Frnd := h4
  have h3 : bkind = .normal ∨ bkind = .deferred := h3
  have e1 : Ftodo = .inRegion r.ops l :: k' := e1
  have hk : ItRs ε k k' := hk
  have hd : DrR C ε pd bl r tm bnt tmps l D := hd
  subst h5 h1 h2 e1
  obtain ⟨ops, anc, es, dm, xm, vm⟩ := r
  unfold iDr
  simp only
  split
  · trivial
  · rename_i p hp
    obtain ⟨tm', h', vm'⟩ := p
    obtain ⟨pd1, bl1, hd1, hready, hw1⟩ := pass_sound (ops.toList.zip anc) 0 pd bl tm h vm (by simp) hd (fun i o hi => by omega) hw hp
    obtain ⟨ε2, pd2, tmps2, l2, D2, w2, s1, hle, hd2, hw2, hend⟩ := exec_quiet hC (fn := Fn) (k' := k') (ds := ds) (kind := Fkind) (rnd := Frnd) (cs := Cs ++ cs0) l D ε pd1 tmps w hd1 hready hw1
    refine .steps s1 ?_
    have hcs2 := hcs.mono hle
    have hk2 := hk.mono hle
    unfold drGo
    simp only
    cases es with
    | nil =>
      simp only
      rcases hend with rfl | ⟨e, l'', o, rfl, ho, heff⟩
      · have htm : tmR ε2 tm' bnt tmps2 := by
          refine ⟨hd2.size, fun t => hd2.slots t fun i o ho _ => .inr ?_⟩
          cases hd2.lin with
          | nil hall => exact hall i (Array.getElem?_eq_some_iff.1 ho).1
        have a : At C w0 f0 ε2 pds ⟨Fn, bnt, bdefs, Fkind, brnd, bcs⟩ tm' h' k w2 tmps2 k' ds Frnd Cs :=
          ⟨hw2.weaken (by simp), htm, hk2, h6.mono hle, h3, h4.mono hle, hcs2, hb⟩
        exact a.next_sim (.one (step_lone_go (by simp [stepG, stepG.exec])))
      · obtain ⟨es, he⟩ := hd2.head_eff ho heff
        cases he
    | cons e es =>
      simp only
      split
      · trivial
      · rename_i o ho
        have heff : isEff o = true := by
          obtain ⟨⟨o', ho', he'⟩, _⟩ := (hd2.mem_es e).1 (by simp)
          simp only at ho'; rw [ho] at ho'; cases ho'; exact he'
        have hl2 : ∃ l'', l2 = e :: l'' := by
          rcases hend with rfl | ⟨e', l'', o', rfl, ho', heff'⟩
          · exfalso
            have := ((hd2.mem_es e).1 (by simp)).2
            cases hd2.lin with
            | nil hall => exact this (hall e (Array.getElem?_eq_some_iff.1 ho).1)
          · obtain ⟨es', he⟩ := hd2.head_eff ho' heff'
            simp only [List.cons.injEq] at he
            rw [he.1]; exact ⟨_, rfl⟩
        obtain ⟨l'', rfl⟩ := hl2
        have hlook := hd2.look ho
        have hF : FrR C ε2 true pd2 (Ba.fr ⟨Fn, bnt, bdefs, Fkind, brnd, bcs⟩ .run tm' (.dr ⟨ops, anc, e :: es, dm, xm, vm'⟩ :: k)) ⟨Fn, tmps2, .inRegion ops (e :: l'') :: k', ds, .run, Fkind, Frnd⟩ := by
          refine ⟨rfl, rfl, h3, h4.mono hle, rfl, h6.mono hle, fun _ => ?_, fun e => absurd rfl e⟩
          exact ⟨e :: l'', D2, bl1, k', rfl, hk2, hd2, fun _ => ⟨e, es, l'', rfl, rfl⟩⟩
        split
        · trivial
        · rename_i hwt
          have hwanted := wantF_look (tmps := tmps2) (fun t ht => hlook t (List.mem_append.2 (.inr ht))) hwt
          exact resume_sim hF hcs2 hw2 (v := undefV) (y := undef) (by rw [undefV, VR]; exact ⟨[], VRs.nil, rfl⟩) hb (.one (step_skipop rfl rfl ho hwanted))
        · rename_i hwt
          have hwanted := wantF_look (tmps := tmps2) (fun t ht => hlook t (List.mem_append.2 (.inr ht))) hwt
          refine out_sim (s := execOp (Frame.mk Fn tmps2 (.inRegion ops (e :: l'') :: k') ds .run Fkind Frnd).eval o) hC hF rfl hcs2 hw2 hb ?_ (by simp) ?_
          · intro hdf
            by_cases hbd : ∃ c, o.op = .defer c
            · rcases hdf with hdf | hdf
              · exact stepG_at rfl rfl ho hwanted (.inl hdf)
              · obtain ⟨c, hc⟩ := hbd
                exfalso
                rcases defer_out (C := C) (h := h') (tm := tm') c with e | ⟨d, h2, e⟩
                · exact hdf.1 (by rw [hc]; exact e)
                · exact hdf.2 d h2 (by rw [hc]; exact e)
            · exact stepG_at rfl rfl ho hwanted (.inr (fun c e => hbd ⟨c, e⟩))
          · refine oper_sound (P := P) (o := o) (ρ := (Frame.mk Fn tmps2 (.inRegion ops (e :: l'') :: k') ds .run Fkind Frnd).eval) hC hw2 (fun x hx => ?_)
            unfold EvR
            cases x with
            | tmp t => exact hlook t (List.mem_append.2 (.inl (List.mem_filterMap.2 ⟨.tmp t, by simpa using hx, rfl⟩)))
            | const v => exact VR_absC ε2 v
            | global g => show VR _ (.glob g 0) (.pointer (some ⟨g, 0, none⟩)); rw [VR]
            | func f => show VR ε2 (.fn (.func f) [] []) (.func (.func f) #[] #[]); rw [VR]; exact ⟨by simp, [], [], VRs.nil, VRs.nil, rfl⟩

/-- whatever is to be done next -/
theorem item_sim (hC : CtxOk P C) {b : Ba} {tm : T V} {k : List It} {tmps : Array Value} {k' : List Item} {ds : List Deferred} {rnd : Option Nat} (a : At C w0 f0 ε pds b tm h k w tmps k' ds rnd Cs)
    {it : It} {i : Item} (hi : ItR ε it i) : Sim P C w0 f0 cs0 (itTab it C b tm h k) (lone ⟨b.fn, tmps, i :: k', ds, .run, b.kind, rnd⟩ (Cs ++ cs0) w) := by
  cases it with
  | code c => have hi : i = .code c := hi; subst hi; exact code_sim hC c a
  | blk id => have hi : i = .inBlock id := hi; subst hi; exact a.next_sim (.one (step_lone_go (by simp [stepG, stepG.exec])))
  | lp c =>
    have hi : i = .inLoop c := hi; subst hi
    exact .steps (.one (step_lone_go (fr' := ⟨b.fn, tmps, .code c :: .inLoop c :: k', ds, .run, b.kind, rnd⟩) (cs' := Cs ++ cs0) (w' := w) (by simp [stepG, stepG.exec]))) (code_sim hC c (a.push (x := .lp c) rfl))
  | sc c => have hi : i = .inScope c := hi; subst hi; exact a.next_sim (.one (step_lone_go (by simp [stepG, stepG.exec])))
  | reg ops rest => obtain ⟨j, h1, h2, rfl⟩ := hi; exact reg_sim hC a h1 h2
  | dr r => exact hi.elim
  | rf l => trivial
  | erf l => obtain ⟨c, hc, rfl⟩ := hi; exact erf_sim a hc
  | br => have hi : i = .beginRound := hi; subst hi; exact br_sim a

/-- a frame that runs -/
theorem run_sim (hC : CtxOk P C) {b : Ba} {tm : T V} {todo : List It} {F : Frame} (hf : FrR C ε false pd (b.fr .run tm todo) F) (hcs : FrRs C ε pds b.cs Cs) (hw : WR w0 ε (pd ++ pds.flatten) h w)
    (hb : BotR f0 b.cs b.fn b.kind b.rnd) : Sim P C w0 f0 cs0 (runTop C b tm h todo) (lone F (Cs ++ cs0) w) := by
  have hrun := hf.run rfl
  by_cases hdr : ∃ r k, todo = .dr r :: k
  · obtain ⟨r, k, rfl⟩ := hdr
    exact dr_sim hC hf hcs hw hb
  · have hpl : ItRs ε todo F.todo ∧ pd = [] ∧ tmR ε tm b.nt F.tmps := by
      obtain ⟨bfn, bnt, bdefs, bkind, brnd, bcs⟩ := b
      unfold TR at hrun
      split at hrun
      · rename_i r k e; exact absurd ⟨r, k, e⟩ hdr
      · exact hrun
    obtain ⟨hi, rfl, htm⟩ := hpl
    obtain ⟨Fn, tmps, Ftodo, ds, Fmode, Fkind, Frnd⟩ := F
    have h1 : Fn = b.fn := hf.fn
    have h2 : Fkind = b.kind := hf.kind
    have h5 : Fmode = .run := hf.mode
    subst h1 h2 h5
    have hw : WR w0 ε pds.flatten h w := by simpa using hw
    have mk : ∀ k k', ItRs ε k k' → At C w0 f0 ε pds b tm h k w tmps k' ds Frnd Cs := fun k k' hk => ⟨hw, htm, hk, hf.defs, hf.kd, hf.rnd, hcs, hb⟩
    cases todo with
    | nil =>
      rw [ItRs] at hi
      have hi : Ftodo = [] := hi
      subst hi
      refine leave_sim (jump := none) (mk [] [] rfl) (fun hr _ => ?_) (fun l hl v w' hr => ?_)
      · subst hr; simp [stepG, stepG.exec]
      · subst hl; simp [stepG, stepG.exec, hr]
    | cons it k =>
      rw [ItRs] at hi
      obtain ⟨x, xs, hx, hxs, hF⟩ := hi
      have hF : Ftodo = x :: xs := hF
      subst hF
      exact item_sim hC (mk k xs hxs) hx
end
end Go.Lev
namespace Go.Lev
open Go
section
variable {P : Program} {C : Ctx} {w0 : World} {f0 : Nat} {cs0 : List Frame} {ε : Env} {pd : Pd} {pds : List Pd} {h : Hp} {w : World} {Cs : List Frame} {cs : List Fr}

theorem loadF_ptr {t : Nat} {a v : V} {x : Value} (hf : loadF C h t a = some v) (hx : VR ε a x) : ∃ ad, x = .pointer (some ad) := by
  unfold loadF at hf
  split at hf
  · rw [VR] at hx; obtain ⟨c, _, rfl⟩ := hx; exact ⟨_, rfl⟩
  · rw [VR] at hx; exact ⟨_, hx⟩
  · cases hf
theorem run_resV (hC : CtxOk P C) (hr : HR ε h w) {tm : T V} {tmps : Array Value} (ht : ∀ t, VR ε (tm.get undefV t) (tmps.getD t undef)) : ∀ (rs : List ResultVar) (l : List V), resV h C tm rs = some l →
    ∃ ys, (rs.mapM fun | .tmp t => pure (tmps.getD t undef) | .cell a t => do loadVar t (← asAddr (tmps.getD a undef)) : Sem (List Value)).run P w = .ok ys w ∧ VRs ε l ys
  | [], l, e => by cases e; exact ⟨[], by simp, VRs.nil⟩
  | .tmp t :: rs, l, e => by
    unfold resV at e
    split at e
    · rename_i r he
      cases e
      obtain ⟨ys, h1, h2⟩ := run_resV hC hr ht rs r he
      exact ⟨tmps.getD t undef :: ys, by simp only [List.mapM_cons, Sem.run_bind, Sem.run_pure, Result.andThen_ok, h1], VRs.cons (ht t) h2⟩
    · cases e
  | .cell a t :: rs, l, e => by
    unfold resV at e
    split at e
    · rename_i v r hv he
      cases e
      obtain ⟨ys, h1, h2⟩ := run_resV hC hr ht rs r he
      obtain ⟨y, g1, g2⟩ := loadF_sound (P := P) hC hr hv (ht a)
      obtain ⟨ad, hx⟩ := loadF_ptr hv (ht a)
      have ha : asAddr (tmps.getD a undef) = pure ad := by rw [hx]; rfl
      rw [hx] at g1
      have g1 : (loadVar t ad).run P w = .ok y w := by simpa [Instr.loadAt, Instr.sureAddr] using g1
      exact ⟨y :: ys, by simp only [List.mapM_cons, ha, pure_bind, Sem.run_bind, Sem.run_pure, Result.andThen_ok, g1, h1], VRs.cons g2 h2⟩
    · cases e
theorem run_results (hC : CtxOk P C) (hr : HR ε h w) {tm : T V} {tmps : Array Value} (ht : ∀ t, VR ε (tm.get undefV t) (tmps.getD t undef)) {fn : Func} {l : List V} (e : resV h C tm fn.results.toList = some l) :
    ∃ y, (results fn tmps).run P w = .ok y w ∧ VR ε (one l) y := by
  obtain ⟨ys, h1, h2⟩ := run_resV hC hr ht _ l e
  refine ⟨if h : ys.toArray.size = 1 then ys.toArray[0] else .tuple ys.toArray, ?_, ?_⟩
  · unfold results
    rw [Array.mapM_eq_mapM_toList]
    simp only [Sem.run_bind, Sem.run_map, Sem.run_pure]
    erw [h1]
    rfl
  · have hl := h2.length
    unfold one
    split
    · rename_i v
      rw [VRs] at h2
      obtain ⟨y, ys', hy, hys, rfl⟩ := h2
      rw [VRs] at hys; subst hys
      simpa using hy
    · rename_i hn
      rw [dif_neg]
      · rw [VR]; exact ⟨ys, h2, rfl⟩
      · intro e1
        have : l.length = 1 := by rw [← hl]; simpa using e1
        match l, this with
        | [x], _ => exact hn x rfl

theorem step_defer2 {fn : Nat} {tmps : Array Value} {todo : List Item} {ds : List Deferred} {mode : FrameMode} {kind : CallKind} {rnd : Option Nat} {cs : List Frame} {w w' : World} {f : Fn} {c args xs : Array Value} {g : Nat} (hm : mode ≠ .run)
    (hi : (invoke (.fn f c) args).run P w = .ok (.enter g xs) w') :
    step P (lone ⟨fn, tmps, todo, ⟨.fn f c, args⟩ :: ds, mode, kind, rnd⟩ cs w) = .next (lone (Frame.enter P g xs .deferred) (⟨fn, tmps, todo, ds, mode, kind, rnd⟩ :: cs) w') := by
  refine step_lone_go ?_
  cases mode with
  | run => exact absurd rfl hm
  | returning => simp [stepG, unwind, callDeferred, hi]
  | panicking chain => simp [stepG, unwind, callDeferred, hi]

/-- the deferred calls of a frame that is left -/
theorem def_sim (hC : CtxOk P C) {b : Ba} {mode : Mo} {tm : T V} {todo : List It} {d : De} {dl : List De} {F : Frame} (hm : mode ≠ .run) (hd : b.defs = d :: dl) (hf : FrR C ε false pd (b.fr mode tm todo) F)
    (hcs : FrRs C ε pds b.cs Cs) (hw : WR w0 ε (pd ++ pds.flatten) h w) (hb : BotR f0 b.cs b.fn b.kind b.rnd) : Sim P C w0 f0 cs0 (defTop C b mode tm h todo d dl) (lone F (Cs ++ cs0) w) := by
  obtain ⟨bfn, bnt, bdefs, bkind, brnd, bcs⟩ := b
  simp only at hd; subst hd
  obtain ⟨Fn, tmps, Ftodo, ds, Fmode, Fkind, Frnd⟩ := F
  obtain ⟨h1, h2, h3, h4, h5, h6, h7, h8⟩ := hf
  clear h7
  obtain ⟨t1, t2, t3⟩ := h8 hm
  have t1 : todo = [] := t1
  subst t1 t2
  have h5 : MoR ε mode Fmode := h5
  have h1 : Fn = bfn := h1
  have h2 : Fkind = bkind := h2
  have h6 : DeRs ε (d :: dl) ds := h6
  have h4 : oN ε brnd Frnd := h4
  have h3 : bkind = .normal ∨ bkind = .deferred := h3
  have t3 : tmR ε tm bnt tmps := t3
  subst h1 h2
  have hne : Fmode ≠ .run := by
    intro e; rw [e] at h5
    cases mode with
    | run => exact hm rfl
    | ret => cases h5
    | pan c => obtain ⟨_, _, h⟩ := h5; cases h
  obtain ⟨D, Ds, hD, hDs, e6⟩ : ∃ D Ds, DeR ε d D ∧ DeRs ε dl Ds ∧ ds = D :: Ds := h6
  subst e6
  have hw : WR w0 ε pds.flatten h w := by simpa using hw
  unfold defTop
  split
  · rename_i l hl
    split
    · rename_i l' hget
      split
      · rename_i h2 hset
        obtain ⟨hT, _⟩ := hD
        rw [hl] at hT
        obtain ⟨c, hc, hDt⟩ := hT
        obtain ⟨o, ho, hor⟩ := hw.hr.blk l c hc
        rw [hget] at hor
        obtain ⟨ds', rfl, hds'⟩ := hor
        obtain ⟨w', s1, s2⟩ := SameBut.setObj (P := P) (o' := .deferred none) ho (by simp)
        have hw' : WR w0 ε pds.flatten h2 w' := hw.set hc hset (by rw [hget]; simp) s2.heap rfl s2.size s2.os s2.out s2.tape
        have hrun : (Instr.takeDeferred c).run P w = .ok ds' w' := by
          simp [Instr.takeDeferred, run_getObj ho, s1]
        obtain ⟨Dt, Da⟩ := D
        have hDt : Dt = .collected c := hDt
        subst hDt
        refine ⟨lone ⟨Fn, tmps, Ftodo, ds' ++ Ds, Fmode, Fkind, Frnd⟩ (Cs ++ cs0) w', .one (step_lone_go ?_), ⟨ε, [], pds, _, Cs, w', rfl, by simpa using hw', ⟨rfl, rfl, h3, h4, h5, hds'.append hDs, fun e => absurd e hm, fun _ => ⟨rfl, rfl, t3⟩⟩, hcs⟩, hb⟩
        cases Fmode with
        | run => exact absurd rfl hne
        | returning => simp [stepG, unwind, hrun]
        | panicking c => simp [stepG, unwind, hrun]
      · trivial
    · trivial
  · rename_i g cap hfn
    obtain ⟨dt, dargs⟩ := d
    have hfn : dt = .fn (.func g) cap := hfn
    subst hfn
    obtain ⟨Dt, Da⟩ := D
    obtain ⟨⟨_, c, hcap, hDt⟩, hargs⟩ := hD
    have hDt : Dt = .fn (.func g) c.toArray := hDt
    subst hDt
    have hent := enterF_sound (f := g) (xs := Da ++ c.toArray) hC hw (args := dargs ++ cap) (by simpa using VRs.append hargs hcap)
    split
    · rename_i g' args h2 hout
      rw [hout] at hent
      obtain ⟨ε2, w2, xs, g1, g2, g3, g4, i, hi, hok⟩ := hent
      have hf : FrR C ε2 true [] ⟨Fn, bnt, dl, Fkind, brnd, mode, tm, []⟩ ⟨Fn, tmps, Ftodo, Ds, Fmode, Fkind, Frnd⟩ :=
        ⟨rfl, rfl, h3, h4.mono g2, h5.mono g2, hDs.mono g2, fun e => absurd e hm, fun _ => ⟨rfl, rfl, t3.mono g2⟩⟩
      exact .of_mr (m' := lone (Frame.enter P g' xs .deferred) ((⟨Fn, tmps, Ftodo, Ds, Fmode, Fkind, Frnd⟩ :: Cs) ++ cs0) w2) (.one (step_defer2 hne (by simpa [invoke] using g1)))
        (fun s' e => enter_mr hC hi hok g4 (FrRs.push hf (hcs.mono g2)) (by simpa using g3) (.inr rfl) (BotR.push hb) e) (fun x e => enter_res e)
    · trivial
  · trivial

/-- a frame that returns -/
theorem ret_sim (hC : CtxOk P C) {b : Ba} {tm : T V} {todo : List It} {F : Frame} (hf : FrR C ε false pd (b.fr .ret tm todo) F) (hcs : FrRs C ε pds b.cs Cs) (hw : WR w0 ε (pd ++ pds.flatten) h w)
    (hb : BotR f0 b.cs b.fn b.kind b.rnd) : Sim P C w0 f0 cs0 (retTop C b tm h todo) (lone F (Cs ++ cs0) w) := by
  unfold retTop
  split
  · rename_i d dl hd
    exact def_sim hC (by simp) hd hf hcs hw hb
  · rename_i hd
    obtain ⟨bfn, bnt, bdefs, bkind, brnd, bcs⟩ := b
    simp only at hd; subst hd
    obtain ⟨Fn, tmps, Ftodo, ds, Fmode, Fkind, Frnd⟩ := F
    obtain ⟨h1, h2, h3, h4, h5, h6, h7, h8⟩ := hf
    clear h7
    obtain ⟨t1, t2, t3⟩ := h8 (by simp [Ba.fr])
    subst t2
    have h5 : Fmode = .returning := h5
    have h1 : Fn = bfn := h1
    have h2 : Fkind = bkind := h2
    have h6 : ds = [] := h6
    have t3 : tmR ε tm bnt tmps := t3
    subst h1 h2 h5 h6
    have hw : WR w0 ε pds.flatten h w := by simpa using hw
    unfold ret2
    split
    · trivial
    · rename_i i hi
      obtain ⟨fn, hfn, _, _, hres⟩ := (hC.fs _ i hi).fn
      unfold ret3
      split
      · trivial
      · rename_i l hl
        rw [← hres] at hl
        obtain ⟨y, g1, g2⟩ := run_results (P := P) hC hw.hr t3.2 hl
        split
        · rename_i hcs0
          have hcs0 : bcs = [] := hcs0
          subst hcs0
          obtain ⟨rfl, rfl⟩ := hcs
          obtain ⟨b1, b2, b3⟩ := hb
          exact ⟨ε, h, y, w, _, .refl _ _, ⟨rfl, rfl, b2, fn, hfn, g1⟩, b1, g2, by simpa using hw⟩
        · rename_i c rest hcs1
          refine back_sim (x := Fn) (z := brnd) hcs hw g2 hb rfl ?_
          simp [stepG, unwind, hfn, g1]
  
/-- a frame that panics -/
theorem pan_sim (hC : CtxOk P C) {b : Ba} {tm : T V} {todo : List It} {c : List (V × Bool)} {F : Frame} (hf : FrR C ε false pd (b.fr (.pan c) tm todo) F) (hcs : FrRs C ε pds b.cs Cs) (hw : WR w0 ε (pd ++ pds.flatten) h w)
    (hb : BotR f0 b.cs b.fn b.kind b.rnd) : Sim P C w0 f0 cs0 (panTop C b tm h todo c) (lone F (Cs ++ cs0) w) := by
  unfold panTop
  split
  · rename_i d dl hd
    exact def_sim hC (by simp) hd hf hcs hw hb
  · rename_i hd
    split
    · rename_i i f rest hi hbcs
      obtain ⟨bfn, bnt, bdefs, bkind, brnd, bcs⟩ := b
      simp only at hd hbcs hcs hb hi; subst hd hbcs
      obtain ⟨Fn, tmps, Ftodo, ds, Fmode, Fkind, Frnd⟩ := F
      obtain ⟨h1, h2, h3, h4, h5, h6, h7, h8⟩ := hf
      clear h7
      obtain ⟨t1, t2, t3⟩ := h8 (by simp [Ba.fr])
      subst t2
      obtain ⟨c', hc, h5⟩ := h5
      have h5 : Fmode = .panicking c' := h5
      have h1 : Fn = bfn := h1
      have h2 : Fkind = bkind := h2
      have h6 : ds = [] := h6
      subst h1 h2 h5 h6
      obtain ⟨fn, hfn, _⟩ := (hC.fs _ i hi).fn
      rw [FrRs] at hcs
      obtain ⟨pd1, pds1, Fc, Fs, g1, g2, rfl, rfl⟩ := hcs
      refine .of_mr (m' := lone (Fc.raise c') (Fs ++ cs0) w) (.one (step_lone_go ?_)) (fun s' e => raise_mr g1 g2 (by simpa using hw) hc hb.pop e) (fun x e => raise_res e)
      simp [stepG, unwind, Frame.catches, hfn]
    · trivial

/-- a step of the evaluator is steps of the machine -/
theorem step_sound (hC : CtxOk P C) {s : St} {m : Machine} (r : MR P C w0 f0 cs0 s m) : Sim P C w0 f0 cs0 (stepF C s) m := by
  obtain ⟨⟨ε, pd, pds, F, Cs, w, rfl, hw, hf, hcs⟩, hb⟩ := r
  obtain ⟨b, mode, tm, h, todo⟩ := s
  cases mode with
  | run => exact run_sim hC hf hcs hw hb
  | ret => exact ret_sim hC hf hcs hw hb
  | pan c => exact pan_sim hC hf hcs hw hb
end
end Go.Lev
namespace Go.Lev
open Go
/-! ### the tables -/
theorem putAll_get {α β : Type} (g : Nat → α → β) : ∀ (l : List α) (t t' : T (Option β)) (i : Nat), putAll g l t i = some t' → ∀ j, t'.get none j = if i ≤ j ∧ j < i + l.length then (l[j - i]?).map (g j) else t.get none j
  | [], t, t', i, h, j => by
    cases h
    rw [if_neg]
    simp
  | a :: l, t, t', i, h, j => by
    unfold putAll at h
    split at h
    · rename_i t1 hset
      rw [putAll_get g l t1 t' (i + 1) h j, T.get_set hset]
      by_cases e : j = i
      · subst e; simp; intro h; omega
      · rw [if_neg e]
        simp only [List.length_cons]
        by_cases c : i + 1 ≤ j ∧ j < i + 1 + l.length
        · rw [if_pos c, if_pos (by omega), show j - i = (j - (i + 1)) + 1 by omega, List.getElem?_cons_succ]
        · rw [if_neg c, if_neg (by omega)]
    · cases h
theorem ctx_at {α β : Type} (g : Nat → α → β) (l : List α) (j : Nat) (b : β) (h : T.get none ((putAll g l (T.full none 24) 0).getD .leaf) j = some b) : ∃ a, l[j]? = some a ∧ b = g j a := by
  cases hp : putAll g l (T.full none 24) 0 with
  | none => rw [hp] at h; simp [T.get_leaf] at h
  | some t =>
    rw [hp, Option.getD_some, putAll_get g l _ t 0 hp j] at h
    by_cases c : 0 ≤ j ∧ j < 0 + l.length
    · rw [if_pos c, Nat.sub_zero] at h
      cases ha : l[j]? with
      | none => rw [ha] at h; cases h
      | some a => rw [ha] at h; cases h; exact ⟨a, rfl, rfl⟩
    · rw [if_neg c, T.get_full] at h; cases h

noncomputable def wfTypes (P : Program) : Bool := P.types.toList.all fun i => match i.desc with | .named _ u => Nat.blt u P.types.size | _ => true

theorem info_lt (P : Program) {t : Nat} {i : TypeInfo} (h : P.types[t]? = some i) : P.info? t = some i := by
  have := (Array.getElem?_eq_some_iff.1 h).1
  unfold Tables.info?
  rw [if_pos this]; exact h

theorem ctxOk_of {P : Program} {xt pr : List (Nat × Nat)} (hty : wfTypes P = true) (hm : P.follows .mixedOrders = true)
    (hx : ∀ f n, findPr f xt = some n → XtOk P f n) (hp : ∀ f n, findPr f pr = some n → PrOk P f n) :
    CtxOk P (ctxOf P xt pr) where
  ext := hx
  prim := hp
  mixed := hm
  ty := by
    intro t i hi
    obtain ⟨a, ha0, rfl⟩ := ctx_at (tiOf P) P.types.toList t i hi
    have ha : P.types[t]? = some a := by simpa using ha0
    clear ha0 hi
    have hinf := info_lt P ha
    constructor
    · refine ⟨a, hinf, rfl, rfl, rfl, fun hz => ?_⟩
      have hz : (a.zero.isSome && !isAny (absV (a.zero.getD .nilFunc))) = true := hz
      rw [Bool.and_eq_true] at hz
      obtain ⟨z, hz1⟩ := Option.isSome_iff_exists.1 hz.1
      exact ⟨z, hz1, by show absV (a.zero.getD .nilFunc) = absV z; rw [hz1]; rfl⟩
    · unfold Program.underlying
      rw [hinf]
      show _ = some (match a.desc with | .named _ u => (match P.types[u]? with | some j => j.desc | none => .invalid) | d => d)
      obtain ⟨desc, str, size, bytes, hp, al, fal, zero, cmp, meths⟩ := a
      cases desc
      case named nm u =>
        have := List.all_eq_true.1 hty _ (Array.mem_toList_iff.2 (Array.mem_of_getElem? ha))
        simp only [Nat.blt_eq] at this
        have hu : P.types[u]? = some P.types[u] := Array.getElem?_eq_getElem this
        simp only
        rw [info_lt P hu, hu]
        rfl
      all_goals rfl
    · rfl
    · rfl
    · intro hz
      have hz : (a.zero.isSome && !isAny (absV (a.zero.getD .nilFunc))) = true := hz
      rw [Bool.and_eq_true] at hz
      intro e
      have e : absV (a.zero.getD .nilFunc) = .any := e
      rw [e] at hz
      cases hz.2
    · rfl
    · rfl
  fs := by
    intro f i hi
    obtain ⟨a, ha, rfl⟩ := ctx_at fiOf P.funcs.toList f i hi
    have ha : P.funcs[f]? = some a := by simpa using ha
    refine ⟨a, ha, fun hok => ?_, rfl, rfl⟩
    have hok : (a.body.isSome && !(a.name == "runtime.NumGoroutine")) = true := hok
    rw [Bool.and_eq_true] at hok
    obtain ⟨z, hz⟩ := Option.isSome_iff_exists.1 hok.1
    exact ⟨by show a.body = some (a.body.getD .skip); rw [hz]; rfl, by simpa using hok.2⟩

theorem findPr_cons {f a b n : Nat} {l : List (Nat × Nat)} (h : findPr f ((a, b) :: l) = some n) : (f = a ∧ n = b) ∨ findPr f l = some n := by
  unfold findPr at h
  simp only at h
  split at h
  · rename_i e
    cases h
    exact .inl ⟨(beq_nat e).symm, rfl⟩
  · exact .inr h
/-- a program whose only function of the library without a body is maps.clone -/
theorem ctxOk_clone {P : Program} {n : Nat} {fn : Func} (hty : wfTypes P = true) (hm : P.follows .mixedOrders = true) (hfn : P.funcs[n]? = some fn) (hb : fn.body.isNone = true)
    (h1 : (fn.name == "runtime.NumGoroutine") = false) (h2 : Extern.findNext fn = none) (h3 : Extern.find fn = some Extern.MapsClone.clone) : CtxOk P (ctxOf P [(n, 1)] []) := by
  refine ctxOk_of hty hm (fun f m h => ?_) (fun f m h => by simp [findPr] at h)
  rcases findPr_cons h with ⟨rfl, rfl⟩ | h
  · exact ⟨fn, hfn, by simpa using hb, h1, h2, h3⟩
  · simp [findPr] at h

/-! ### runs -/
section
variable {P : Program} {C : Ctx}
/-- what the run comes to: the call returns true, and of what was there nothing is turned -/
def Fin (P : Program) (w0 : World) (f0 : Nat) (cs0 : List Frame) (m : Machine) : Prop :=
  ∃ w F, Steps P m (lone F cs0 w) ∧ F.leaving P w (.returned (.bool true)) ∧ F.fn = f0 ∧ w0.keptBut w (fun _ => False)
/-- wherever the machine stands as the evaluator does, it comes to that -/
def Good (P : Program) (C : Ctx) (s : St) : Prop := ∀ (w0 : World) (f0 : Nat) (cs0 : List Frame) (m : Machine), MR P C w0 f0 cs0 s m → Fin P w0 f0 cs0 m

theorem Fin.steps {w0 : World} {f0 : Nat} {cs0 : List Frame} {m m' : Machine} (h : Steps P m m') (g : Fin P w0 f0 cs0 m') : Fin P w0 f0 cs0 m := by
  obtain ⟨w, F, h1, h2⟩ := g; exact ⟨w, F, h.trans h1, h2⟩

theorem WR.kept {w0 w : World} {ε : Env} {pd : Pd} {h : Hp} (r : WR w0 ε pd h w) : w0.keptBut w (fun _ => False) := by
  refine ⟨r.os, r.out, fun i hi => ?_⟩
  rw [r.old i hi]
  split
  · rename_i c t fr c' t' fr' e1 e2
    rw [e1] at e2; cases e2
    exact ⟨rfl, rfl, rfl, fun _ _ => rfl⟩
  · rename_i es clock es' clock' e1 e2
    rw [e1] at e2; cases e2
    exact .inr ⟨rfl, rfl⟩
  · rfl

/-- what the evaluator's answer says -/
def Says (P : Program) (C : Ctx) (w0 : World) (f0 : Nat) (cs0 : List Frame) (r : R) (m : Machine) : Prop :=
  match r with
  | .inl s => ∃ m', Steps P m m' ∧ MR P C w0 f0 cs0 s m'
  | .inr r => Sim P C w0 f0 cs0 (.inr r) m
theorem iter_sound (hC : CtxOk P C) {w0 : World} {f0 : Nat} {cs0 : List Frame} : ∀ (n : Nat) (s : St) (m : Machine), MR P C w0 f0 cs0 s m → Sim P C w0 f0 cs0 (iterN (stepF C) n s) m
  | 0, s, m, h => ⟨m, .refl _ _, h⟩
  | n + 1, s, m, h => by
    have h1 := step_sound hC h
    show Sim P C w0 f0 cs0 (Sum.rec (motive := fun _ => R) (fun a' => iterN (stepF C) n a') (fun b => .inr b) (stepF C s)) m
    cases hs : stepF C s with
    | inl s' =>
      rw [hs] at h1
      obtain ⟨m', g1, g2⟩ := h1
      exact (iter_sound hC n s' m' g2).steps g1
    | inr r => rw [hs] at h1; exact h1

theorem Good.of_iter (hC : CtxOk P C) {n : Nat} {s s' : St} (h : iterN (stepF C) n s = .inl s') (g : Good P C s') : Good P C s := by
  intro w0 f0 cs0 m hm
  have := iter_sound hC n s m hm
  rw [h] at this
  obtain ⟨m', g1, g2⟩ := this
  exact (g w0 f0 cs0 m' g2).steps g1
theorem isTrue_eq {v : V} (h : isTrue v = true) : v = .bool true := by
  cases v <;> first | (simp only [isTrue] at h; rw [h]) | (simp [isTrue] at h)
theorem Good.of_done (hC : CtxOk P C) {n : Nat} {s : St} {v : V} (h : iterN (stepF C) n s = .inr (.done v)) (hv : isTrue v = true) : Good P C s := by
  intro w0 f0 cs0 m hm
  have := iter_sound hC n s m hm
  rw [h] at this
  obtain ⟨ε, hh, y, w, F, g1, g2, g3, g4, g5⟩ := this
  rw [isTrue_eq hv, VR] at g4
  subst g4
  exact ⟨w, F, g1, g2, g3, g5.kept⟩
theorem Good.of_more (hC : CtxOk P C) {n : Nat} {s : St} {l : List St} (h : iterN (stepF C) n s = .inr (.more l)) (g : ∀ s' ∈ l, Good P C s') : Good P C s := by
  intro w0 f0 cs0 m hm
  have := iter_sound hC n s m hm
  rw [h] at this
  obtain ⟨s', hs', m', g1, g2⟩ := this
  exact (g s' hs' w0 f0 cs0 m' g2).steps g1
theorem Good.of_run (hC : CtxOk P C) {fuel : Nat} : ∀ (d : Nat) (s : St), runF C fuel d s = true → Good P C s
  | 0, s, h => by cases h
  | d + 1, s, h => by
    unfold runF at h
    split at h
    · cases h
    · rename_i r hr
      split at h
      · cases h
      · rename_i v
        exact .of_done hC hr h
      · rename_i l
        refine .of_more hC hr fun s' hs' => ?_
        exact Good.of_run hC d s' (List.all_eq_true.1 h s' hs')

/-- the heap at first -/
noncomputable def hp0 : Hp := { t := T.full .dead 24, nx := 0, ro := 0 }
theorem WR.start (w : World) : WR w ⟨fun _ => none, fun _ => 0⟩ [] hp0 w where
  hr := ⟨(by intro b c hb; cases hb), (by intro g hg; cases hg)⟩
  inj := by intro b b' c hb; cases hb
  fresh := by intro b c hb; cases hb
  base := by intro b c hb; cases hb
  old := fun _ _ => rfl
  size := Nat.le_refl _
  os := rfl
  out := rfl
  tape := rfl
  pend := by intro p hp; cases hp
  pn := by simp
  nxd := by intro b _; show T.get Ob.dead (T.full Ob.dead 24) b = Ob.dead; exact T.get_full _ _ _

/-- the variables lie where they lie -/
def e0 (ro : Nat) : Env := ⟨fun g => if g < ro then some g else none, fun _ => 0⟩
/-- the memory holds, at first, what the heap says of the variables -/
structure Starts (w : World) (h0 : Hp) : Prop where
  nx : h0.nx = h0.ro
  dead : ∀ b, h0.ro ≤ b → h0.get b = .dead
  gl : ∀ g, g < h0.ro → ∃ o, w.heap[g]? = some o ∧ obR (e0 h0.ro) g (h0.get g) o
theorem e0_some {ro b c : Nat} (h : (e0 ro).φ b = some c) : b < ro ∧ c = b := by
  unfold e0 at h
  simp only at h
  split at h
  · rename_i hlt; cases h; exact ⟨hlt, rfl⟩
  · cases h
theorem WR.startG {w : World} {h0 : Hp} (s : Starts w h0) : WR w (e0 h0.ro) [] h0 w where
  hr := ⟨(fun b c hb => by obtain ⟨h1, rfl⟩ := e0_some hb; exact s.gl _ h1), (fun g hg => by simp [e0, hg])⟩
  inj := by intro b b' c hb hb' _ _; obtain ⟨_, rfl⟩ := e0_some hb; exact (e0_some hb').2
  fresh := by intro b c hb; rw [s.nx]; exact (e0_some hb).1
  base := by intro b c hb hle; have := (e0_some hb).1; omega
  old := fun _ _ => rfl
  size := Nat.le_refl _
  os := rfl
  out := rfl
  tape := rfl
  pend := by intro p hp; cases hp
  pn := by simp
  nxd := by intro b hb; exact s.dead b (by rw [← s.nx]; exact hb)

noncomputable def okF (C : Ctx) (f : Nat) : Bool := match C.fi f with | some i => i.ok | none => false
/-- a call without arguments -/
theorem calls_of_good (hC : CtxOk P C) {f : Nat} (hok : okF C f = true) {s : St} (hs : startSt C f [] = .inl s) (g : Good P C s) (w : World) :
    Calls P f #[] w fun e w' => e = .returned (.bool true) ∧ w.keptBut w' (fun _ => False) := by
  intro cs0
  unfold okF at hok
  split at hok
  · rename_i i hi
    have hmr : MR P C w f cs0 s (lone (Frame.enter P f #[] .normal) ([] ++ cs0) w) :=
      enter_mr (ε := ⟨fun _ => none, fun _ => 0⟩) (pds := []) (cs := []) (Cs := []) (args := []) (xs := #[]) hC hi hok VRs.nil ⟨rfl, rfl⟩ (WR.start w) (.inl rfl) ⟨rfl, rfl, rfl⟩ hs
    obtain ⟨w', F, g1, g2, g3, g4⟩ := g w f cs0 _ hmr
    exact ⟨.returned (.bool true), w', F, ⟨rfl, g4⟩, g1, g3, g2⟩
  · cases hok

theorem calls_of_goodG (hC : CtxOk P C) {f : Nat} {h0 : Hp} (hok : okF C f = true) {s : St} (hs : enterR C f [] .normal [] h0 = .inl s) (g : Good P C s) (w : World) (st : Starts w h0) :
    Calls P f #[] w fun e w' => e = .returned (.bool true) ∧ w.keptBut w' (fun _ => False) := by
  intro cs0
  unfold okF at hok
  split at hok
  · rename_i i hi
    have hmr : MR P C w f cs0 s (lone (Frame.enter P f #[] .normal) ([] ++ cs0) w) :=
      enter_mr (ε := e0 h0.ro) (pds := []) (cs := []) (Cs := []) (args := []) (xs := #[]) hC hi hok VRs.nil ⟨rfl, rfl⟩ (WR.startG st) (.inl rfl) ⟨rfl, rfl, rfl⟩ hs
    obtain ⟨w', F, g1, g2, g3, g4⟩ := g w f cs0 _ hmr
    exact ⟨.returned (.bool true), w', F, ⟨rfl, g4⟩, g1, g3, g2⟩
  · cases hok

noncomputable def runB (C : Ctx) (f fuel d : Nat) : Bool := match startSt C f [] with | .inl s => okF C f && runF C fuel d s | .inr _ => false
theorem calls_of_run (hC : CtxOk P C) {f fuel d : Nat} (h : runB C f fuel d = true) (w : World) :
    Calls P f #[] w fun e w' => e = .returned (.bool true) ∧ w.keptBut w' (fun _ => False) := by
  unfold runB at h
  split at h
  · rename_i s hs
    rw [Bool.and_eq_true] at h
    exact calls_of_good hC h.1 hs (.of_run hC d s h.2) w
  · cases h
end
end Go.Lev
namespace Go.Lev
open Go
/-! ### runs in parts: a state between two of them is written down, and what nobody reaches any more is forgotten -/
/-- a part of a code -/
noncomputable def codeStep (i : Nat) (c : Code) : Code :=
  match c with
  | .seq a b => (match i with | 0 => a | _ => b)
  | .cond _ a b => (match i with | 0 => a | _ => b)
  | .block _ a => a
  | .loop a => a
  | .scope a => a
  | .rangeFunc _ _ a b => (match i with | 0 => a | _ => b)
  | c => c
noncomputable def codeAt (f : Func) (p : List Nat) : Code := lrec (β := Code → Code) (fun c => c) (fun i _ ih c => ih (codeStep i c)) p (f.body.getD .skip)
noncomputable def opsAt (f : Func) (p : List Nat) : Array Oper := match codeAt f p with | .region _ ops _ => ops | _ => #[]
noncomputable def nI (n : Nat) : V := .int .i64 (.ofNat n)
noncomputable def nU (n : Nat) : V := .int .u64 (.ofNat n)
noncomputable def nB (n : Nat) : V := .int .u8 (.ofNat n)
noncomputable def fB (k : Nat) : T V := T.full (nB 0) k
noncomputable def fZ (k : Nat) : T V := T.full (nU 0) k
noncomputable def lB (v : V) (k : Nat) : T V := .node v (T.full (nB 0) k) (T.full (nB 0) k)
noncomputable def lZ (v : V) (k : Nat) : T V := .node v (T.full (nU 0) k) (T.full (nU 0) k)
noncomputable def fU (k : Nat) : T V := T.full undefV k
noncomputable def fA (k : Nat) : T V := T.full .any k
noncomputable def fD (k : Nat) : T Ob := T.full .dead k
noncomputable def lU (v : V) (k : Nat) : T V := .node v (T.full undefV k) (T.full undefV k)
noncomputable def lA (v : V) (k : Nat) : T V := .node v (T.full .any k) (T.full .any k)
noncomputable def lD (v : Ob) (k : Nat) : T Ob := .node v (T.full .dead k) (T.full .dead k)
noncomputable def bs (l : List Nat) : List UInt8 := l.map UInt8.ofNat

noncomputable def keepT (h : Hp) : List Nat → T Ob → Option (T Ob)
  | [], t => some t
  | b :: l, t => (match t.set? (h.get b) b with | some t' => keepT h l t' | none => none)
noncomputable def keepH (l : List Nat) (h : Hp) : Option Hp := match keepT h l (T.full .dead 24) with | some t => some ⟨t, h.nx, h.ro⟩ | none => none
noncomputable def cutR (l : List Nat) (r : R) : R :=
  match r with
  | .inl s => (match s with | ⟨b, mode, tm, h, todo⟩ => (match keepH l h with | some h' => .inl ⟨b, mode, tm, h', todo⟩ | none => badR "keep"))
  | .inr r => .inr r

theorem keepT_get (h : Hp) : ∀ (l : List Nat) (t t' : T Ob), keepT h l t = some t' → ∀ x, t'.get .dead x = h.get x ∨ t'.get .dead x = t.get .dead x
  | [], t, t', e, x => by cases e; exact .inr rfl
  | b :: l, t, t', e, x => by
    unfold keepT at e
    split at e
    · rename_i t1 hs
      rcases keepT_get h l t1 t' e x with g | g
      · exact .inl g
      · rw [T.get_set hs] at g
        by_cases c : x = b
        · rw [if_pos c] at g; rw [g, c]; exact .inl rfl
        · rw [if_neg c] at g; exact .inr g
    · cases e
theorem keepH_get {l : List Nat} {h h' : Hp} (e : keepH l h = some h') : (h'.nx = h.nx ∧ h'.ro = h.ro) ∧ ∀ x, h'.get x = h.get x ∨ h'.get x = .dead := by
  unfold keepH at e
  split at e
  · rename_i t ht
    cases e
    refine ⟨⟨rfl, rfl⟩, fun x => ?_⟩
    rcases keepT_get h l _ t ht x with g | g
    · exact .inl g
    · right
      show t.get .dead x = .dead
      rw [g]; exact T.get_full _ _ _
  · cases e
theorem WR.keep {w0 : World} {ε : Env} {pd : Pd} {h h' : Hp} {w : World} {l : List Nat} (r : WR w0 ε pd h w) (e : keepH l h = some h') : WR w0 ε pd h' w := by
  obtain ⟨⟨hnx, hro⟩, hget⟩ := keepH_get e
  have hlive : ∀ x, h'.get x ≠ .dead → h'.get x = h.get x := fun x hx => (hget x).resolve_right hx
  constructor
  · refine ⟨?_, by rw [hro]; exact r.hr.gl⟩
    intro b c hb
    obtain ⟨o, ho, hr⟩ := r.hr.blk b c hb
    refine ⟨o, ho, ?_⟩
    rcases hget b with g | g
    · rw [g]; exact hr
    · rw [g]; trivial
  · intro b b' c hb hb' hl hl'
    exact r.inj b b' c hb hb' (by rw [← hlive b hl]; exact hl) (by rw [← hlive b' hl']; exact hl')
  · rw [hnx]; exact r.fresh
  · rw [hro]; exact r.base
  · exact r.old
  · exact r.size
  · exact r.os
  · exact r.out
  · exact r.tape
  · intro p hp
    obtain ⟨g1, g2, g3⟩ := r.pend p hp
    refine ⟨g1, by rw [hnx]; exact g2, ?_⟩
    rcases hget p.1 with g | g
    · rw [g]; exact g3
    · exact .inr g
  · exact r.pn
  · intro b hb
    rw [hnx] at hb
    rcases hget b with g | g
    · rw [g]; exact r.nxd b hb
    · exact g

section
variable {P : Program} {C : Ctx}
theorem Good.of_cut {l : List Nat} {s s' : St} (h : cutR l (.inl s) = .inl s') (g : Good P C s') : Good P C s := by
  obtain ⟨b, mode, tm, h0, todo⟩ := s
  unfold cutR at h
  simp only at h
  split at h
  · rename_i h1 hk
    cases h
    intro w0 f0 cs0 m hm
    obtain ⟨⟨ε, pd, pds, F, Cs, w, e, hw, hf, hcs⟩, hb⟩ := hm
    exact g w0 f0 cs0 m ⟨⟨ε, pd, pds, F, Cs, w, e, hw.keep hk, hf, hcs⟩, hb⟩
  · cases h
/-- a part of a run -/
theorem Good.of_part (hC : CtxOk P C) {l : List Nat} {n : Nat} {s s' : St} (h : cutR l (iterN (stepF C) n s) = .inl s') (g : Good P C s') : Good P C s := by
  cases hi : iterN (stepF C) n s with
  | inl s1 => rw [hi] at h; exact .of_iter hC hi (.of_cut h g)
  | inr r => rw [hi] at h; cases h
noncomputable def fromStart (C : Ctx) (f n : Nat) : R := match startSt C f [] with | .inl s => iterN (stepF C) n s | .inr r => .inr r
/-- the first part of a run -/
theorem calls_of_parts (hC : CtxOk P C) {f n : Nat} (hok : okF C f = true) {l : List Nat} {s : St} (h : cutR l (fromStart C f n) = .inl s) (g : Good P C s) (w : World) :
    Calls P f #[] w fun e w' => e = .returned (.bool true) ∧ w.keptBut w' (fun _ => False) := by
  unfold fromStart at h
  split at h
  · rename_i s0 hs
    exact calls_of_good hC hok hs (.of_part hC h g) w
  · cases h
noncomputable def fromStartG (C : Ctx) (f : Nat) (h0 : Hp) (n : Nat) : R := match enterR C f [] .normal [] h0 with | .inl s => iterN (stepF C) n s | .inr r => .inr r
/-- the first part of a run over variables -/
theorem calls_of_partsG (hC : CtxOk P C) {f n : Nat} {h0 : Hp} (hok : okF C f = true) {l : List Nat} {s : St} (h : cutR l (fromStartG C f h0 n) = .inl s) (g : Good P C s) (w : World) (st : Starts w h0) :
    Calls P f #[] w fun e w' => e = .returned (.bool true) ∧ w.keptBut w' (fun _ => False) := by
  unfold fromStartG at h
  split at h
  · rename_i s0 hs
    exact calls_of_goodG hC hok hs (.of_part hC h g) w st
  · cases h
/-- each of some states goes on, so many steps -/
noncomputable def runEach (C : Ctx) (live : List Nat) : List St → List Nat → List R
  | [], _ => []
  | s :: l, ns => match ns with
    | [] => [badR "join"]
    | n :: ns => cutR live (iterN (stepF C) n s) :: runEach C live l ns
noncomputable def joinR (C : Ctx) (live : List Nat) (ns : List Nat) (r : R) : List R :=
  match r with
  | .inl _ => [badR "join"]
  | .inr r => (match r with | .more l => runEach C live l ns | _ => [badR "join"])
theorem runEach_good (hC : CtxOk P C) {live : List Nat} {s' : St} (g : Good P C s') : ∀ (l : List St) (ns : List Nat), (∀ r ∈ runEach C live l ns, r = .inl s') → ∀ s ∈ l, Good P C s
  | [], _, _, s, hs => by cases hs
  | a :: l, ns, h, s, hs => by
    unfold runEach at h
    cases ns with
    | nil => have := h _ (List.mem_cons_self ..); cases this
    | cons n ns =>
      rcases List.mem_cons.1 hs with rfl | hs
      · exact .of_part hC (h _ (List.mem_cons_self ..)) g
      · exact runEach_good hC g l ns (fun r hr => h r (List.mem_cons_of_mem _ hr)) s hs
/-- ways that part, and come together again -/
theorem Good.of_join (hC : CtxOk P C) {live ns : List Nat} {n k : Nat} {s s' : St} (h : joinR C live ns (iterN (stepF C) n s) = List.replicate k (.inl s')) (g : Good P C s') : Good P C s := by
  have hall : ∀ r ∈ joinR C live ns (iterN (stepF C) n s), r = .inl s' := by rw [h]; intro r hr; exact List.eq_of_mem_replicate hr
  cases hi : iterN (stepF C) n s with
  | inl s1 => rw [hi] at hall; have := hall _ (List.mem_cons_self ..); cases this
  | inr r =>
    rw [hi] at hall
    unfold joinR at hall
    cases r with
    | more l => exact .of_more hC hi (runEach_good hC g l ns hall)
    | done v => have := hall _ (List.mem_cons_self ..); cases this
    | bad w => have := hall _ (List.mem_cons_self ..); cases this
end
end Go.Lev
