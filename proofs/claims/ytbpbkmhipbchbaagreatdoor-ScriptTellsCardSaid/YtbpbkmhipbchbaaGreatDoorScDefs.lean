/-
  PLAIN DEFINITIONS (no program in sight): what package script and its reference compute, on lists of bytes. Conditions: none.
-/
import Derived.Lib.ItoaNum
import Derived.Lib.ParseIntB
import Derived.Lib.Split
import Derived.Lib.Join
namespace Go.Proofs.YtbpbkmhipbchbaaGreatDoor.sc

abbrev Bs := List UInt8
/-- A call: what, key, upper key, how many, value. -/
structure Cl where
  op : Int
  key : Int
  hi : Int
  lim : Int
  val : Bs
deriving DecidableEq
/-- An act. -/
structure Ac where
  kind : Int
  client : Int
  call : Cl
  at_ : Int
  n : Int
  keep : List Int
deriving DecidableEq

def Cl.zero : Cl := ⟨0, 0, 0, 0, []⟩
def Ac.zero : Ac := ⟨0, 0, Cl.zero, 0, 0, []⟩

/-! ### The names -/
def sNone : Bs := [110, 111, 110, 101]
def sInvoke : Bs := [105, 110, 118, 111, 107, 101]
def sPick : Bs := [112, 105, 99, 107]
def sEvict : Bs := [101, 118, 105, 99, 116]
def sCrash : Bs := [99, 114, 97, 115, 104]
def sOpen : Bs := [111, 112, 101, 110]
def sScavenge : Bs := [115, 99, 97, 118, 101, 110, 103, 101]
def sBoot : Bs := [98, 111, 111, 116]
def kindsL : List Bs := [sNone, sInvoke, sPick, sEvict, sCrash, sOpen, sScavenge, sBoot]
def sClosed : Bs := [99, 108, 111, 115, 101, 100]
def sOpening : Bs := [111, 112, 101, 110, 105, 110, 103]
def sOpened : Bs := [111, 112, 101, 110, 101, 100]
def sScavenging : Bs := [115, 99, 97, 118, 101, 110, 103, 105, 110, 103]
def sReady : Bs := [114, 101, 97, 100, 121]
def sReadonly : Bs := [114, 101, 97, 100, 111, 110, 108, 121]
def statesL : List Bs := [sNone, sClosed, sOpening, sOpened, sScavenging, sReady, sReadonly]
def sPut : Bs := [112, 117, 116]
def sGet : Bs := [103, 101, 116]
def sDelete : Bs := [100, 101, 108, 101, 116, 101]
def sScan : Bs := [115, 99, 97, 110]
def opsL : List Bs := [sNone, sPut, sGet, sDelete, sScan]
def sLevee : Bs := [108, 101, 118, 101, 101]

/-! ### Numbers and bytes -/
def num (n : Int) : Bs := Go.Lib.itoa n
/-- A hexadecimal digit. -/
def hexd (n : Nat) : UInt8 := if n < 10 then UInt8.ofNat (48 + n) else UInt8.ofNat (87 + n)
def hex2 (b : UInt8) : Bs := [hexd (b.toNat / 16), hexd (b.toNat % 16)]
def digits (l : Bs) : Bs := if l = [] then [45] else l.flatMap hex2
def hexes : Bs := [48, 49, 50, 51, 52, 53, 54, 55, 56, 57, 97, 98, 99, 100, 101, 102]
/-- Pairs of hexadecimal digits, as bytes. -/
def unhexP : Bs → Option Bs
  | [] => some []
  | [_] => none
  | a :: b :: r =>
    if Go.Lib.indexByte hexes a < 0 ∨ Go.Lib.indexByte hexes b < 0 then none
    else (unhexP r).map fun t => UInt8.ofNat ((Go.Lib.indexByte hexes a).toNat * 16 + (Go.Lib.indexByte hexes b).toNat) :: t
def valueP (l : Bs) : Option Bs := if l = [45] then some [] else if l = [] then none else unhexP l
/-- The number of digits, if they are a number's own. -/
def any64 (l : Bs) : Option Nat :=
  match Go.Lib.parseUintB 64 l with
  | .ok u => if Go.Lib.decDigits u = l then some u else none
  | _ => none
def whole (l : Bs) (lo hi : Int) : Option Int :=
  match any64 l with
  | some n => if lo ≤ n ∧ (n : Int) ≤ hi then some n else none
  | none => none
/-- The greatest number of a client, and so on. -/
def big : Int := 1099511627776
def maxScript : Int := 100000

/-! ### Words -/
def callW (c : Cl) : List Bs :=
  if c.op = 1 then [sPut, num c.key, digits c.val]
  else if c.op = 2 then [sGet, num c.key]
  else if c.op = 3 then [sDelete, num c.key]
  else if c.op = 4 then [sScan, num c.key, num c.hi, num c.lim]
  else [sNone, num c.key]
def wordsL (a : Ac) (n : Int) : List Bs :=
  if a.kind = 1 then sInvoke :: num a.client :: callW a.call
  else if a.kind = 2 then [sPick, num a.client, num n]
  else if a.kind = 3 then [sEvict, num a.at_, num a.n]
  else if a.kind = 4 then sCrash :: a.keep.map num
  else if a.kind = 5 then [sOpen]
  else if a.kind = 6 then [sScavenge]
  else [sBoot, num n]
/-- The first place of a word among some, or -1. -/
def idx (x : Bs) : List Bs → Nat → Int
  | [], _ => -1
  | y :: r, i => if y = x then i else idx x r (i + 1)
def ofCall (l : List Bs) : Option Cl :=
  match l with
  | o :: k :: r =>
    match any64 k with
    | none => none
    | some key =>
      if idx o opsL 0 = 1 ∧ r.length = 1 then (valueP (r.getD 0 [])).map fun v => ⟨1, key, 0, 0, v⟩
      else if idx o opsL 0 = 4 ∧ r.length = 2 then
        match any64 (r.getD 0 []), whole (r.getD 1 []) 0 big with
        | some h, some m => some ⟨4, key, h, m, []⟩
        | _, _ => none
      else if (idx o opsL 0 = 2 ∨ idx o opsL 0 = 3) ∧ r.length = 0 then some ⟨idx o opsL 0, key, 0, 0, []⟩
      else none
  | _ => none
def keeps : List Bs → Option (List Int)
  | [] => some []
  | x :: r =>
    match whole x 0 big, keeps r with
    | some k, some t => some (k :: t)
    | _, _ => none
def ofL (l : List Bs) : Option (Ac × Int) :=
  match l with
  | [] => none
  | o :: f =>
    let k := idx o kindsL 0
    if k = 1 then
      match f with
      | [] => none
      | c :: r =>
        match whole c 0 big, ofCall r with
        | some c, some y => some (⟨1, c, y, 0, 0, []⟩, 1)
        | _, _ => none
    else if k = 2 ∧ f.length = 2 then
      match whole (f.getD 0 []) 0 big, whole (f.getD 1 []) 1 maxScript with
      | some c, some n => some (⟨2, c, Cl.zero, 0, 0, []⟩, n)
      | _, _ => none
    else if k = 3 ∧ f.length = 2 then
      match any64 (f.getD 0 []), whole (f.getD 1 []) 0 big with
      | some p, some n => some (⟨3, 0, Cl.zero, p, n, []⟩, 1)
      | _, _ => none
    else if k = 4 then (keeps f).map fun t => (⟨4, 0, Cl.zero, 0, 0, t⟩, 1)
    else if k = 5 ∧ f.length = 0 then some (⟨5, 0, Cl.zero, 0, 0, []⟩, 1)
    else if k = 6 ∧ f.length = 0 then some (⟨6, 0, Cl.zero, 0, 0, []⟩, 1)
    else if k = 7 ∧ f.length = 1 then (whole (f.getD 0 []) 1 maxScript).map fun n => (⟨7, 0, Cl.zero, 0, 0, []⟩, n)
    else none

/-- A text cut at each blank (32). -/
def splitC (c : UInt8) : Bs → List Bs
  | [] => [[]]
  | x :: r => if x = c then [] :: splitC c r else
    match splitC c r with
    | [] => [[x]]
    | y :: t => (x :: y) :: t
def joinB (l : List Bs) : Bs := Go.Lib.join l [32]
def lineOf (s : Bs) : Option (Ac × Int) := ofL (splitC 32 s)
def again (a : Ac) : Bool := a.kind == 2 || a.kind == 7
def lineL (a : Ac) (n : Int) : Bs := joinB (wordsL a n)
def may (a : Ac) : Bool :=
  if a.kind < 1 ∨ 7 < a.kind ∨ (a.kind = 1 ∧ (a.call.op < 1 ∨ 4 < a.call.op)) then false
  else match lineOf (lineL a 1) with
    | some (b, _) => decide (a = b)
    | none => false

end Go.Proofs.YtbpbkmhipbchbaaGreatDoor.sc
