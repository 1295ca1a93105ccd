/-
  PROVED HERE: what a law's argument is, read as data: an act, a slice of acts, a script, what happened. Conditions: none.
-/
import Derived.Test.YtbpbkmhipbchbaaGreatDoorScMays
import Derived.Test.YtbpbkmhipbchbaaGreatDoorScTell
import Derived.Deep.Slices
import Derived.ChangeSame
import Derived.OpenShut
import Derived.ProofKit
namespace Go.Proofs.YtbpbkmhipbchbaaGreatDoor.sc
open Go.ChangeShapes Go.WideShapes Go.ChangeAt Go.RowKit
set_option linter.unusedVariables false

theorem c_int : Tryz.prog.cellsOf 3 = 1 := by kernel_rfl
theorem c_u64 : Tryz.prog.cellsOf 25 = 1 := by kernel_rfl
theorem c_string : Tryz.prog.cellsOf 9 = 1 := by kernel_rfl
theorem c_bool : Tryz.prog.cellsOf 4 = 1 := by kernel_rfl
theorem c_kind : Tryz.prog.cellsOf 23 = 1 := by kernel_rfl
theorem c_op : Tryz.prog.cellsOf 24 = 1 := by kernel_rfl
theorem c_addr : Tryz.prog.cellsOf 28 = 1 := by kernel_rfl
theorem c_ints : Tryz.prog.cellsOf 29 = 1 := by kernel_rfl
theorem c_call : Tryz.prog.cellsOf 27 = 5 := by kernel_rfl
theorem c_act : Tryz.prog.cellsOf 31 = 10 := by kernel_rfl
theorem c_acts : Tryz.prog.cellsOf 56 = 1 := by kernel_rfl
theorem c_script : Tryz.prog.cellsOf 58 = 3 := by kernel_rfl
theorem c_state : Tryz.prog.cellsOf 39 = 1 := by kernel_rfl
theorem c_errno : Tryz.prog.cellsOf 32 = 1 := by kernel_rfl
theorem c_pair : Tryz.prog.cellsOf 49 = 2 := by kernel_rfl
theorem c_pairs : Tryz.prog.cellsOf 40 = 1 := by kernel_rfl
theorem c_response : Tryz.prog.cellsOf 42 = 3 := by kernel_rfl
theorem c_event : Tryz.prog.cellsOf 44 = 7 := by kernel_rfl
theorem c_happened : Tryz.prog.cellsOf 46 = 13 := by kernel_rfl

/-- An act's numbers are of their kinds. -/
structure AcTy (a : Ac) : Prop where
  kind : I64 a.kind
  client : I64 a.client
  op : I64 a.call.op
  key : U64 a.call.key
  hi : U64 a.call.hi
  lim : I64 a.call.lim
  at_ : U64 a.at_
  n : I64 a.n
  keep : ∀ k ∈ a.keep, I64 k
theorem wf_i64 {n : Int} (h : (Lit.int .i64 n).wf = true) : I64 n := bounds_i64 h
theorem wf_u64 {n : Int} (h : (Lit.int .u64 n).wf = true) : U64 n := ⟨(bounds_u64 h).1, by have := (bounds_u64 h).2; omega⟩

section
variable {H : Type} {enc : TypeId × Value → H} {w : World} {sp : Nat → Bool} {hd : Bool} {n : Nat} {cs : List Value} {x : DataW H × List MemPlace}

theorem at_i64 {t : TypeId} (ht : Tryz.prog.underlying t = some (.int .i64)) {c : Value} (h : DataW.trod enc Tryz.prog w 0 sp hd n t [c] = some x) : ∃ z, c = .int .i64 z ∧ I64 z := by
  obtain ⟨z, e, _, wf⟩ := DataW.trod_int ht h
  injection e with e _
  exact ⟨z, e, wf_i64 wf⟩
theorem at_u64 {t : TypeId} (ht : Tryz.prog.underlying t = some (.int .u64)) {c : Value} (h : DataW.trod enc Tryz.prog w 0 sp hd n t [c] = some x) : ∃ z, c = .int .u64 z ∧ U64 z := by
  obtain ⟨z, e, _, wf⟩ := DataW.trod_int ht h
  injection e with e _
  exact ⟨z, e, wf_u64 wf⟩
theorem at_str {c : Value} (h : DataW.trod enc Tryz.prog w 0 sp hd n 9 [c] = some x) : ∃ s : Bs, c = .string (mk s) := by
  obtain ⟨s, e, _, _⟩ := DataW.trod_string Tryz.underlying9 h
  injection e with e _
  exact ⟨s.data.toList, by rw [e, mk_data]⟩
theorem at_bool {c : Value} (h : DataW.trod enc Tryz.prog w 0 sp hd n 4 [c] = some x) : ∃ b, c = .bool b := by
  obtain ⟨b, e, _⟩ := DataW.trod_bool Tryz.underlying4 h
  injection e with e _
  exact ⟨b, e⟩
theorem cells_at {a : Addr} {k : Nat} {cs : List Value} (h : w.cells? 0 a k = some cs) : ∀ j u, cs[j]? = some u → w.cell? (a.add j) = some u := by
  obtain ⟨_, hl, hc⟩ := World.cells?_some h
  intro j u hj
  have hlt := (List.getElem?_eq_some_iff.1 hj).1
  rw [hc j (by omega)]; exact hj

theorem open_keep (h : DataW.trod enc Tryz.prog w 0 sp hd n 29 cs = some x) : ∃ (v : Value) (k : List Int), cs = [v] ∧ RowR w v k.length 1 (k.map (Value.int .i64)) ∧ ∀ z ∈ k, I64 z := by
  rcases Deep.open_slice1 Tryz.underlying29 c_int h with ⟨rfl, rfl⟩ | ⟨a, len, cap, m, q, V, D, Pl, rfl, _, hl, _, hmm, rfl, hx⟩
  · exact ⟨_, [], rfl, RowR.nil _ _, by simp⟩
  have hlm : len ≤ m := by rw [hmm]; split <;> omega
  have hZ : ∀ i, i < len → V i = .int .i64 (RowKit.intOf (V i)) ∧ I64 (RowKit.intOf (V i)) := fun i hi => by
    obtain ⟨z, e, wf⟩ := at_i64 Tryz.underlying3 (hx i (by omega)).2
    rw [e]; exact ⟨rfl, wf⟩
  refine ⟨_, (List.range len).map fun i => RowKit.intOf (V i), rfl, ⟨some a, cap, by simp, by simpa using hl, by simp, fun hn => ?_⟩, ?_⟩
  · simp only [List.length_map, List.length_range] at hn
    have h0 := (hx 0 (by omega)).1
    obtain ⟨b, o, spot⟩ := a
    have hs : spot = none := by simpa [Addr.add] using World.cell?_spot h0
    subst hs
    refine ⟨b, o, rfl, by have := World.block_lt_of_cell? _ _ h0; rwa [block_of_add] at this, fun j u hj => ?_⟩
    rw [List.map_map, List.getElem?_map] at hj
    obtain ⟨i, hi, rfl⟩ := Option.map_eq_some_iff.1 hj
    have hlt := (List.getElem?_eq_some_iff.1 hi).1
    rw [List.length_range] at hlt
    rw [List.getElem?_range hlt] at hi
    injection hi with hi
    subst hi
    have h1 := (hx j (by omega)).1
    rw [add_plain] at h1
    rw [h1]
    exact congrArg some (hZ j hlt).1
  · intro z hz
    obtain ⟨i, hi, rfl⟩ := List.mem_map.1 hz
    exact (hZ i (List.mem_range.1 hi)).2

set_option maxRecDepth 100000 in
theorem open_call (h : DataW.trod enc Tryz.prog w 0 sp hd n 27 cs = some x) : ∃ c : Cl, cs = (clC c).toList ∧ I64 c.op ∧ U64 c.key ∧ U64 c.hi ∧ I64 c.lim := by
  obtain ⟨xs, k, _, _, hlen, hxl, hf⟩ := DataW.trod_struct Tryz.underlying27 h
  rw [c_call] at hlen
  have hxl : xs.length = 5 := hxl
  match cs, hlen, xs, hxl with
  | [c0, c1, c2, c3, c4], _, [y0, y1, y2, y3, y4], _ =>
    have g0 := hf 0 _ rfl
    have g1 := hf 1 _ rfl
    have g2 := hf 2 _ rfl
    have g3 := hf 3 _ rfl
    have g4 := hf 4 _ rfl
    simp [c_op, c_u64, c_int, c_string] at g0 g1 g2 g3 g4
    obtain ⟨op, rfl, h0⟩ := at_i64 Tryz.underlying24 g0
    obtain ⟨key, rfl, h1⟩ := at_u64 Tryz.underlying25 g1
    obtain ⟨hi, rfl, h2⟩ := at_u64 Tryz.underlying25 g2
    obtain ⟨lim, rfl, h3⟩ := at_i64 Tryz.underlying3 g3
    obtain ⟨val, rfl⟩ := at_str g4
    exact ⟨⟨op, key, hi, lim, val⟩, rfl, h0, h1, h2, h3⟩

set_option maxRecDepth 100000 in
theorem open_act (h : DataW.trod enc Tryz.prog w 0 sp hd n 31 cs = some x) : ∃ (a : Ac) (kv : Value), cs = (acC a kv).toList ∧ RowR w kv a.keep.length 1 (a.keep.map (Value.int .i64)) ∧ AcTy a := by
  obtain ⟨xs, k, _, _, hlen, hxl, hf⟩ := DataW.trod_struct Tryz.underlying31 h
  rw [c_act] at hlen
  have hxl : xs.length = 6 := hxl
  match cs, hlen, xs, hxl with
  | [c0, c1, c2, c3, c4, c5, c6, c7, c8, c9], _, [y0, y1, y2, y3, y4, y5], _ =>
    have g0 := hf 0 _ rfl
    have g1 := hf 1 _ rfl
    have g2 := hf 2 _ rfl
    have g3 := hf 3 _ rfl
    have g4 := hf 4 _ rfl
    have g5 := hf 5 _ rfl
    simp [c_kind, c_call, c_int, c_addr, c_ints] at g0 g1 g2 g3 g4 g5
    obtain ⟨kind, rfl, h0⟩ := at_i64 Tryz.underlying23 g0
    obtain ⟨client, rfl, h1⟩ := at_i64 Tryz.underlying3 g1
    obtain ⟨⟨op, key, hi, lim, val⟩, e, h2, h3, h4, h5⟩ := open_call g2
    simp only [clC, List.cons.injEq, and_true] at e
    obtain ⟨rfl, rfl, rfl, rfl, rfl⟩ := e
    obtain ⟨at_, rfl, h6⟩ := at_u64 Tryz.underlying28 g3
    obtain ⟨an, rfl, h7⟩ := at_i64 Tryz.underlying3 g4
    obtain ⟨kv, keep, e, hr, h8⟩ := open_keep g5
    injection e with e _
    subst e
    exact ⟨⟨kind, client, ⟨op, key, hi, lim, val⟩, at_, an, keep⟩, _, rfl, hr, ⟨h0, h1, h2, h3, h4, h5, h6, h7, h8⟩⟩

theorem open_acts (h : DataW.trod enc Tryz.prog w 0 sp hd n 56 cs = some x) : ∃ (v : Value) (l : List Ac), cs = [v] ∧ ActsR w v l ∧ ∀ a ∈ l, AcTy a := by
  rcases Deep.open_slice Tryz.underlying56 h with ⟨rfl, rfl⟩ | ⟨a, len, cap, m, q, D, Pl, rfl, _, hl, _, hmm, rfl, hx⟩
  · exact ⟨_, [], rfl, ActsR.nil _, by simp⟩
  have hlm : len ≤ m := by rw [hmm]; split <;> omega
  rw [c_act] at hx
  have each : ∀ i, i < len → ∃ p : Ac × Value, (∀ j u, (acC p.1 p.2).toList[j]? = some u → w.cell? ((a.add (i * 10)).add j) = some u) ∧ RowR w p.2 p.1.keep.length 1 (p.1.keep.map (Value.int .i64)) ∧ AcTy p.1 := fun i hi => by
    obtain ⟨cs', h1, h2⟩ := hx i (by omega)
    obtain ⟨ac, kv, rfl, h3, h4⟩ := open_act h2
    exact ⟨(ac, kv), cells_at h1, h3, h4⟩
  have z : Nonempty (Ac × Value) := ⟨(Ac.zero, .slice none 0 0)⟩
  obtain ⟨F, hF⟩ : ∃ F : Nat → Ac × Value, ∀ i, i < len → (∀ j u, (acC (F i).1 (F i).2).toList[j]? = some u → w.cell? ((a.add (i * 10)).add j) = some u) ∧ RowR w (F i).2 (F i).1.keep.length 1 ((F i).1.keep.map (Value.int .i64)) ∧ AcTy (F i).1 := by
    refine ⟨fun i => Classical.epsilon fun p => (∀ j u, (acC p.1 p.2).toList[j]? = some u → w.cell? ((a.add (i * 10)).add j) = some u) ∧ RowR w p.2 p.1.keep.length 1 (p.1.keep.map (Value.int .i64)) ∧ AcTy p.1, fun i hi => Classical.epsilon_spec (each i hi)⟩
  refine ⟨_, (List.range len).map fun i => (F i).1, rfl, ⟨some a, cap, by simp, by simpa using hl, fun hn => ?_⟩, ?_⟩
  · simp only [List.length_map, List.length_range] at hn
    have h0 := (hF 0 hn).1 0 _ rfl
    rw [add_of_add] at h0
    obtain ⟨b, o, spot⟩ := a
    have hs : spot = none := by simpa [Addr.add] using World.cell?_spot h0
    subst hs
    refine ⟨b, o, rfl, by have := World.block_lt_of_cell? _ _ h0; rwa [block_of_add] at this, fun i ac hi => ?_⟩
    rw [List.getElem?_map] at hi
    obtain ⟨j, hj, rfl⟩ := Option.map_eq_some_iff.1 hi
    have hlt := (List.getElem?_eq_some_iff.1 hj).1
    rw [List.length_range] at hlt
    rw [List.getElem?_range hlt] at hj
    injection hj with hj
    subst hj
    refine ⟨(F i).2, fun j hj => ?_, (hF i hlt).2.1⟩
    have hs : (acC (F i).1 (F i).2).size = 10 := rfl
    have hg : (acC (F i).1 (F i).2).toList[j]? = some ((acC (F i).1 (F i).2)[j]'(by omega)) := by
      rw [Array.getElem?_toList]; exact Array.getElem?_eq_getElem (by omega)
    have := (hF i hlt).1 j _ hg
    rw [add_of_add, add_plain, ← Nat.add_assoc] at this
    rw [this]
    exact (Array.getElem?_eq_getElem (by omega)).symm
  · intro ac hac
    obtain ⟨i, hi, rfl⟩ := List.mem_map.1 hac
    exact (hF i (List.mem_range.1 hi)).2.2

set_option maxRecDepth 100000 in
theorem open_script (h : DataW.trod enc Tryz.prog w 0 sp hd n 58 cs = some x) : ∃ (s : Sc) (v : Value), cs = (scC s v).toList ∧ ActsR w v s.acts ∧ I64 s.slabs ∧ I64 s.clients ∧ ∀ a ∈ s.acts, AcTy a := by
  obtain ⟨xs, k, _, _, hlen, hxl, hf⟩ := DataW.trod_struct Tryz.underlying58 h
  rw [c_script] at hlen
  have hxl : xs.length = 3 := hxl
  match cs, hlen, xs, hxl with
  | [c0, c1, c2], _, [y0, y1, y2], _ =>
    have g0 := hf 0 _ rfl
    have g1 := hf 1 _ rfl
    have g2 := hf 2 _ rfl
    simp [c_int, c_acts] at g0 g1 g2
    obtain ⟨slabs, rfl, h0⟩ := at_i64 Tryz.underlying3 g0
    obtain ⟨clients, rfl, h1⟩ := at_i64 Tryz.underlying3 g1
    obtain ⟨v, l, e, hr, h2⟩ := open_acts g2
    injection e with e _
    subst e
    exact ⟨⟨slabs, clients, l⟩, _, rfl, hr, h0, h1, h2⟩

set_option maxRecDepth 100000 in
theorem open_pair (h : DataW.trod enc Tryz.prog w 0 sp hd n 49 cs = some x) : ∃ p : Int × Bs, cs = [.int .u64 p.1, .string (mk p.2)] ∧ U64 p.1 := by
  obtain ⟨xs, k, _, _, hlen, hxl, hf⟩ := DataW.trod_struct Tryz.underlying49 h
  rw [c_pair] at hlen
  have hxl : xs.length = 2 := hxl
  match cs, hlen, xs, hxl with
  | [c0, c1], _, [y0, y1], _ =>
    have g0 := hf 0 _ rfl
    have g1 := hf 1 _ rfl
    simp [c_u64, c_string] at g0 g1
    obtain ⟨key, rfl, h0⟩ := at_u64 Tryz.underlying25 g0
    obtain ⟨val, rfl⟩ := at_str g1
    exact ⟨(key, val), rfl, h0⟩
theorem pairV_form : ∀ (l : List (Int × Bs)) (j : Nat) (u : Value), (tl.pairV l)[j]? = some u → ∃ i p, i < l.length ∧ l[i]? = some p ∧ (j = i * 2 ∧ u = .int .u64 p.1 ∨ j = i * 2 + 1 ∧ u = .string (mk p.2))
  | [], j, u, h => by simp [tl.pairV] at h
  | p :: r, 0, u, h => by
    simp [tl.pairV] at h
    exact ⟨0, p, by simp, rfl, .inl ⟨rfl, h.symm⟩⟩
  | p :: r, 1, u, h => by
    simp [tl.pairV] at h
    exact ⟨0, p, by simp, rfl, .inr ⟨rfl, h.symm⟩⟩
  | p :: r, j + 2, u, h => by
    have h' : (tl.pairV r)[j]? = some u := by simpa [tl.pairV] using h
    obtain ⟨i, q, hi, hq, hj⟩ := pairV_form r j u h'
    refine ⟨i + 1, q, by simp; omega, by simpa using hq, ?_⟩
    rcases hj with ⟨rfl, e⟩ | ⟨rfl, e⟩
    · exact .inl ⟨by omega, e⟩
    · exact .inr ⟨by omega, e⟩
theorem pairV_len : ∀ l : List (Int × Bs), (tl.pairV l).length = l.length * 2
  | [] => rfl
  | p :: r => by
    have := pairV_len r
    simp only [tl.pairV, List.flatMap_cons, List.length_append, List.length_cons, List.length_nil] at this ⊢
    omega
theorem open_pairs (h : DataW.trod enc Tryz.prog w 0 sp hd n 40 cs = some x) : ∃ (v : Value) (l : List (Int × Bs)), cs = [v] ∧ RowR w v l.length 2 (tl.pairV l) ∧ ∀ p ∈ l, U64 p.1 := by
  rcases Deep.open_slice Tryz.underlying40 h with ⟨rfl, rfl⟩ | ⟨a, len, cap, m, q, D, Pl, rfl, _, hl, _, hmm, rfl, hx⟩
  · exact ⟨_, [], rfl, RowR.nil _ _, by simp⟩
  have hlm : len ≤ m := by rw [hmm]; split <;> omega
  rw [c_pair] at hx
  have each : ∀ i, i < len → ∃ p : Int × Bs, (w.cell? (a.add (i * 2)) = some (.int .u64 p.1) ∧ w.cell? (a.add (i * 2 + 1)) = some (.string (mk p.2))) ∧ U64 p.1 := fun i hi => by
    obtain ⟨cs', h1, h2⟩ := hx i (by omega)
    obtain ⟨p, rfl, h3⟩ := open_pair h2
    have k0 := cells_at h1 0 _ rfl
    have k1 := cells_at h1 1 _ rfl
    rw [add_of_add] at k0 k1
    exact ⟨p, ⟨k0, k1⟩, h3⟩
  obtain ⟨F, hF⟩ : ∃ F : Nat → Int × Bs, ∀ i, i < len → (w.cell? (a.add (i * 2)) = some (.int .u64 (F i).1) ∧ w.cell? (a.add (i * 2 + 1)) = some (.string (mk (F i).2))) ∧ U64 (F i).1 := by
    have z : Nonempty (Int × Bs) := ⟨(0, [])⟩
    exact ⟨fun i => Classical.epsilon fun p => (w.cell? (a.add (i * 2)) = some (.int .u64 p.1) ∧ w.cell? (a.add (i * 2 + 1)) = some (.string (mk p.2))) ∧ U64 p.1, fun i hi => Classical.epsilon_spec (each i hi)⟩
  refine ⟨_, (List.range len).map F, rfl, ⟨some a, cap, by simp, by simpa using hl, by rw [pairV_len], fun hn => ?_⟩, ?_⟩
  · simp only [List.length_map, List.length_range] at hn
    have h0 := (hF 0 hn).1.1
    obtain ⟨b, o, spot⟩ := a
    have hs : spot = none := by simpa [Addr.add] using World.cell?_spot h0
    subst hs
    refine ⟨b, o, rfl, by have := World.block_lt_of_cell? _ _ h0; rwa [block_of_add] at this, fun j u hj => ?_⟩
    obtain ⟨i, p, hi, hp, hju⟩ := pairV_form _ j u hj
    rw [List.length_map, List.length_range] at hi
    rw [List.getElem?_map, List.getElem?_range hi] at hp
    injection hp with hp
    subst hp
    obtain ⟨k0, k1⟩ := (hF i hi).1
    rw [add_plain] at k0 k1
    rcases hju with ⟨rfl, rfl⟩ | ⟨rfl, rfl⟩
    · exact k0
    · exact k1
  · intro p hp
    obtain ⟨i, hi, rfl⟩ := List.mem_map.1 hp
    exact (hF i (List.mem_range.1 hi)).2

set_option maxRecDepth 100000 in
theorem open_response (h : DataW.trod enc Tryz.prog w 0 sp hd n 42 cs = some x) : ∃ (code : Int) (val : Bs) (pv : Value) (l : List (Int × Bs)), cs = [.int .i64 code, .string (mk val), pv] ∧ I64 code ∧ RowR w pv l.length 2 (tl.pairV l) ∧ ∀ p ∈ l, U64 p.1 := by
  obtain ⟨xs, k, _, _, hlen, hxl, hf⟩ := DataW.trod_struct Tryz.underlying42 h
  rw [c_response] at hlen
  have hxl : xs.length = 3 := hxl
  match cs, hlen, xs, hxl with
  | [c0, c1, c2], _, [y0, y1, y2], _ =>
    have g0 := hf 0 _ rfl
    have g1 := hf 1 _ rfl
    have g2 := hf 2 _ rfl
    simp [c_errno, c_string, c_pairs] at g0 g1 g2
    obtain ⟨code, rfl, h0⟩ := at_i64 Tryz.underlying32 g0
    obtain ⟨val, rfl⟩ := at_str g1
    obtain ⟨v, l, e, hr, h2⟩ := open_pairs g2
    injection e with e _
    subst e
    exact ⟨code, val, _, l, rfl, h0, hr, h2⟩
set_option maxRecDepth 100000 in
theorem open_event (h : DataW.trod enc Tryz.prog w 0 sp hd n 44 cs = some x) : ∃ (e : tl.Ev) (pv : Value), cs = (tl.evC e pv).toList ∧ RowR w pv e.pairs.length 2 (tl.pairV e.pairs) ∧ I64 e.client ∧ I64 e.call ∧ I64 e.did ∧ I64 e.code ∧ ∀ p ∈ e.pairs, U64 p.1 := by
  obtain ⟨xs, k, _, _, hlen, hxl, hf⟩ := DataW.trod_struct Tryz.underlying44 h
  rw [c_event] at hlen
  have hxl : xs.length = 5 := hxl
  match cs, hlen, xs, hxl with
  | [c0, c1, c2, c3, c4, c5, c6], _, [y0, y1, y2, y3, y4], _ =>
    have g0 := hf 0 _ rfl
    have g1 := hf 1 _ rfl
    have g2 := hf 2 _ rfl
    have g3 := hf 3 _ rfl
    have g4 := hf 4 _ rfl
    simp [c_int, c_bool, c_response] at g0 g1 g2 g3 g4
    obtain ⟨client, rfl, h0⟩ := at_i64 Tryz.underlying3 g0
    obtain ⟨call, rfl, h1⟩ := at_i64 Tryz.underlying3 g1
    obtain ⟨did, rfl, h2⟩ := at_i64 Tryz.underlying3 g2
    obtain ⟨dn, rfl⟩ := at_bool g3
    obtain ⟨code, val, pv, l, e, h3, hr, h4⟩ := open_response g4
    simp only [List.cons.injEq, and_true] at e
    obtain ⟨rfl, rfl, rfl⟩ := e
    exact ⟨⟨client, call, did, dn, code, val, l⟩, _, rfl, hr, h0, h1, h2, h3, h4⟩
set_option maxRecDepth 100000 in
theorem open_happened (h : DataW.trod enc Tryz.prog w 0 sp hd n 46 cs = some x) : ∃ (e : tl.Hp) (pv : Value), cs = (tl.hpC e pv).toList ∧ RowR w pv e.ev.pairs.length 2 (tl.pairV e.ev.pairs)
    ∧ I64 e.act ∧ I64 e.kind ∧ I64 e.state ∧ I64 e.ev.client ∧ I64 e.ev.call ∧ I64 e.ev.did ∧ I64 e.ev.code ∧ I64 e.code ∧ I64 e.n ∧ ∀ p ∈ e.ev.pairs, U64 p.1 := by
  obtain ⟨xs, k, _, _, hlen, hxl, hf⟩ := DataW.trod_struct Tryz.underlying46 h
  rw [c_happened] at hlen
  have hxl : xs.length = 7 := hxl
  match cs, hlen, xs, hxl with
  | [c0, c1, c2, c3, c4, c5, c6, c7, c8, c9, c10, c11, c12], _, [y0, y1, y2, y3, y4, y5, y6], _ =>
    have g0 := hf 0 _ rfl
    have g1 := hf 1 _ rfl
    have g2 := hf 2 _ rfl
    have g3 := hf 3 _ rfl
    have g4 := hf 4 _ rfl
    have g5 := hf 5 _ rfl
    have g6 := hf 6 _ rfl
    simp [c_int, c_kind, c_state, c_event, c_bool, c_errno] at g0 g1 g2 g3 g4 g5 g6
    obtain ⟨act, rfl, h0⟩ := at_i64 Tryz.underlying3 g0
    obtain ⟨kind, rfl, h1⟩ := at_i64 Tryz.underlying23 g1
    obtain ⟨state, rfl, h2⟩ := at_i64 Tryz.underlying39 g2
    obtain ⟨⟨client, call, did, dn, code, val, l⟩, pv, e, hr, h3, h4, h5, h6, h7⟩ := open_event g3
    simp only [tl.evC, List.cons.injEq, and_true] at e
    obtain ⟨rfl, rfl, rfl, rfl, rfl, rfl, rfl⟩ := e
    obtain ⟨dn2, rfl⟩ := at_bool g4
    obtain ⟨code2, rfl, h8⟩ := at_i64 Tryz.underlying32 g5
    obtain ⟨an, rfl, h9⟩ := at_i64 Tryz.underlying3 g6
    exact ⟨⟨act, kind, state, ⟨client, call, did, dn, code, val, l⟩, dn2, code2, an⟩, _, rfl, hr, h0, h1, h2, h3, h4, h5, h6, h8, h9, h7⟩
end

end Go.Proofs.YtbpbkmhipbchbaaGreatDoor.sc
