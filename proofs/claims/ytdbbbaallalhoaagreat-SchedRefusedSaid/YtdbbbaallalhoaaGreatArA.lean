/-
  PROVED HERE: contracts of the arena that is laid by hand (put, Word, slab, taken, newValue, newNode): nothing but its bytes and counters turns. Conditions: the receiver is an arena; the place is in its bytes.
-/
import Derived.Test.YtdbbbaallalhoaaGreatSpNew
import Derived.BigQuiet
namespace Go.Proofs.YtdbbbaallalhoaaGreat.ar
open Go.RowKit Go.Proofs.YtdbbbaallalhoaaGreat.pm
set_option linter.unusedVariables false

/-- An arena: the block of its bytes, how many slabs, its counters, its levels. -/
structure Ar where
  g : Nat
  n : Nat
  S : Nat
  used : Nat
  value : Nat
  values : Nat
  node : Nat
  nodes : Nat
  lv : Value

/-- It lies in block b; its bytes are bytes. -/
structure ArAt (w : World) (b : Nat) (A : Ar) : Prop where
  blk : w.heap[b]? = some (.cells #[.slice (some ⟨A.g, 0, none⟩) A.n A.n, .int .i64 A.S, .int .i64 A.used, .int .i64 A.value, .int .i64 A.values, .int .i64 A.node, .int .i64 A.nodes, A.lv] 58 (0, 0))
  row : ∃ bs : List Int, bs.length = A.n ∧ (∀ x ∈ bs, Byte x) ∧ RowAt w 5 1 (.slice (some ⟨A.g, 0, none⟩) A.n A.n) A.n (bs.map (Value.int .u8))
  ne : A.g ≠ b
  size : A.n = 1024 * (A.S + 1)
  small : A.S ≤ 1000
/-- Its counters are within bounds. -/
structure ArOk (A : Ar) : Prop where
  used : A.used ≤ A.S
  value : A.value ≤ A.S
  values : A.values ≤ 15
  node : A.node ≤ A.S
  nodes : A.nodes ≤ 5

section
variable {w : World} {b : Nat} {A : Ar}
theorem ArAt.cells (h : ArAt w b A) : w.cell? ⟨b, 0, none⟩ = some (.slice (some ⟨A.g, 0, none⟩) A.n A.n) ∧ w.cell? ⟨b, 1, none⟩ = some (.int .i64 A.S) ∧ w.cell? ⟨b, 2, none⟩ = some (.int .i64 A.used) ∧ w.cell? ⟨b, 3, none⟩ = some (.int .i64 A.value)
    ∧ w.cell? ⟨b, 4, none⟩ = some (.int .i64 A.values) ∧ w.cell? ⟨b, 5, none⟩ = some (.int .i64 A.node) ∧ w.cell? ⟨b, 6, none⟩ = some (.int .i64 A.nodes) ∧ w.cell? ⟨b, 7, none⟩ = some A.lv :=
  ⟨cell_of h.blk rfl, cell_of h.blk rfl, cell_of h.blk rfl, cell_of h.blk rfl, cell_of h.blk rfl, cell_of h.blk rfl, cell_of h.blk rfl, cell_of h.blk rfl⟩
theorem ArAt.free (h : ArAt w b A) (i : Nat) : w.frozen? ⟨b, i, none⟩ = false := free_of h.blk
theorem ArAt.keeps {w' : World} {F : List Nat} (h : ArAt w b A) (hk : Keeps F w w') (hb : b ∉ F) (hg : A.g ∉ F) : ArAt w' b A := by
  obtain ⟨bs, h1, h2, h3⟩ := h.row
  exact ⟨(hk.block b (lt_of h.blk) hb).trans h.blk, ⟨bs, h1, h2, h3.same fun g hgo => by cases hgo; exact hk.block A.g (h3.lt rfl) hg⟩, h.ne, h.size, h.small⟩
theorem ArAt.lt (h : ArAt w b A) : b < w.heap.size := lt_of h.blk
theorem ArAt.glt (h : ArAt w b A) : A.g < w.heap.size := by obtain ⟨bs, _, _, h3⟩ := h.row; exact h3.lt rfl
/-- A counter is set. -/
theorem ArAt.setc {A' : Ar} {i : Nat} {v : Value} (h : ArAt w b A) (hc : (#[.slice (some ⟨A.g, 0, none⟩) A.n A.n, .int .i64 A.S, .int .i64 A.used, .int .i64 A.value, .int .i64 A.values, .int .i64 A.node, .int .i64 A.nodes, A.lv] : Array Value).setIfInBounds i v = #[.slice (some ⟨A'.g, 0, none⟩) A'.n A'.n, .int .i64 A'.S, .int .i64 A'.used, .int .i64 A'.value, .int .i64 A'.values, .int .i64 A'.node, .int .i64 A'.nodes, A'.lv]) (hg : A'.g = A.g) (hn : A'.n = A.n) (hS : A'.S = A.S) :
    ArAt (w.setCell ⟨b, i, none⟩ v) b A' := by
  obtain ⟨bs, h1, h2, h3⟩ := h.row
  have hb := set_same (i := i) (v := v) h.blk
  rw [hc] at hb
  exact ⟨hb, ⟨bs, by rw [hn]; exact h1, h2, by rw [hg, hn]; exact h3.same fun g hgo => by cases hgo; exact set_other (Ne.symm h.ne)⟩, by rw [hg]; exact h.ne, by rw [hn, hS]; exact h.size, by rw [hS]; exact h.small⟩
end

theorem ArAt.setB {w : World} {b : Nat} {A : Ar} (h : ArAt w b A) {q : Nat} {z : Int} (hz : Byte z) (hq : q < A.n) : ArAt (w.setCell ⟨A.g, q, none⟩ (.int .u8 z)) b A := by
  obtain ⟨bs, h1, h2, h3⟩ := h.row
  refine ⟨(set_other h.ne).trans h.blk, ⟨bs.set q z, by rw [List.length_set]; exact h1, fun x hx => ?_, ?_⟩, h.ne, h.size, h.small⟩
  · rcases List.mem_or_eq_of_mem_set hx with hx | rfl
    · exact h2 x hx
    · exact hz
  · have := h3.set q (by rw [List.length_map]; omega) (.int .u8 z)
    rw [← List.map_set, Nat.zero_add] at this
    exact this
theorem u64_wrap (x : Int) : U64 (IntKind.u64.wrap x) := by
  have : IntKind.u64.wrap x = x % 18446744073709551616 := by simp [IntKind.wrap, IntKind.signed, IntKind.bits]
  rw [this]; unfold U64; omega
theorem u8_wrap (x : Int) : Byte (IntKind.u8.wrap x) := by
  have : IntKind.u8.wrap x = x % 256 := by simp [IntKind.wrap, IntKind.signed, IntKind.bits]
  rw [this]; unfold Byte; omega

set_option maxHeartbeats 1000000 in
theorem put_any {w : World} {b : Nat} {A : Ar} (h : ArAt w b A) (p : Nat) (x : Int) (hx : U64 x) (hp : p + 8 ≤ A.n) :
    Calls Tryz.prog 33 #[.pointer (some ⟨b, 0, none⟩), .int .i64 p, .int .u64 x] w fun e w' => e = .returned (.tuple #[]) ∧ ArAt w' b A ∧ Keeps [A.g] w w' := by
  have hn := h.size
  have hs := h.small
  obtain ⟨n, hnn⟩ : ∃ n, n = A.n := ⟨_, rfl⟩
  obtain ⟨g, hgg⟩ : ∃ g, g = A.g := ⟨_, rfl⟩
  rw [← hnn] at hn hp
  have hn2 : n ≤ 1100000 := by omega
  have HN := Lib.hid (And.intro hnn hgg)
  have HA := Lib.hid h; clear h hnn hgg hn hs
  go_enter Tryz.func33, Tryz.ntmps33
  go_wp2_with fail
  go_loopw [2, 6] (fun s2 s6 wr => ∃ (k : Nat) (y : Int), k ≤ 8 ∧ s2 = .int .u64 y ∧ U64 y ∧ s6 = .int .i64 k ∧ ArAt wr b A ∧ Keeps [A.g] w wr) (fun _ s6 _ => 8 - (intOf s6).toNat)
  case atStart => exact ⟨0, x, by omega, rfl, hx, rfl, HA.out, Keeps.refl _ _⟩
  case round =>
    obtain ⟨k, y, hk, rfl, hy, rfl, hA, hkw⟩ := hrel
    by_cases hlt : k < 8
    · obtain ⟨bs, hl, hby, hr⟩ := hA.row
      have c0 := hA.cells.1
      rw [← HN.out.1, ← HN.out.2] at hr c0
      rw [← HN.out.1] at hl
      have hkI : (k : Int) < 8 := by omega
      obtain ⟨q, hq⟩ : ∃ q, q = p + k := ⟨_, rfl⟩
      have e1 : IntKind.i64.wrap ((p : Int) + (k : Int)) = (q : Int) := by rw [IntWalk.i64_in _ (by omega)]; omega
      have e2 : (q : Int) < (n : Int) := by omega
      have e3 : IntKind.u64.wrap (y.tdiv 256) = y / 256 := by
        have : y.tdiv 256 = y / 256 := Int.tdiv_eq_ediv_of_nonneg hy.1
        rw [this]; exact IntWalk.u64_in _ (by unfold U64 at hy; omega)
      obtain ⟨z, hz⟩ : ∃ z, z = IntKind.u8.wrap y := ⟨_, rfl⟩
      have hzb : Byte z := by rw [hz]; exact u8_wrap y
      obtain ⟨o, ho⟩ : ∃ o, bs[q]? = some o := ⟨_, List.getElem?_eq_getElem (by omega)⟩
      have cz : wr.cell? ⟨g, q, none⟩ = some (.int .u8 o) := by
        have := hr.cell (j := q) (u := .int .u8 o) (by rw [List.getElem?_map, ho]; rfl)
        rw [Nat.zero_add] at this; exact this
      have fz : wr.frozen? ⟨g, q, none⟩ = false := by have := hr.free q; exact this
      have hz' : IntKind.u8.wrap y = z := hz.symm
      have HX := Lib.hid (And.intro hA (And.intro hkw (And.intro hr (And.intro hl (And.intro hby (And.intro hzb hy))))))
      clear hA hkw hr hl hby hzb hy hz hq ho
      go_wp2_with fail
      go_roundw
      case rel =>
        obtain ⟨hA, hkw, hr, hl, hby, hzb, hy⟩ := HX.out
        refine ⟨k + 1, y / 256, by omega, rfl, by unfold U64 at hy ⊢; omega, by go_num, ?_, hkw.trans (by rw [HN.out.2]; exact Keeps.setCell wr A.g q _) (fun i hi => .inl hi)⟩
        have := hA.setB (q := q) hzb (by rw [← HN.out.1]; omega)
        rw [← HN.out.2] at this
        exact this
      case measure => simp [intOf]; omega
    · obtain rfl : k = 8 := by omega
      have HX := Lib.hid (And.intro hA hkw); clear hA hkw
      go_wp2_with fail
      go_end0
      exact ⟨rfl, HX.out.1, HX.out.2⟩

set_option maxHeartbeats 1000000 in
theorem word_any {w : World} {b : Nat} {A : Ar} (h : ArAt w b A) (p : Nat) (hp : p + 8 ≤ A.n) :
    Calls Tryz.prog 93 #[.pointer (some ⟨b, 0, none⟩), .int .i64 p] w fun e w' => ∃ x, e = .returned (.int .u64 x) ∧ U64 x ∧ w' = w := by
  have hn := h.size
  have hs := h.small
  obtain ⟨bs, hl, hby, hr⟩ := h.row
  have c0 := h.cells.1
  obtain ⟨n, hnn⟩ : ∃ n, n = A.n := ⟨_, rfl⟩
  obtain ⟨g, hgg⟩ : ∃ g, g = A.g := ⟨_, rfl⟩
  rw [← hnn] at hn hp hr c0 hl
  rw [← hgg] at hr c0
  have hn2 : n ≤ 1100000 := by omega
  have HR := Lib.hid (And.intro hl (And.intro hby hr)); clear h hnn hgg hn hs hl hby hr
  go_enter Tryz.func93, Tryz.ntmps93
  go_wp2_with fail
  go_loopw [5, 6] (fun s5 s6 wr => ∃ (k : Nat) (y : Int), k ≤ 8 ∧ s5 = .int .u64 y ∧ U64 y ∧ s6 = .int .i64 ((k : Int) - 1) ∧ wr = w) (fun _ s6 _ => (intOf s6 + 1).toNat)
  case atStart => exact ⟨8, 0, by omega, rfl, ⟨by omega, by omega⟩, rfl, rfl⟩
  case round =>
    obtain ⟨k, y, hk, rfl, hy, rfl, rfl⟩ := hrel
    cases k with
    | succ k =>
      obtain ⟨hl, hby, hr⟩ := HR.out
      obtain ⟨q, hq⟩ : ∃ q, q = p + k := ⟨_, rfl⟩
      obtain ⟨z, hz⟩ : ∃ z, bs[q]? = some z := ⟨_, List.getElem?_eq_getElem (by omega)⟩
      have hzb := hby z (List.mem_of_getElem? hz)
      have cz : wr.cell? ⟨g, q, none⟩ = some (.int .u8 z) := by
        have := hr.cell (j := q) (u := .int .u8 z) (by rw [List.getElem?_map, hz]; rfl)
        rw [Nat.zero_add] at this; exact this
      have e0 : ((k + 1 : Nat) : Int) - 1 = (k : Int) := by omega
      have e1 : IntKind.i64.wrap ((p : Int) + (k : Int)) = (q : Int) := by rw [IntWalk.i64_in _ (by omega)]; omega
      have e2 : (q : Int) < (n : Int) := by omega
      have e4 : IntKind.u64.wrap z = z := IntWalk.u64_in _ (by unfold Byte at hzb; omega)
      have e5 : (0 : Int) ≤ (k : Int) := by omega
      have e6 : IntKind.i64.wrap ((k : Int) - 1) = (k : Int) - 1 := IntWalk.i64_in _ (by omega)
      obtain ⟨y1, hy1⟩ : ∃ y1, IntKind.u64.wrap (y * 256) = y1 := ⟨_, rfl⟩
      obtain ⟨y2, hy2⟩ : ∃ y2, IntKind.u64.wrap (y1 + z) = y2 := ⟨_, rfl⟩
      have HU := Lib.hid (show U64 y2 by rw [← hy2]; exact u64_wrap _)
      clear hl hby hr hz hzb hq hy
      rw [e0]
      go_wp2_with fail
      go_roundw
      case rel => exact ⟨k, y2, by omega, rfl, HU.out, rfl, by trivial⟩
      case measure => simp [intOf]
    | zero =>
      go_wp2_with fail
      go_ret
      exact ⟨y, rfl, hy, rfl⟩

set_option maxHeartbeats 1000000 in
/-- A slab is taken for a class, or there is none any more. -/
theorem slab_any {w : World} {b : Nat} {A : Ar} (h : ArAt w b A) (hok : A.used ≤ A.S) (c : Int) (hc : U64 c) :
    Calls Tryz.prog 68 #[.pointer (some ⟨b, 0, none⟩), .int .u64 c] w fun e w' => Keeps [b, A.g] w w' ∧ ((e = .returned (.int .i64 0) ∧ ArAt w' b A) ∨ (A.used < A.S ∧ e = .returned (.int .i64 (A.used + 1 : Nat)) ∧ ArAt w' b { A with used := A.used + 1 })) := by
  obtain ⟨c0, c1, c2, _⟩ := h.cells
  have f2 := h.free 2
  have hn := h.size
  have hs := h.small
  obtain ⟨u, hu⟩ : ∃ u, u = A.used := ⟨_, rfl⟩
  obtain ⟨S, hS⟩ : ∃ S, S = A.S := ⟨_, rfl⟩
  rw [← hu] at c2 hok ⊢
  rw [← hS] at c1 hn hs hok ⊢
  have HA := Lib.hid (And.intro h (And.intro hu (And.intro hS hn))); clear h hu hS hn
  by_cases hus : u = S
  · have hb : ((u : Int) == (S : Int)) = true := by simp [hus]
    clear hus c0 f2
    go_enter Tryz.func68, Tryz.ntmps68
    go_wp2_with fail
    go_quiet (fail)
    go_wp2_with fail
    go_ret
    exact ⟨(Keeps.drewBy w nq).mono (by simp), .inl ⟨rfl, HA.out.1.keeps (Keeps.drewBy w nq) (by simp) (by simp)⟩⟩
  · have hb : ((u : Int) == (S : Int)) = false := by simp; omega
    have hlt : u < S := by omega
    have e1 : IntKind.i64.wrap ((u : Int) + 1) = ((u + 1 : Nat) : Int) := by rw [IntWalk.i64_in _ (by omega)]; omega
    obtain ⟨u1, hu1⟩ : ∃ u1, u1 = u + 1 := ⟨_, rfl⟩
    rw [← hu1] at e1 ⊢
    have e2 : IntKind.i64.wrap (1024 * (u1 : Int)) = ((1024 * u1 : Nat) : Int) := by rw [IntWalk.i64_in _ (by omega)]; omega
    obtain ⟨p, hp⟩ : ∃ p, p = 1024 * u1 := ⟨_, rfl⟩
    rw [← hp] at e2
    have HL := Lib.hid (And.intro hlt (And.intro hu1 hp)); clear hus hlt hu1 hp
    go_enter Tryz.func68, Tryz.ntmps68
    go_wp2_with fail
    go_quiet (fail)
    go_wp2_with fail
    have HA2 : ArAt ((w.drewN nq).setCell ⟨b, 2, none⟩ (.int .i64 u1)) b { A with used := A.used + 1 } := by
      refine (HA.out.1.keeps (Keeps.drewBy w nq) (by simp) (by simp)).setc (i := 2) (v := .int .i64 u1) ?_ rfl rfl rfl
      have h1 := HL.out.2.1
      have h2 := HA.out.2.1
      rw [h2] at h1
      rw [h1]; rfl
    obtain ⟨W2, hW2⟩ : ∃ W2, W2 = (w.drewN nq).setCell ⟨b, 2, none⟩ (.int .i64 u1) := ⟨_, rfl⟩
    rw [← hW2] at HA2 ⊢
    have k2 : Keeps [b] w W2 := by rw [hW2]; exact ((Keeps.drewBy w nq).mono (by simp)).trans (Keeps.setCell _ b 2 _) (fun i hi => .inl hi)
    have c2' : W2.cell? ⟨b, 2, none⟩ = some (.int .i64 u1) := by
      have := HA2.cells.2.2.1
      rw [this, HL.out.2.1, HA.out.2.1]
    have HPt := Lib.hid (put_any HA2 p c hc (by have h1 := HA.out.2.2.2; have h2 := HL.out; have h3 := HA.out.2.2.1; show p + 8 ≤ A.n; omega))
    have H2 := Lib.hid (And.intro HA2 k2); clear HA2 hW2 k2
    refine HPt.out.mono ?_
    rintro e W3 ⟨rfl, hA3, hk3⟩
    have c2'' : W3.cell? ⟨b, 2, none⟩ = some (.int .i64 u1) := by
      have := hA3.cells.2.2.1
      rw [this, HL.out.2.1, HA.out.2.1]
    have H3 := Lib.hid (And.intro hA3 hk3); clear hA3 hk3
    go_wp2_with fail
    go_ret
    refine ⟨(H2.out.2.mono (fun i hi => .inl (by simp at hi; simp [hi]))).trans H3.out.2 (fun i hi => .inl (by simp at hi; simp [hi])), .inr ⟨HL.out.1, rfl, ?_⟩⟩
    rw [show u1 = A.used + 1 by rw [HL.out.2.1, HA.out.2.1], HA.out.2.2.1]
    exact H3.out.1

set_option maxHeartbeats 1000000 in
theorem taken_any {w : World} {b : Nat} {A : Ar} (h : ArAt w b A) (s j : Nat) (hj : j ≤ 20) (hs1 : s ≤ A.S) :
    Calls Tryz.prog 69 #[.pointer (some ⟨b, 0, none⟩), .int .i64 s, .int .i64 j] w fun e w' => e = .returned (.tuple #[]) ∧ ArAt w' b A ∧ Keeps [A.g] w w' := by
  have hn := h.size
  have hs := h.small
  obtain ⟨r, hr⟩ : ∃ r, r = 1024 * s := ⟨_, rfl⟩
  obtain ⟨p, hp⟩ : ∃ p, p = r + 8 := ⟨_, rfl⟩
  have e1 : IntKind.i64.wrap (1024 * (s : Int)) = (r : Int) := by rw [IntWalk.i64_in _ (by omega)]; omega
  have e2 : IntKind.i64.wrap ((r : Int) + 8) = (p : Int) := by rw [IntWalk.i64_in _ (by omega)]; omega
  have HW := Lib.hid (word_any h p (by omega))
  have HP : Hid (∀ x, U64 x → Calls Tryz.prog 33 #[.pointer (some ⟨b, 0, none⟩), .int .i64 p, .int .u64 x] w fun e w' => e = .returned (.tuple #[]) ∧ ArAt w' b A ∧ Keeps [A.g] w w') := Lib.hid fun x hx => put_any h p x hx (by omega)
  clear h hn hs hp hs1 hr
  go_enter Tryz.func69, Tryz.ntmps69
  go_wp2_with fail
  go_loopw [7, 8] (fun s7 s8 wr => ∃ (k : Nat) (y : Int), k ≤ j ∧ s7 = .int .u64 y ∧ s8 = .int .i64 k ∧ wr = w) (fun _ s8 _ => j - (intOf s8).toNat)
  case atStart => exact ⟨0, 1, by omega, rfl, rfl, rfl⟩
  case round =>
    obtain ⟨k, y, hk, rfl, rfl, rfl⟩ := hrel
    by_cases hlt : k < j
    · have hkI : (k : Int) < (j : Int) := by omega
      obtain ⟨y1, hy1⟩ : ∃ y1, IntKind.u64.wrap (2 * y) = y1 := ⟨_, rfl⟩
      go_wp2_with fail
      go_roundw
      case rel => exact ⟨k + 1, y1, by omega, rfl, by go_num, by trivial⟩
      case measure => simp [intOf]; omega
    · obtain rfl : k = j := by omega
      go_wp2_with fail
      refine HW.out.mono ?_
      rintro e w1 ⟨x, rfl, hx, rfl⟩
      obtain ⟨z, hz⟩ : ∃ z, IntKind.u64.wrap (x + y) = z := ⟨_, rfl⟩
      have HPz := Lib.hid (HP.out z (by rw [← hz]; exact u64_wrap _))
      go_wp2_with fail
      refine HPz.out.mono ?_
      rintro e w2 ⟨rfl, hA, hkw⟩
      have HX := Lib.hid (And.intro hA hkw); clear hA hkw
      go_wp2_with fail
      go_end0
      exact ⟨rfl, HX.out.1, HX.out.2⟩
end Go.Proofs.YtdbbbaallalhoaaGreat.ar
