/-
  PROVED HERE: a set of addresses (bits.Free) as it lies in memory, and container/heap's functions on it through its interface: they keep it one; how many it has. Conditions: the receiver is one; at most 1000.
-/
import Derived.Test.YtdbbbaallalhoaaGreatBtA
import Derived.Great.BuildSlice
namespace Go.Proofs.YtdbbbaallalhoaaGreat.bt
open Go.RowKit Go.Proofs.YtdbbbaallalhoaaGreat.pm Go.Proofs.YtdbbbaallalhoaaGreat.ar
set_option linter.unusedVariables false
attribute [-go_sem] Builtin.append_ Instr.buildSlice

/-- Cells of a slice of n addresses. -/
def Adr (w : World) (v : Value) (n : Nat) : Prop := ∃ xs : List Int, RowAt w 105 1 v n (xs.map (Value.int .u64)) ∧ ∀ x ∈ xs, U64 x
/-- A set in block fb: its slice is v, of n addresses. -/
structure FrAt (w : World) (fb : Nat) (v : Value) (n : Nat) : Prop where
  blk : w.heap[fb]? = some (.cells #[v] 161 (0, 0))
  row : Adr w v n
theorem Adr.same {w w' : World} {v : Value} {n : Nat} (h : Adr w v n) (hs : ∀ q, v.ownBlock = some q → w'.heap[q]? = w.heap[q]?) : Adr w' v n := by
  obtain ⟨xs, h1, h2⟩ := h
  exact ⟨xs, h1.same hs, h2⟩
theorem Adr.lt {w : World} {v : Value} {n q : Nat} (h : Adr w v n) (hq : v.ownBlock = some q) : q < w.heap.size := by
  obtain ⟨xs, h1, h2⟩ := h
  exact h1.lt hq
theorem FrAt.apart {w : World} {fb : Nat} {v : Value} {n : Nat} (h : FrAt w fb v n) : v.ownBlock ≠ some fb := by
  obtain ⟨xs, h1, h2⟩ := h.row
  intro e
  rcases h1.2 with ⟨rfl, _⟩ | ⟨g, off, cap, cur, rfl, hg, _⟩
  · cases e
  · cases e; rw [h.blk] at hg; injection hg with hg; injection hg with _ hg; cases hg
theorem FrAt.keeps {w w' : World} {fb : Nat} {v : Value} {n : Nat} {F : List Nat} (h : FrAt w fb v n) (hk : Keeps F w w') (h1 : fb ∉ F) (h2 : ∀ q, v.ownBlock = some q → q ∉ F) : FrAt w' fb v n :=
  ⟨(hk.block fb (lt_of h.blk) h1).trans h.blk, h.row.same fun q hq => hk.block q (h.row.lt hq) (h2 q hq)⟩
theorem FrAt.shape {w : World} {fb : Nat} {v : Value} {n : Nat} (h : FrAt w fb v n) : ∃ ao cp, v = .slice ao n cp ∧ n ≤ cp ∧ cp ≤ maxLen := by
  obtain ⟨xs, h1, h2⟩ := h.row
  rcases h1.2 with ⟨rfl, rfl⟩ | ⟨g, off, cap, cur, rfl, hg, h3, h4, _⟩
  · exact ⟨none, 0, rfl, by omega, by unfold maxLen; omega⟩
  · exact ⟨_, _, rfl, h3, h4⟩
theorem Adr.at {w : World} {ao : Option Addr} {n cp : Nat} (h : Adr w (.slice ao n cp) n) {i : Nat} (hi : i < n) : ∃ g o x, ao = some ⟨g, o, none⟩ ∧ w.cell? ⟨g, o + i, none⟩ = some (.int .u64 x) ∧ U64 x ∧ w.frozen? ⟨g, o + i, none⟩ = false := by
  obtain ⟨xs, h1, h2⟩ := h
  obtain ⟨x, hx⟩ : ∃ x, xs[i]? = some x := ⟨_, List.getElem?_eq_getElem (by have := h1.1; simp at this; omega)⟩
  have h0 := h1
  rcases h1.2 with ⟨e, hn⟩ | ⟨g, off, cap, cur, e, hg, h3, h4, _⟩
  · omega
  · cases e
    exact ⟨g, off, x, rfl, h0.cell (by rw [List.getElem?_map, hx]; rfl), h2 x (List.mem_of_getElem? hx), h0.free _⟩
theorem Adr.set {w : World} {g o n cp : Nat} (h : Adr w (.slice (some ⟨g, o, none⟩) n cp) n) {i : Nat} (hi : i < n) {x : Int} (hx : U64 x) : Adr (w.setCell ⟨g, o + i, none⟩ (.int .u64 x)) (.slice (some ⟨g, o, none⟩) n cp) n := by
  obtain ⟨xs, h1, h2⟩ := h
  have := h1.set i (by rw [h1.1]; omega) (.int .u64 x)
  rw [← List.map_set] at this
  exact ⟨xs.set i x, this, fun y hy => by
    rcases List.mem_or_eq_of_mem_set hy with hy | rfl
    · exact h2 y hy
    · exact hx⟩

theorem alen_any (ao : Option Addr) (n cp : Nat) (w : World) : Calls Tryz.prog 194 #[.slice ao n cp] w fun e w' => e = .returned (.int .i64 n) ∧ w = w' := by
  go_enter Tryz.func194, Tryz.ntmps194
  go_wp2_with fail
  go_ret
  exact ⟨rfl, rfl⟩
theorem aless_any {w : World} {ao : Option Addr} {n cp : Nat} (h : Adr w (.slice ao n cp) n) (i j : Nat) (hi : i < n) (hj : j < n) : Calls Tryz.prog 327 #[.slice ao n cp, .int .i64 i, .int .i64 j] w fun e w' => ∃ b, e = .returned (.bool b) ∧ Keeps [] w w' := by
  obtain ⟨g, o, x, rfl, c1, _⟩ := h.at hi
  obtain ⟨g', o', y, e, c2, _⟩ := h.at hj
  cases e
  have hiI : (i : Int) < (n : Int) := by omega
  have hjI : (j : Int) < (n : Int) := by omega
  clear h
  go_enter Tryz.func327, Tryz.ntmps327
  go_wp2_with fail
  go_quiet (fail)
  go_wp2_with fail
  go_ret
  exact ⟨_, rfl, Keeps.drewBy w nq⟩
set_option maxHeartbeats 1000000 in
theorem aswap_any {w : World} {ao : Option Addr} {n cp : Nat} (h : Adr w (.slice ao n cp) n) (i j : Nat) (hi : i < n) (hj : j < n) : Calls Tryz.prog 328 #[.slice ao n cp, .int .i64 i, .int .i64 j] w fun e w' => e = .returned (.tuple #[]) ∧ Adr w' (.slice ao n cp) n ∧ Keeps (Value.slice ao n cp).ownBlock.toList w w' := by
  obtain ⟨g, o, x, rfl, c1, hx, f1⟩ := h.at hi
  obtain ⟨g', o', y, e, c2, hy, f2⟩ := h.at hj
  cases e
  have hiI : (i : Int) < (n : Int) := by omega
  have hjI : (j : Int) < (n : Int) := by omega
  have HA := Lib.hid (And.intro h (And.intro hx hy)); clear h hx hy
  by_cases hij : i = j
  · subst hij
    obtain rfl : x = y := by rw [c1] at c2; cases c2; rfl
    clear c2 f2
    go_enter Tryz.func328, Tryz.ntmps328
    go_wp2_with fail
    go_region
    all_goals
      go_wp2_with fail
      go_end0
      exact ⟨rfl, ((HA.out.1.set hi HA.out.2.1).set hi HA.out.2.1).same (fun _ _ => rfl), ((Keeps.setCell w g _ _).trans (Keeps.setCell _ g _ _) (fun i hi => .inl hi)).trans (Keeps.drew _) (by simp)⟩
  · have hne : o + i ≠ o + j := by omega
    go_enter Tryz.func328, Tryz.ntmps328
    go_wp2_with fail
    go_region
    all_goals
      go_wp2_with fail
      go_end0
      exact ⟨rfl, ((HA.out.1.set hi HA.out.2.2).set hj HA.out.2.1).same (fun _ _ => rfl), ((Keeps.setCell w g _ _).trans (Keeps.setCell _ g _ _) (fun i hi => .inl hi)).trans (Keeps.drew _) (by simp)⟩

/-! ### through the interface -/
section
variable {w : World} {fb n : Nat} {v : Value}
theorem m_row (name : String) (f : FuncId) (h : ((Tryz.prog.info? 167).bind fun i => (i.methods.find? (·.name == name)).map fun m => (m.path.toList, m.func)) = some ([], some (f, false))) (hf : FrAt w fb v n) (K : Nat) :
    (method (K + 1) 167 (.pointer (some ⟨fb, 0, none⟩)) name).run Tryz.prog w = .ok (f, v) w := by
  cases hi : Tryz.prog.info? 167 with
  | none => rw [hi] at h; cases h
  | some i =>
    rw [hi] at h
    simp only [Option.bind_some] at h
    cases hm : i.methods.find? (·.name == name) with
    | none => rw [hm] at h; cases h
    | some m =>
      rw [hm] at h
      simp only [Option.map_some, Option.some.injEq, Prod.mk.injEq] at h
      obtain ⟨hp, hfun⟩ := h
      have hpe : m.path = #[] := by rw [← Array.toList_inj, hp]
      have hl : (loadVar 159 ⟨fb, 0, none⟩).run Tryz.prog w = .ok v w := by
        obtain ⟨ao, cp, rfl, _, _⟩ := hf.shape
        have hc := cell_of (i := 0) hf.blk rfl
        simp [loadVar, go_sem, hc]
      have hck : ∀ nm : String, (Builtin.ssaWrapNilChk_ #[167] 167 #[.pointer (some ⟨fb, 0, none⟩), strVal "", strVal nm]).run Tryz.prog w = .ok (.pointer (some ⟨fb, 0, none⟩)) w := fun _ => rfl
      simp [method, typeInfo, hi, hm, hfun, follow, receiverAt, Place.get, run_underlying Tryz.underlying167, hpe, hck, asAddr, hl]
end

def paddr (fb : Nat) : Value := .iface 167 (.pointer (some ⟨fb, 0, none⟩))
set_option maxRecDepth 1000000 in
theorem k_len : ((Tryz.prog.info? 167).bind fun i => (i.methods.find? (·.name == "Len")).map fun m => (m.path.toList, m.func)) = some ([], some (194, false)) := by kernel_rfl
set_option maxRecDepth 1000000 in
theorem k_less : ((Tryz.prog.info? 167).bind fun i => (i.methods.find? (·.name == "Less")).map fun m => (m.path.toList, m.func)) = some ([], some (327, false)) := by kernel_rfl
set_option maxRecDepth 1000000 in
theorem k_swap : ((Tryz.prog.info? 167).bind fun i => (i.methods.find? (·.name == "Swap")).map fun m => (m.path.toList, m.func)) = some ([], some (328, false)) := by kernel_rfl
theorem m_pop (fb K : Nat) (w : World) : (method (K + 1) 167 (.pointer (some ⟨fb, 0, none⟩)) "Pop").run Tryz.prog w = .ok (329, .pointer (some ⟨fb, 0, none⟩)) w := by kernel_rfl
theorem m_push (fb K : Nat) (w : World) : (method (K + 1) 167 (.pointer (some ⟨fb, 0, none⟩)) "Push").run Tryz.prog w = .ok (330, .pointer (some ⟨fb, 0, none⟩)) w := by kernel_rfl
theorem n_len (fb K : Nat) (w : World) : (nilAhead (K + 1) 167 (.pointer (some ⟨fb, 0, none⟩)) "Len").run Tryz.prog w = .ok (some false) w := by kernel_rfl
theorem n_less (fb K : Nat) (w : World) : (nilAhead (K + 1) 167 (.pointer (some ⟨fb, 0, none⟩)) "Less").run Tryz.prog w = .ok (some false) w := by kernel_rfl
theorem n_swap (fb K : Nat) (w : World) : (nilAhead (K + 1) 167 (.pointer (some ⟨fb, 0, none⟩)) "Swap").run Tryz.prog w = .ok (some false) w := by kernel_rfl
theorem n_pop (fb K : Nat) (w : World) : (nilAhead (K + 1) 167 (.pointer (some ⟨fb, 0, none⟩)) "Pop").run Tryz.prog w = .ok (some false) w := by kernel_rfl
theorem n_push (fb K : Nat) (w : World) : (nilAhead (K + 1) 167 (.pointer (some ⟨fb, 0, none⟩)) "Push").run Tryz.prog w = .ok (some false) w := by kernel_rfl
set_option maxRecDepth 100000 in
set_option maxHeartbeats 400000 in
theorem up_any {w : World} {fb : Nat} {v : Value} {n : Nat} (h : FrAt w fb v n) (j : Nat) (hj : j < n) (hn : n ≤ 2000) : Calls Tryz.prog 101 #[paddr fb, .int .i64 j] w fun e w' => e = .returned (.tuple #[]) ∧ Adr w' v n ∧ Keeps v.ownBlock.toList w w' := by
  obtain ⟨ao, cp, rfl, hcp, hcm⟩ := h.shape
  unfold paddr
  have HF := Lib.hid h; clear h
  go_enter Tryz.func101, Tryz.ntmps101
  go_wp2_with fail
  go_loopw [1] (fun s1 wr => ∃ j : Nat, s1 = .int .i64 j ∧ j < n ∧ Adr wr (.slice ao n cp) n ∧ Keeps (Value.slice ao n cp).ownBlock.toList w wr) (fun s1 _ => (intOf s1).toNat)
  case atStart => exact ⟨j, rfl, hj, HF.out.row, Keeps.refl _ _⟩
  case round =>
    obtain ⟨j, rfl, hj, hA, hk⟩ := hrel
    obtain ⟨d, hd⟩ : ∃ d : Int, d = (j : Int) - 1 := ⟨_, rfl⟩
    obtain ⟨i, hi⟩ : ∃ i : Nat, i = (j - 1) / 2 := ⟨_, rfl⟩
    have e1 : IntKind.i64.wrap ((j : Int) - 1) = d := by rw [IntWalk.i64_in _ (by omega)]; omega
    have e2 : d.tdiv 2 = (i : Int) := by
      by_cases h0 : j = 0
      · subst h0
        rw [hd, hi]; rfl
      · rw [Int.tdiv_eq_ediv_of_nonneg (by omega)]; omega
    have e3 : IntKind.i64.wrap (i : Int) = (i : Int) := IntWalk.i64_in _ (by omega)
    have hFr : FrAt wr fb (.slice ao n cp) n := ⟨(hk.block fb (lt_of HF.out.blk) (by simpa only [Option.mem_toList] using HF.out.apart)).trans HF.out.blk, hA⟩
    by_cases h0 : j = 0
    · have b0 : ((i : Int) == (j : Int)) = true := by simp; omega
      have HX := Lib.hid (And.intro hA hk)
      clear hd hi hA hk hFr h0
      go_wp2_with fail
      go_end0
      exact ⟨rfl, HX.out.1, HX.out.2⟩
    · have b0 : ((i : Int) == (j : Int)) = false := by simp; omega
      have hin : i < n ∧ i < j := by omega
      have q1 : ∀ K wx, (nilAhead (K + 1) 167 (.pointer (some ⟨fb, 0, none⟩)) "Less").run Tryz.prog wx = .ok (some false) wx := fun K wx => n_less fb K wx
      have q2 : ∀ K, (method (K + 1) 167 (.pointer (some ⟨fb, 0, none⟩)) "Less").run Tryz.prog wr = .ok (327, .slice ao n cp) wr := fun K => m_row "Less" _ k_less hFr K
      have HX := Lib.hid (And.intro hA (And.intro hk hFr))
      have HL := Lib.hid (aless_any hA j i hj hin.1)
      clear hd hi hA hk hFr h0
      go_wp2_with fail
      refine HL.out.mono ?_
      rintro e w2 ⟨c, rfl, hk2⟩
      obtain ⟨hA, hk, hFr⟩ := HX.out
      have hF2 : FrAt w2 fb (.slice ao n cp) n := hFr.keeps hk2 (by simp) (by simp)
      have hkw : Keeps (Value.slice ao n cp).ownBlock.toList w w2 := hk.trans hk2 (by simp)
      cases c with
      | false =>
        have HY := Lib.hid (And.intro hF2.row hkw)
        clear hA hk hFr hF2 hkw hk2
        go_wp2_with fail
        go_end0
        exact ⟨rfl, HY.out.1, HY.out.2⟩
      | true =>
        have q3 : ∀ K wx, (nilAhead (K + 1) 167 (.pointer (some ⟨fb, 0, none⟩)) "Swap").run Tryz.prog wx = .ok (some false) wx := fun K wx => n_swap fb K wx
        have q4 : ∀ K, (method (K + 1) 167 (.pointer (some ⟨fb, 0, none⟩)) "Swap").run Tryz.prog w2 = .ok (328, .slice ao n cp) w2 := fun K => m_row "Swap" _ k_swap hF2 K
        have HS := Lib.hid (aswap_any hF2.row i j hin.1 hj)
        have HY := Lib.hid (And.intro hF2 hkw)
        clear hA hk hFr hF2 hkw hk2
        go_wp2_with fail
        refine HS.out.mono ?_
        rintro e w3 ⟨rfl, hA3, hk3⟩
        have HZ := Lib.hid (And.intro hA3 (HY.out.2.trans hk3 (fun i hi => .inl hi))); clear hA3 hk3
        go_wp2_with fail
        go_roundw
        case rel => exact ⟨i, rfl, hin.1, HZ.out.1, HZ.out.2⟩
        case measure => simp [intOf]; omega

set_option maxRecDepth 100000 in
set_option maxHeartbeats 1000000 in
theorem down_any {w : World} {fb : Nat} {v : Value} {n : Nat} (h : FrAt w fb v n) (i0 m : Nat) (hm : m ≤ n) (hn : n ≤ 2000) (hi0 : i0 < n) : Calls Tryz.prog 100 #[paddr fb, .int .i64 i0, .int .i64 m] w fun e w' => ∃ b, e = .returned (.bool b) ∧ Adr w' v n ∧ Keeps v.ownBlock.toList w w' := by
  obtain ⟨ao, cp, rfl, hcp, hcm⟩ := h.shape
  unfold paddr
  have HF := Lib.hid h; clear h
  have q1 : ∀ K wx, (nilAhead (K + 1) 167 (.pointer (some ⟨fb, 0, none⟩)) "Less").run Tryz.prog wx = .ok (some false) wx := fun K wx => n_less fb K wx
  have q3 : ∀ K wx, (nilAhead (K + 1) 167 (.pointer (some ⟨fb, 0, none⟩)) "Swap").run Tryz.prog wx = .ok (some false) wx := fun K wx => n_swap fb K wx
  go_enter Tryz.func100, Tryz.ntmps100
  go_wp2_with fail
  go_loopw [7] (fun s7 wr => ∃ i : Nat, s7 = .int .i64 i ∧ i < n ∧ Adr wr (.slice ao n cp) n ∧ Keeps (Value.slice ao n cp).ownBlock.toList w wr) (fun s7 _ => n - (intOf s7).toNat)
  case atStart => exact ⟨i0, rfl, hi0, HF.out.row, Keeps.refl _ _⟩
  case round =>
    obtain ⟨i, rfl, hi, hA, hk⟩ := hrel
    obtain ⟨j1, hj1⟩ : ∃ j1 : Nat, j1 = 2 * i + 1 := ⟨_, rfl⟩
    have e1 : IntKind.i64.wrap (2 * (i : Int)) = ((2 * i : Nat) : Int) := by rw [IntWalk.i64_in _ (by omega)]; omega
    have e2 : IntKind.i64.wrap (((2 * i : Nat) : Int) + 1) = (j1 : Int) := by rw [IntWalk.i64_in _ (by omega)]; omega
    have e3 : 2 * (i : Int) + 1 = (j1 : Int) := by omega
    have hjb : j1 ≤ 4001 := by omega
    have hFr : FrAt wr fb (.slice ao n cp) n := ⟨(hk.block fb (lt_of HF.out.blk) (by simpa only [Option.mem_toList] using HF.out.apart)).trans HF.out.blk, hA⟩
    by_cases hjm : m ≤ j1
    · have hjI : (m : Int) ≤ (j1 : Int) := by omega
      have HX := Lib.hid (And.intro hA hk)
      clear hj1 hA hk hFr
      go_wp2_with fail
      go_ret
      exact ⟨_, rfl, HX.out.1, HX.out.2⟩
    · have hjI : ¬ (m : Int) ≤ (j1 : Int) := by omega
      have hj0 : ¬ (j1 : Int) < 0 := by omega
      have hij : i < j1 := by omega
      obtain ⟨j2, hj2⟩ : ∃ j2 : Nat, j2 = j1 + 1 := ⟨_, rfl⟩
      have e4 : IntKind.i64.wrap ((j1 : Int) + 1) = (j2 : Int) := by rw [IntWalk.i64_in _ (by omega)]; omega
      have e5 : (j1 : Int) + 1 = (j2 : Int) := by omega
      have HJ := Lib.hid hj2
      have HX := Lib.hid (And.intro hA (And.intro hk hFr))
      clear hj1 hA hk hFr hj2
      obtain ⟨wo, rfl⟩ : ∃ wo : World, wo = wr := ⟨_, rfl⟩
      go_upto_region 6 with fail
      go_cut [33] from 25 to 33 (fun s33 wx => ∃ c : Bool, s33 = .bool c ∧ (c = true → j2 < m) ∧ FrAt wx fb (.slice ao n cp) n ∧ Keeps (Value.slice ao n cp).ownBlock.toList w wx)
      case first =>
        by_cases hj2m : j2 < m
        · have hj2I : (j2 : Int) < (m : Int) := by omega
          have hFr := HX.out.2.2
          have q2 : ∀ K, (method (K + 1) 167 (.pointer (some ⟨fb, 0, none⟩)) "Less").run Tryz.prog wo = .ok (327, .slice ao n cp) wo := fun K => m_row "Less" _ k_less hFr K
          have HL := Lib.hid (aless_any hFr.row j2 j1 (by omega) (by omega))
          clear hFr
          go_wp2_with fail
          refine HL.out.mono ?_
          rintro e w2 ⟨c, rfl, hk2⟩
          have HY := Lib.hid (And.intro (HX.out.2.2.keeps hk2 (by simp) (by simp)) (HX.out.2.1.trans hk2 (by simp))); clear hk2
          go_wp2_with fail
          go_meet
          exact ⟨c, rfl, fun _ => hj2m, HY.out.1, HY.out.2⟩
        · have hj2I : ¬ (j2 : Int) < (m : Int) := by omega
          go_wp2_with fail
          go_meet
          exact ⟨false, rfl, (fun e => by cases e), HX.out.2.2, HX.out.2.1⟩
      case rest =>
      obtain ⟨c, rfl, hc, hF1, hk1⟩ := hcut
      have HY1 := Lib.hid (And.intro hc (And.intro hF1 hk1)); clear hc hF1 hk1
      obtain ⟨w1, rfl⟩ : ∃ w1 : World, w1 = wc := ⟨_, rfl⟩
      go_upto_if 33 with fail
      go_cut [9] from 34 to 34 (fun s9 wx => ∃ j : Nat, s9 = .int .i64 j ∧ i < j ∧ j < m ∧ w1 = wx)
      case first =>
        cases c with
        | true =>
          go_wp2_with fail
          go_meet
          exact ⟨j2, rfl, by have := HJ.out; omega, (by first | exact HY1.out.1 rfl | exact HY1.out.1 trivial), rfl⟩
        | false =>
          go_wp2_with fail
          go_meet
          exact ⟨j1, rfl, hij, by omega, rfl⟩
      case rest =>
      obtain ⟨j, rfl, hij2, hjm2, rfl⟩ := hcut
      obtain ⟨_, hF2, hk2⟩ := HY1.out
      have q2 : ∀ K, (method (K + 1) 167 (.pointer (some ⟨fb, 0, none⟩)) "Less").run Tryz.prog w1 = .ok (327, .slice ao n cp) w1 := fun K => m_row "Less" _ k_less hF2 K
      have HL := Lib.hid (aless_any hF2.row j i (by omega) hi)
      have HY := Lib.hid (And.intro hF2 hk2); clear hF2 hk2
      go_wp2_with fail
      refine HL.out.mono ?_
      rintro e w3 ⟨c, rfl, hk3⟩
      have hF3 := HY.out.1.keeps hk3 (by simp) (by simp)
      have hkw := HY.out.2.trans hk3 (by simp)
      cases c with
      | false =>
        have HZ := Lib.hid (And.intro hF3.row hkw); clear hF3 hkw hk3
        go_wp2_with fail
        go_ret
        exact ⟨_, rfl, HZ.out.1, HZ.out.2⟩
      | true =>
        have q4 : ∀ K, (method (K + 1) 167 (.pointer (some ⟨fb, 0, none⟩)) "Swap").run Tryz.prog w3 = .ok (328, .slice ao n cp) w3 := fun K => m_row "Swap" _ k_swap hF3 K
        have HS := Lib.hid (aswap_any hF3.row i j hi (by omega))
        have HZ := Lib.hid (And.intro hF3 hkw); clear hF3 hkw hk3
        go_wp2_with fail
        refine HS.out.mono ?_
        rintro e w4 ⟨rfl, hA4, hk4⟩
        have HZ2 := Lib.hid (And.intro hA4 (HZ.out.2.trans hk4 (fun i hi => .inl hi))); clear hA4 hk4
        go_wp2_with fail
        go_roundw
        case rel => exact ⟨j, rfl, by omega, HZ2.out.1, HZ2.out.2⟩
        case measure => simp [intOf]; omega

set_option maxRecDepth 1000000 in
theorem addrInfo : (Tryz.prog.info? 105).map (fun i => (i.zero, i.size, i.bytes)) = some (some (.int .u64 0), 1, 8) := by kernel_rfl
theorem ta_addr (x : Int) (w : World) : (Instr.typeAssert (.iface 105 (.int .u64 x)) 20 105 false).run Tryz.prog w = .ok (.int .u64 x) w := by kernel_rfl
theorem one_addr (x : Int) (w : World) : (Instr.buildSlice 159 1 #[(0, .int .u64 x)]).run Tryz.prog w = .ok (.slice (some ⟨w.heap.size, 0, none⟩) 1 1) (w.alloc (.cells #[.int .u64 x] 105)) := by
  obtain ⟨i0, hi0, hz0, hz1, hz2⟩ := info_parts addrInfo
  refine run_buildSlice w 159 105 1 _ #[.int .u64 x] i0 (.int .u64 0) Tryz.underlying159 hi0 hz0 (by rw [hz1]; decide) (by rw [hz1]; decide) ?_
  have := Go.Great.fill_whole (s := i0.size) (by rw [hz1]; decide) [Value.int .u64 x] ((Array.range (1 * i0.size)).map ((Value.int .u64 0).cells[· % (Value.int .u64 0).cells.size]!)) (fun u hu => by simp at hu; subst hu; rw [hz1]; rfl) (by simp)
  simp only [List.zipIdx_cons, List.zipIdx_nil, List.map_cons, List.map_nil, List.flatMap_cons, List.flatMap_nil, List.append_nil] at this
  exact this.trans (congrArg some rfl)

theorem FrAt.set {w : World} {fb n' : Nat} {u v' : Value} (h : w.heap[fb]? = some (.cells #[u] 161 (0, 0))) (h' : Adr w v' n') (hne : v'.ownBlock ≠ some fb) : FrAt (w.setCell ⟨fb, 0, none⟩ v') fb v' n' :=
  ⟨by have := set_same (i := 0) (v := v') h; exact this, h'.same fun q hq => set_other (fun e => hne (by rw [hq, ← e]))⟩

/-- What becomes of a set: it lies in its own old cells, or in new ones. -/
def FPost (w : World) (fb : Nat) (v : Value) (n : Nat) (w' : World) : Prop := ∃ v', FrAt w' fb v' n ∧ Keeps (fb :: v.ownBlock.toList) w w' ∧ (v'.ownBlock = v.ownBlock ∨ ∃ q, v'.ownBlock = some q ∧ w.heap.size ≤ q)

set_option maxHeartbeats 1000000 in
theorem apush_any {w : World} {fb : Nat} {v : Value} {n : Nat} (h : FrAt w fb v n) (x : Int) (hx : U64 x) (hn : n < 2000) : Calls Tryz.prog 330 #[.pointer (some ⟨fb, 0, none⟩), .iface 105 (.int .u64 x)] w fun e w' => e = .returned (.tuple #[]) ∧ FPost w fb v (n + 1) w' := by
  obtain ⟨ao, cp, rfl, hcp, hcm⟩ := h.shape
  have c0 := cell_of (i := 0) h.blk rfl
  have f0 := free_of (i := 0) h.blk
  have HF := Lib.hid h; clear h
  go_enter Tryz.func330, Tryz.ntmps330
  obtain ⟨xs, hrow, hxs⟩ := HF.out.row
  have hbs := one_addr x w.drew
  have hta := fun wx => ta_addr x wx
  obtain ⟨i0, hi0, hz0, hz1, hz2⟩ := info_parts addrInfo
  obtain ⟨w2, hw2⟩ : ∃ w2, w2 = w.drew.alloc (.cells #[.int .u64 x] 105) := ⟨_, rfl⟩
  have hk2 : Keeps [] w w2 := by rw [hw2]; exact (Keeps.drew w).trans (Keeps.alloc _ _) (by simp)
  obtain ⟨v', w8, hrun, hrow', hgrow, hblk', hsl⟩ := run_append_row (P := Tryz.prog) (w := w2) 159 159 105 i0 _ 1 8 Tryz.underlying159 hi0 hz0 hz1 hz2 rfl (hrow.same fun q hq => hk2.block q (hrow.lt hq) (by simp)) (xv := .slice (some ⟨w.heap.size, 0, none⟩) 1 1) (m := 1) (news := [.int .u64 x])
    (.inr ⟨⟨w.heap.size, 0, none⟩, 1, rfl, rfl, fun i u hi => by
      have hc := alloc_new (w := w.drew) (o := .cells #[.int .u64 x] 105)
      rw [← hw2] at hc
      match i, hi with
      | 0, hi => cases hi; exact cell_of hc rfl⟩) rfl (by intro u hu; simp only [List.mem_cons, List.not_mem_nil, or_false] at hu; subst hu; rfl) (by unfold maxLen; omega) (by omega)
  obtain ⟨g5, o5, c5, rfl⟩ := hsl (by omega)
  have hal : w.drew.alloc (.cells #[.int .u64 x] 105) = w2 := hw2.symm
  have hF2 : FrAt w2 fb (.slice ao n cp) n := HF.out.keeps hk2 (by simp) (by simp)
  have hap := HF.out.apart
  have hk8 := Keeps.grown hgrow
  have hb8 : w8.heap[fb]? = some (.cells #[.slice ao n cp] 161 (0, 0)) := (hk8.block fb (lt_of hF2.blk) (by simpa only [Option.mem_toList] using hap)).trans hF2.blk
  have c2 := cell_of (i := 0) hF2.blk rfl
  have c8 := cell_of (i := 0) hb8 rfl
  have f8 := free_of (i := 0) hb8
  have hn8 : (Value.slice (some ⟨g5, o5, none⟩) (n + 1) c5).ownBlock ≠ some fb := fun e => by
    rcases hblk' with h1 | ⟨q, h1, h2⟩
    · exact hap (by rw [← h1]; exact e)
    · rw [h1] at e; cases e; have := lt_of HF.out.blk; have := hk2.size; omega
  have hA8 : Adr w8 (.slice (some ⟨g5, o5, none⟩) (n + 1) c5) (n + 1) := ⟨xs ++ [x], by rw [List.map_append]; exact hrow', fun y hy => (List.mem_append.1 hy).elim (hxs y) (fun hy => by simp at hy; subst hy; exact hx)⟩
  have hF8 : FrAt (w8.setCell ⟨fb, 0, none⟩ (.slice (some ⟨g5, o5, none⟩) (n + 1) c5)) fb (.slice (some ⟨g5, o5, none⟩) (n + 1) c5) (n + 1) := FrAt.set hb8 hA8 hn8
  have HX := Lib.hid (And.intro hF8 (And.intro hk2 (And.intro hk8 hblk')))
  clear hrow hxs hw2 hk2 hrow' hgrow hblk' hsl hF2 hap hk8 hb8 hn8 hA8 hF8 hx
  go_wp2_with fail
  go_region
  all_goals
    go_wp2_with fail
    go_end0
    obtain ⟨hF8, hk2, hk8, hblk'⟩ := HX.out
    refine ⟨rfl, _, hF8, ((hk2.mono (G := fb :: (Value.slice ao n cp).ownBlock.toList) (by simp)).trans (hk8.mono (G := fb :: (Value.slice ao n cp).ownBlock.toList) (fun i hi => .inl (List.mem_cons_of_mem _ hi))) (fun i hi => .inl hi)).trans (Keeps.setCell w8 fb 0 _) (fun i hi => .inl (by simp at hi; simp [hi])), ?_⟩
    rcases hblk' with h1 | ⟨q, h1, h2⟩
    · exact .inl h1
    · exact .inr ⟨q, h1, Nat.le_trans hk2.size h2⟩

set_option maxHeartbeats 1000000 in
theorem apop_any {w : World} {fb : Nat} {v : Value} {n : Nat} (h : FrAt w fb v (n + 1)) (hn : n < 2000) : Calls Tryz.prog 329 #[.pointer (some ⟨fb, 0, none⟩)] w fun e w' => (∃ u, e = .returned u) ∧ FPost w fb v n w' := by
  obtain ⟨ao, cp, rfl, hcp, hcm⟩ := h.shape
  obtain ⟨g, o, x, rfl, c1, hx, f1⟩ := h.row.at (i := n) (by omega)
  have c0 := cell_of (i := 0) h.blk rfl
  have f0 := free_of (i := 0) h.blk
  have hadr : Adr w (.slice (some ⟨g, o, none⟩) n cp) n := by
    obtain ⟨xs, h1, h2⟩ := h.row
    refine ⟨xs.take n, ?_, fun y hy => h2 y (List.mem_of_mem_take hy)⟩
    obtain ⟨hl, ⟨e, _⟩ | ⟨g', off', cap', cur, e, hg, a1, a2, a3, ht⟩⟩ := h1
    · cases e
    · cases e
      refine ⟨by simp at hl ⊢; omega, .inr ⟨g, o, cp, cur, rfl, hg, by omega, a2, a3, ?_⟩⟩
      have := congrArg (fun l => l.take n) ht
      simp only [List.take_take, ← List.map_take] at this
      rw [← this]
      congr 1
      omega
  have hfin : FPost w fb (.slice (some ⟨g, o, none⟩) (n + 1) cp) n (w.setCell ⟨fb, 0, none⟩ (.slice (some ⟨g, o, none⟩) n cp)) :=
    ⟨_, FrAt.set h.blk hadr h.apart, Keeps.mono (Keeps.setCell w fb 0 _) (fun i hi => .inl (by simp at hi; simp [hi])), .inl rfl⟩
  obtain ⟨n1, hn1⟩ : ∃ n1, n1 = n + 1 := ⟨_, rfl⟩
  rw [← hn1] at c0 hcp
  have e1 : IntKind.i64.wrap ((n1 : Int) - 1) = (n : Int) := by rw [IntWalk.i64_in _ (by omega)]; omega
  have hnI : (n : Int) < (n1 : Int) := by omega
  have hncp : (n : Int) ≤ (cp : Int) := by omega
  have HX := Lib.hid hfin
  clear h hadr hfin hn1
  go_enter Tryz.func329, Tryz.ntmps329
  go_wp2_with fail
  go_ret
  exact ⟨⟨_, rfl⟩, HX.out⟩

theorem FPost.up {w w1 w2 : World} {fb n : Nat} {v v1 : Value} (h1 : FrAt w1 fb v1 n) (k1 : Keeps (fb :: v.ownBlock.toList) w w1) (o1 : v1.ownBlock = v.ownBlock ∨ ∃ q, v1.ownBlock = some q ∧ w.heap.size ≤ q) (h2 : Adr w2 v1 n) (k2 : Keeps v1.ownBlock.toList w1 w2) : FPost w fb v n w2 := by
  refine ⟨v1, ⟨(k2.block fb (lt_of h1.blk) (by simpa only [Option.mem_toList] using h1.apart)).trans h1.blk, h2⟩, k1.trans k2 (fun i hi => ?_), o1⟩
  simp only [Option.mem_toList] at hi
  rcases o1 with e | ⟨q, e, hq⟩
  · exact .inl (List.mem_cons_of_mem _ (by rw [Option.mem_toList, ← e]; exact hi))
  · rw [e] at hi; cases hi; exact .inr hq

set_option maxRecDepth 100000 in
set_option maxHeartbeats 1000000 in
theorem hpush_any {w : World} {fb : Nat} {v : Value} {n : Nat} (h : FrAt w fb v n) (x : Int) (hx : U64 x) (hn : n < 1999) : Calls Tryz.prog 96 #[paddr fb, .iface 105 (.int .u64 x)] w fun e w' => e = .returned (.tuple #[]) ∧ FPost w fb v (n + 1) w' := by
  have q1 : ∀ K wx, (nilAhead (K + 1) 167 (.pointer (some ⟨fb, 0, none⟩)) "Push").run Tryz.prog wx = .ok (some false) wx := fun K wx => n_push fb K wx
  have q2 : ∀ K wx, (method (K + 1) 167 (.pointer (some ⟨fb, 0, none⟩)) "Push").run Tryz.prog wx = .ok (330, .pointer (some ⟨fb, 0, none⟩)) wx := fun K wx => m_push fb K wx
  have q3 : ∀ K wx, (nilAhead (K + 1) 167 (.pointer (some ⟨fb, 0, none⟩)) "Len").run Tryz.prog wx = .ok (some false) wx := fun K wx => n_len fb K wx
  have HP := Lib.hid (apush_any h x hx (by omega))
  clear h
  unfold paddr
  go_enter Tryz.func96, Tryz.ntmps96
  go_wp2_with fail
  refine HP.out.mono ?_
  rintro e w1 ⟨rfl, v1, hF1, hk1, ho1⟩
  obtain ⟨ao, cp, rfl, hcp, hcm⟩ := hF1.shape
  have q4 : ∀ K, (method (K + 1) 167 (.pointer (some ⟨fb, 0, none⟩)) "Len").run Tryz.prog w1 = .ok (194, .slice ao (n + 1) cp) w1 := fun K => m_row "Len" _ k_len hF1 K
  have HL := Lib.hid (alen_any ao (n + 1) cp w1)
  have HU := Lib.hid (up_any hF1 n (by omega) (by omega))
  unfold paddr at HU
  obtain ⟨n1, hn1⟩ : ∃ n1, n1 = n + 1 := ⟨_, rfl⟩
  have e1 : IntKind.i64.wrap ((n1 : Int) - 1) = (n : Int) := by rw [IntWalk.i64_in _ (by omega)]; omega
  have HX := Lib.hid (And.intro hF1 (And.intro hk1 ho1))
  rw [← hn1] at q4 HL
  clear hF1 hk1 ho1 hn1 hcp
  go_wp2_with fail
  refine HL.out.mono ?_
  rintro e w2 ⟨rfl, rfl⟩
  go_wp2_with fail
  refine HU.out.mono ?_
  rintro e w3 ⟨rfl, hA, hk3⟩
  have HY := Lib.hid (FPost.up HX.out.1 HX.out.2.1 HX.out.2.2 hA hk3); clear hA hk3
  go_wp2_with fail
  go_end0
  exact ⟨rfl, HY.out⟩

set_option maxRecDepth 100000 in
set_option maxHeartbeats 1000000 in
theorem hremove_any {w : World} {fb : Nat} {v : Value} {n : Nat} (h : FrAt w fb v (n + 1)) (i : Nat) (hi : i ≤ n) (hn : n < 1999) : Calls Tryz.prog 81 #[paddr fb, .int .i64 i] w fun e w' => (∃ u, e = .returned u) ∧ FPost w fb v n w' := by
  obtain ⟨ao, cp, rfl, hcp, hcm⟩ := h.shape
  have q3 : ∀ K wx, (nilAhead (K + 1) 167 (.pointer (some ⟨fb, 0, none⟩)) "Len").run Tryz.prog wx = .ok (some false) wx := fun K wx => n_len fb K wx
  have q4 : ∀ K, (method (K + 1) 167 (.pointer (some ⟨fb, 0, none⟩)) "Len").run Tryz.prog w = .ok (194, .slice ao (n + 1) cp) w := fun K => m_row "Len" _ k_len h K
  have q5 : ∀ K wx, (nilAhead (K + 1) 167 (.pointer (some ⟨fb, 0, none⟩)) "Swap").run Tryz.prog wx = .ok (some false) wx := fun K wx => n_swap fb K wx
  have q6 : ∀ K, (method (K + 1) 167 (.pointer (some ⟨fb, 0, none⟩)) "Swap").run Tryz.prog w = .ok (328, .slice ao (n + 1) cp) w := fun K => m_row "Swap" _ k_swap h K
  have q7 : ∀ K wx, (nilAhead (K + 1) 167 (.pointer (some ⟨fb, 0, none⟩)) "Pop").run Tryz.prog wx = .ok (some false) wx := fun K wx => n_pop fb K wx
  have q8 : ∀ K wx, (method (K + 1) 167 (.pointer (some ⟨fb, 0, none⟩)) "Pop").run Tryz.prog wx = .ok (329, .pointer (some ⟨fb, 0, none⟩)) wx := fun K wx => m_pop fb K wx
  have HL := Lib.hid (alen_any ao (n + 1) cp w)
  have HS := Lib.hid (aswap_any h.row i n (by omega) (by omega))
  have HD : Hid (∀ w1, FrAt w1 fb (.slice ao (n + 1) cp) (n + 1) → Calls Tryz.prog 100 #[paddr fb, .int .i64 i, .int .i64 n] w1 fun e w' => ∃ b, e = .returned (.bool b) ∧ Adr w' (.slice ao (n + 1) cp) (n + 1) ∧ Keeps (Value.slice ao (n + 1) cp).ownBlock.toList w1 w') := Lib.hid fun w1 h1 => down_any h1 i n (by omega) (by omega) (by omega)
  have HU : Hid (∀ w1, FrAt w1 fb (.slice ao (n + 1) cp) (n + 1) → Calls Tryz.prog 101 #[paddr fb, .int .i64 i] w1 fun e w' => e = .returned (.tuple #[]) ∧ Adr w' (.slice ao (n + 1) cp) (n + 1) ∧ Keeps (Value.slice ao (n + 1) cp).ownBlock.toList w1 w') := Lib.hid fun w1 h1 => up_any h1 i (by omega) (by omega)
  have HPp : Hid (∀ w1, FrAt w1 fb (.slice ao (n + 1) cp) (n + 1) → Calls Tryz.prog 329 #[.pointer (some ⟨fb, 0, none⟩)] w1 fun e w' => (∃ u, e = .returned u) ∧ FPost w1 fb (.slice ao (n + 1) cp) n w') := Lib.hid fun w1 h1 => apop_any h1 (by omega)
  unfold paddr at HU HD
  obtain ⟨n1, hn1⟩ : ∃ n1, n1 = n + 1 := ⟨_, rfl⟩
  have e1 : IntKind.i64.wrap ((n1 : Int) - 1) = (n : Int) := by rw [IntWalk.i64_in _ (by omega)]; omega
  have HF := Lib.hid (And.intro h hn1)
  rw [← hn1] at q4 q6 HL HS
  clear h hcp hn1
  unfold paddr
  go_enter Tryz.func81, Tryz.ntmps81
  go_wp2_with fail
  refine HL.out.mono ?_
  rintro e w2 ⟨rfl, rfl⟩
  go_upto_if 11 with fail
  obtain ⟨c0, hc0⟩ : ∃ c0 : Bool, c0 = ((n : Int) != (i : Int)) := ⟨_, rfl⟩
  rw [← hc0]
  have HC0 := Lib.hid hc0; clear hc0
  go_cut [] from 12 to 23 (fun wx => FrAt wx fb (.slice ao (n + 1) cp) (n + 1) ∧ Keeps (Value.slice ao (n + 1) cp).ownBlock.toList w wx)
  case first =>
    cases c0 with
    | false =>
      go_wp2_with fail
      go_meet
      exact ⟨HF.out.1, Keeps.refl _ _⟩
    | true =>
      go_wp2_with fail
      refine HS.out.mono ?_
      rintro e w3 ⟨rfl, hA3, hk3⟩
      rw [HF.out.2] at hA3 hk3
      have hF3 : FrAt w3 fb (.slice ao (n + 1) cp) (n + 1) := ⟨(hk3.block fb (lt_of HF.out.1.blk) (by simpa only [Option.mem_toList] using HF.out.1.apart)).trans HF.out.1.blk, hA3⟩
      have HDn := Lib.hid (HD.out w3 hF3)
      have H3 := Lib.hid (And.intro hF3 hk3); clear hF3 hk3 hA3
      go_wp2_with fail
      refine HDn.out.mono ?_
      rintro e w4 ⟨c, rfl, hA4, hk4⟩
      have hF4 : FrAt w4 fb (.slice ao (n + 1) cp) (n + 1) := ⟨(hk4.block fb (lt_of H3.out.1.blk) (by simpa only [Option.mem_toList] using H3.out.1.apart)).trans H3.out.1.blk, hA4⟩
      have HUp := Lib.hid (HU.out w4 hF4)
      have H4 := Lib.hid (And.intro hF4 (H3.out.2.trans hk4 (fun i hi => .inl hi))); clear hF4 hk4 hA4
      cases c with
      | true =>
        go_wp2_with fail
        go_meet
        exact ⟨H4.out.1, H4.out.2⟩
      | false =>
        go_wp2_with fail
        refine HUp.out.mono ?_
        rintro e w5 ⟨rfl, hA5, hk5⟩
        have H5 := Lib.hid (And.intro hA5 hk5); clear hA5 hk5
        go_wp2_with fail
        go_meet
        exact ⟨⟨(H5.out.2.block fb (lt_of H4.out.1.blk) (by simpa only [Option.mem_toList] using H4.out.1.apart)).trans H4.out.1.blk, H5.out.1⟩, H4.out.2.trans H5.out.2 (fun i hi => .inl hi)⟩
  case rest =>
  obtain ⟨hFc, hkc⟩ := hcut
  have HPc := Lib.hid (HPp.out wc hFc)
  have HC := Lib.hid hkc; clear hFc hkc
  go_wp2_with fail
  refine HPc.out.mono ?_
  rintro e w6 ⟨⟨u, rfl⟩, v6, hF6, hk6, ho6⟩
  have H6 := Lib.hid (And.intro hF6 (And.intro hk6 ho6)); clear hF6 hk6 ho6
  go_wp2_with fail
  go_ret
  refine ⟨⟨_, rfl⟩, v6, H6.out.1, (HC.out.mono (fun i hi => .inl (List.mem_cons_of_mem _ hi))).trans H6.out.2.1 (fun i hi => .inl hi), ?_⟩
  rcases H6.out.2.2 with e | ⟨q, e, hq⟩
  · exact .inl e
  · exact .inr ⟨q, e, Nat.le_trans HC.out.size hq⟩
end Go.Proofs.YtdbbbaallalhoaaGreat.bt
