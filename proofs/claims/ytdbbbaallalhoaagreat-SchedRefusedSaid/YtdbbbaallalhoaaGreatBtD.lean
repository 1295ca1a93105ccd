/-
  PROVED HERE: bits.Free's Put, Drop, Has, and NewFree: a set stays one. Conditions: the receiver is one; at most some 2000 addresses.
-/
import Derived.Test.YtdbbbaallalhoaaGreatBtC
namespace Go.Proofs.YtdbbbaallalhoaaGreat.bt
open Go.RowKit Go.Proofs.YtdbbbaallalhoaaGreat.pm Go.Proofs.YtdbbbaallalhoaaGreat.ar
set_option linter.unusedVariables false
attribute [-go_sem] Builtin.append_ Instr.buildSlice

theorem placeFn_any {w : World} {bx : Nat} {a : Int} (h : w.cell? ⟨bx, 0, none⟩ = some (.int .u64 a)) (x : Int) : Calls Tryz.prog 99 #[.int .u64 x, .pointer (some ⟨bx, 0, none⟩)] w fun e w' => ∃ b, e = .returned (.bool b) ∧ w = w' := by
  go_enter Tryz.func99, Tryz.ntmps99
  go_wp2_with fail
  go_ret
  exact ⟨_, rfl, rfl⟩
def IdxPost (w : World) (n : Nat) (e : Ending) (w' : World) : Prop := ((∃ i : Nat, i < n ∧ e = .returned (.int .i64 i)) ∨ e = .returned (.int .i64 (-1))) ∧ w = w'
set_option maxHeartbeats 1000000 in
theorem idx_any {w : World} {bx : Nat} {a : Int} (h : w.cell? ⟨bx, 0, none⟩ = some (.int .u64 a)) {ao : Option Addr} {n cp : Nat} (hA : Adr w (.slice ao n cp) n) (hn : n ≤ 2000) :
    Calls Tryz.prog 98 #[.slice ao n cp, .func (.func 99) #[] #[.pointer (some ⟨bx, 0, none⟩)]] w (IdxPost w n) := by
  have HA := Lib.hid hA; clear hA
  have HP : Hid (∀ x, Calls Tryz.prog 99 #[.int .u64 x, .pointer (some ⟨bx, 0, none⟩)] w fun e w' => ∃ b, e = .returned (.bool b) ∧ w = w') := Lib.hid fun x => placeFn_any h x
  clear h
  go_enter Tryz.func98, Tryz.ntmps98
  go_wp2_with fail
  go_loopw [8] (fun s8 wr => ∃ k : Nat, k ≤ n ∧ s8 = .int .i64 k ∧ wr = w) (fun s8 _ => n - (intOf s8).toNat)
  case atStart => exact ⟨0, by omega, rfl, rfl⟩
  case round =>
    obtain ⟨k, hk, rfl, rfl⟩ := hrel
    by_cases hlt : k < n
    · have hkI : (k : Int) < (n : Int) := by omega
      obtain ⟨g, o, x, rfl, cx, hx, fx⟩ := HA.out.at hlt
      have HPx := Lib.hid (HP.out x)
      go_wp2_with fail
      refine HPx.out.mono ?_
      rintro e w1 ⟨c, rfl, rfl⟩
      cases c with
      | true =>
        go_wp2_with fail
        go_ret
        exact ⟨.inl ⟨k, hlt, rfl⟩, rfl⟩
      | false =>
        go_wp2_with fail
        go_roundw
        case rel => exact ⟨k + 1, by omega, by go_num, trivial⟩
        case measure => simp [intOf]; omega
    · obtain rfl : k = n := by omega
      go_wp2_with fail
      go_ret
      exact ⟨.inr rfl, rfl⟩
def PlacePost (w : World) (n : Nat) (e : Ending) (w' : World) : Prop := ((∃ i : Nat, i < n ∧ e = .returned (.int .i64 i)) ∨ e = .returned (.int .i64 (-1))) ∧ Keeps [] w w'
theorem place_any {w : World} {fb : Nat} {v : Value} {n : Nat} (h : FrAt w fb v n) (hn : n ≤ 2000) (a : Int) : Calls Tryz.prog 80 #[.pointer (some ⟨fb, 0, none⟩), .int .u64 a] w (PlacePost w n) := by
  obtain ⟨ao, cp, rfl, hcp, hcm⟩ := h.shape
  obtain ⟨W1, hW1⟩ : ∃ W1, W1 = w.alloc (.cells #[.int .u64 a] 105) := ⟨_, rfl⟩
  have hk1 : Keeps [] w W1 := by rw [hW1]; exact Keeps.alloc _ _
  have hF1 := h.keeps hk1 (by simp) (by simp)
  have cb : W1.cell? ⟨w.heap.size, 0, none⟩ = some (.int .u64 a) := by rw [hW1]; exact cell_of alloc_new rfl
  have c0 : W1.cell? ⟨fb, 0, none⟩ = some (.slice ao n cp) := cell_of hF1.blk rfl
  have HI := Lib.hid (idx_any cb hF1.row hn)
  have HK := Lib.hid hk1
  have hal : w.alloc (.cells #[.int .u64 a] 105) = W1 := hW1.symm
  clear h hk1 hF1 hW1 cb
  go_enter Tryz.func80, Tryz.ntmps80
  go_wp2_with fail
  refine HI.out.mono ?_
  rintro e w2 ⟨(⟨i, hi, rfl⟩ | rfl), rfl⟩
  · go_wp2_with fail
    go_ret
    exact ⟨.inl ⟨i, hi, rfl⟩, HK.out⟩
  · go_wp2_with fail
    go_ret
    exact ⟨.inr rfl, HK.out⟩
theorem fhas_any {w : World} {fb : Nat} {v : Value} {n : Nat} (h : FrAt w fb v n) (hn : n ≤ 2000) (a : Int) : Calls Tryz.prog 95 #[.pointer (some ⟨fb, 0, none⟩), .int .u64 a] w fun e w' => ∃ b, e = .returned (.bool b) ∧ Keeps [] w w' := by
  have HP := Lib.hid (place_any h hn a)
  clear h
  go_enter Tryz.func95, Tryz.ntmps95
  go_wp2_with fail
  refine HP.out.mono ?_
  rintro e w1 ⟨(⟨i, hi, rfl⟩ | rfl), hk⟩
  · have HK := Lib.hid hk; clear hk
    go_wp2_with fail
    go_ret
    exact ⟨_, rfl, HK.out⟩
  · have HK := Lib.hid hk; clear hk
    go_wp2_with fail
    go_ret
    exact ⟨_, rfl, HK.out⟩

/-- A set that may have grown, or not. -/
def GPost (w : World) (fb : Nat) (v : Value) (n : Nat) (w' : World) : Prop := ∃ v' n', n' ≤ n ∧ FrAt w' fb v' n' ∧ Keeps (fb :: v.ownBlock.toList) w w' ∧ (v'.ownBlock = v.ownBlock ∨ ∃ q, v'.ownBlock = some q ∧ w.heap.size ≤ q)
theorem GPost.same {w w1 : World} {fb : Nat} {v : Value} {n m : Nat} (h : FrAt w fb v n) (hk : Keeps [] w w1) (hm : n ≤ m) : GPost w fb v m w1 := ⟨v, n, hm, h.keeps hk (by simp) (by simp), hk.mono (by simp), .inl rfl⟩
theorem GPost.of {w w1 w2 : World} {fb : Nat} {v : Value} {n m : Nat} (hk : Keeps [] w w1) (h : FPost w1 fb v n w2) (hm : n ≤ m) : GPost w fb v m w2 := by
  obtain ⟨v', h1, h2, h3⟩ := h
  refine ⟨v', n, hm, h1, (hk.mono (by simp)).trans h2 (fun i hi => .inl hi), ?_⟩
  rcases h3 with e | ⟨q, e, hq⟩
  · exact .inl e
  · exact .inr ⟨q, e, Nat.le_trans hk.size hq⟩

set_option maxHeartbeats 1000000 in
theorem fput_any {w : World} {fb : Nat} {v : Value} {n : Nat} (h : FrAt w fb v n) (hn : n < 1999) (a : Int) (ha : U64 a) : Calls Tryz.prog 75 #[.pointer (some ⟨fb, 0, none⟩), .int .u64 a] w fun e w' => (∃ u, e = .returned u) ∧ GPost w fb v (n + 1) w' := by
  have HH := Lib.hid (fhas_any h (by omega) a)
  have HP : Hid (∀ w1, Keeps [] w w1 → Calls Tryz.prog 96 #[.iface 167 (.pointer (some ⟨fb, 0, none⟩)), .iface 105 (.int .u64 a)] w1 fun e w' => e = .returned (.tuple #[]) ∧ FPost w1 fb v (n + 1) w') := Lib.hid fun w1 hk => hpush_any (h.keeps hk (by simp) (by simp)) a ha (by omega)
  have HF := Lib.hid h; clear h ha
  by_cases h0 : a = 0
  · subst h0
    clear HH HP
    go_enter Tryz.func75, Tryz.ntmps75
    go_wp2_with fail
    go_ret
    exact ⟨⟨_, rfl⟩, GPost.same HF.out (Keeps.refl _ _) (by omega)⟩
  · have b0 : (a == 0) = false := by simp; omega
    clear h0
    go_enter Tryz.func75, Tryz.ntmps75
    go_wp2_with fail
    refine HH.out.mono ?_
    rintro e w1 ⟨c, rfl, hk⟩
    have HP1 := Lib.hid (HP.out w1 hk)
    have HK := Lib.hid hk; clear hk
    cases c with
    | true =>
      go_wp2_with fail
      go_ret
      exact ⟨⟨_, rfl⟩, GPost.same HF.out HK.out (by omega)⟩
    | false =>
      go_wp2_with fail
      refine HP1.out.mono ?_
      rintro e w2 ⟨rfl, hp⟩
      have H2 := Lib.hid hp; clear hp
      go_wp2_with fail
      go_ret
      exact ⟨⟨_, rfl⟩, GPost.of HK.out H2.out (by omega)⟩
set_option maxHeartbeats 1000000 in
theorem fdrop_any {w : World} {fb : Nat} {v : Value} {n : Nat} (h : FrAt w fb v n) (hn : n < 1999) (a : Int) : Calls Tryz.prog 50 #[.pointer (some ⟨fb, 0, none⟩), .int .u64 a] w fun e w' => (∃ u, e = .returned u) ∧ GPost w fb v n w' := by
  have HH := Lib.hid (place_any h (by omega) a)
  have HP : Hid (∀ w1, Keeps [] w w1 → ∀ i, i < n → Calls Tryz.prog 81 #[.iface 167 (.pointer (some ⟨fb, 0, none⟩)), .int .i64 i] w1 fun e w' => (∃ u, e = .returned u) ∧ FPost w1 fb v (n - 1) w') := Lib.hid fun w1 hk i hi => by
    have := hremove_any (n := n - 1) (by rw [show n - 1 + 1 = n by omega]; exact h.keeps hk (by simp) (by simp)) i (by omega) (by omega)
    exact this
  have HF := Lib.hid h; clear h
  go_enter Tryz.func50, Tryz.ntmps50
  go_wp2_with fail
  refine HH.out.mono ?_
  rintro e w1 ⟨(⟨i, hi, rfl⟩ | rfl), hk⟩
  · have HP1 := Lib.hid (HP.out w1 hk i hi)
    have HK := Lib.hid hk; clear hk
    have hi0 : ¬ (i : Int) < 0 := by omega
    go_wp2_with fail
    refine HP1.out.mono ?_
    rintro e w2 ⟨⟨u, rfl⟩, hp⟩
    have H2 := Lib.hid hp; clear hp
    go_wp2_with fail
    go_ret
    exact ⟨⟨_, rfl⟩, GPost.of HK.out H2.out (by omega)⟩
  · have HK := Lib.hid hk; clear hk
    go_wp2_with fail
    go_ret
    exact ⟨⟨_, rfl⟩, GPost.same HF.out HK.out (by omega)⟩

theorem freeNew_any (w : World) : Calls Tryz.prog 41 #[.slice none 0 0] w fun e w' => e = .returned (.pointer (some ⟨w.heap.size, 0, none⟩)) ∧ w' = w.alloc (.cells #[.slice none 0 0] 161) := by
  go_enter Tryz.func41, Tryz.ntmps41
  go_wp2_with fail
  go_loopw [10] (fun s10 wr => s10 = .int .i64 (0 : Nat) ∧ wr = w.alloc (.cells #[.slice none 0 0] 161)) (fun s10 _ => 1 - (intOf s10).toNat)
  case atStart => exact ⟨rfl, rfl⟩
  case round =>
    obtain ⟨rfl, rfl⟩ := hrel
    go_wp2_with fail
    go_ret
    exact ⟨rfl, rfl⟩
end Go.Proofs.YtdbbbaallalhoaaGreat.bt
