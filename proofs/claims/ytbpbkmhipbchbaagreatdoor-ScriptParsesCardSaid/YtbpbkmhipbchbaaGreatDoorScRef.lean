/-
  ScRef1: PROVED HERE: the contracts of the reference's Num (a number's digits), num, fits. Conditions: a number of its kind.
  ScRef2: PROVED HERE: the contracts of the reference's num, fits, Num, small, Again. Conditions: numbers of their kinds; short strings.
  ScRef3: PROVED HERE: the contracts of the reference's name and Hex. Conditions: names; a string of at most 1000000 bytes.
-/
import Derived.Test.YtbpbkmhipbchbaaGreatDoorScWorld
import Derived.Test.YtbpbkmhipbchbaaGreatDoorScPlain
import Derived.Deep.RegionHeld3
import Derived.Deep.DeepCutAuto
import Derived.Test.YtbpbkmhipbchbaaGreatDoorScWords
import Derived.Test.YtbpbkmhipbchbaaGreatDoorScSmall
import Derived.BigQuiet
namespace Go.Proofs.YtbpbkmhipbchbaaGreatDoor.sc
open Go.RowKit
set_option linter.unusedVariables false

theorem add_plain' (b o j : Nat) : (⟨b, o, none⟩ : Addr).add j = ⟨b, o + j, none⟩ := by
  unfold Addr.add; by_cases h : j = 0 <;> simp [h]
theorem conv_blk {w : World} {b : Nat} {x : UInt8} {n : Int} (h : Blk w b 5 #[.int .u8 n]) (hn : n = (x.toNat : Int)) : (convert 92 9 (.slice (some ⟨b, 0, none⟩) 1 1)).run Tryz.prog w = .ok (.string ⟨#[x]⟩) w := by
  subst hn
  refine run_convert_bytes_back (P := Tryz.prog) _ 92 9 5 ⟨b, 0, none⟩ 1 [x] Tryz.underlying92 Tryz.underlying5 Tryz.underlying9 (fun j hj => ?_)
  have : j = 0 := by simpa using hj
  subst this
  rw [add_plain', h.cell]
  rfl
theorem conv_one (w : World) (x : UInt8) (n : Int) (hn : n = (x.toNat : Int)) : (convert 92 9 (.slice (some ⟨w.heap.size, 0, none⟩) 1 1)).run Tryz.prog (w.alloc (.cells #[.int .u8 n] 5)) = .ok (.string ⟨#[x]⟩) (w.alloc (.cells #[.int .u8 n] 5)) :=
  conv_blk (Blk.new w _ _) hn
theorem conv_step1 {w w5 : World} {n : Int} (hb : Below (w.drew.alloc (.cells #[.int .u8 n] 5)).heap.size (w.drew.alloc (.cells #[.int .u8 n] 5)) w5) : Blk w5 w.heap.size 5 #[.int .u8 n] ∧ Below w.heap.size w w5 :=
  ⟨(Blk.new w.drew _ _).below hb (by simp), ((Below.refl _ _).drew.alloc (Nat.le_refl _) _).trans (hb.mono (by simp))⟩
theorem conv_step2 {w w5 : World} {n : Int} (hb : Below ((w.alloc (.cells #[.int .u8 n] 5)).drew).heap.size ((w.alloc (.cells #[.int .u8 n] 5)).drew) w5) : Blk w5 w.heap.size 5 #[.int .u8 n] ∧ Below w.heap.size w w5 :=
  ⟨(Blk.new w _ _).drew.below hb (by simp), ((Below.refl _ _).alloc (Nat.le_refl _) _).drew.trans (hb.mono (by simp))⟩

set_option maxRecDepth 100000 in
theorem rNum08_any : ∀ (u : Nat) (w : World), u < 18446744073709551616 →
    Calls Tryz.prog 47 #[.int .u64 u] w fun e w' => e = .returned (.string (mk (num u))) ∧ Below w.heap.size w w' := by
  intro u
  induction u using Nat.strongRecOn with
  | _ u ih =>
    intro w hu
    by_cases h10 : u < 10
    · obtain ⟨x, hx⟩ : ∃ x, x = UInt8.ofNat (48 + u) := ⟨_, rfl⟩
      have hxn : (48 + u : Int) = (x.toNat : Int) := by rw [hx, UInt8.toNat_ofNat']; omega
      have hN := Lib.hid (show num u = [x] by rw [num_nat', Lib.decDigits_one h10, hx])
      have hlt : (u : Int) < 10 := by omega
      have hc := conv_one w x (48 + u) hxn
      clear hx hxn
      have hw1 : IntKind.u64.wrap (48 + (u : Int)) = 48 + u := IntWalk.u64_in _ (by omega)
      have hw2 : IntKind.u8.wrap (48 + (u : Int)) = 48 + u := IntWalk.u8_in _ (by omega)
      have hq : Below w.heap.size w (w.alloc (.cells #[.int .u8 (48 + u)] 5)) := (Below.refl _ _).alloc (Nat.le_refl _) _
      have HQ := Lib.hid hq; clear hq
      go_enter Tryz.func47, Tryz.ntmps47
      go_wp2_with fail
      go_ret
      exact ⟨by rw [hN.out]; rfl, HQ.out⟩
    · obtain ⟨q, hq⟩ : ∃ q, q = u / 10 := ⟨_, rfl⟩
      obtain ⟨r, hr⟩ : ∃ r, r = u % 10 := ⟨_, rfl⟩
      obtain ⟨x, hx⟩ : ∃ x, x = UInt8.ofNat (48 + r) := ⟨_, rfl⟩
      have hxn : (48 + r : Int) = (x.toNat : Int) := by rw [hx, UInt8.toNat_ofNat']; omega
      have hN := Lib.hid (show num u = num (q : Int) ++ [x] by rw [num_nat', num_nat', Lib.decDigits, dif_neg h10, hx, hr, hq])
      have hL : (num (q : Int)).length ≤ 21 := num_le _ (by omega) (by omega)
      have hlt : ¬ (u : Int) < 10 := by omega
      have hc : ∀ W : World, _ := fun W => conv_one W x (48 + r) hxn
      have hw0 : IntKind.u64.wrap ((u : Int) / 10) = (q : Int) := by
        rw [IntWalk.u64_in _ (by omega)]; omega
      have hwr : Int.tmod (u : Int) 10 = (r : Int) := by
        rw [Int.tmod_eq_emod_of_nonneg (by omega)]; omega
      have hw1 : IntKind.u64.wrap (48 + (r : Int)) = 48 + (r : Int) := IntWalk.u64_in _ (by omega)
      have hw2 : IntKind.u8.wrap (48 + (r : Int)) = 48 + (r : Int) := IntWalk.u8_in _ (by omega)
      have hcat : ¬ 9223372036854775807 < (num (q : Int)).length + 1 := by omega
      have IH := Lib.hid (fun w => ih q (by omega) w (by omega)); clear ih
      have HXN := Lib.hid hxn
      have hcd : (convert 92 9 (.slice (some ⟨w.heap.size, 0, none⟩) 1 1)).run Tryz.prog ((w.alloc (.cells #[.int .u8 (48 + r)] 5)).drew) = _ := conv_blk (Blk.new w 5 #[.int .u8 (48 + r)]).drew hxn
      have hcd2 : (convert 92 9 (.slice (some ⟨w.heap.size, 0, none⟩) 1 1)).run Tryz.prog (w.drew.alloc (.cells #[.int .u8 (48 + r)] 5)) = _ := conv_blk (Blk.new w.drew 5 #[.int .u8 (48 + r)]) hxn
      clear h10 hx hxn hq hr hu hL
      go_enter Tryz.func47, Tryz.ntmps47
      go_upto_region 3 with fail
      go_region_with (first
        | (go_at_call 47; refine (IH.out _).mono ?_; rintro e w5 ⟨rfl, hb5⟩
           first
           | (with_reducible have K5 := conv_step1 hb5; have hc5 := conv_blk K5.1 HXN.out)
           | (with_reducible have K5 := conv_step2 hb5; have hc5 := conv_blk K5.1 HXN.out)
           | skip))
      all_goals
        go_wp2_with fail
        go_ret
        refine ⟨by rw [hN.out, ← mk_append]; rfl, ?_⟩
        first
        | exact K5.2
        | exact (((Below.refl w.heap.size w).drew).trans hb5).alloc hb5.size _
        | exact ((Below.refl w.heap.size w).drew).trans hb5

end Go.Proofs.YtbpbkmhipbchbaaGreatDoor.sc

namespace Go.Proofs.YtbpbkmhipbchbaaGreatDoor.sc
open Go.RowKit
set_option linter.unusedVariables false

set_option maxRecDepth 100000 in
theorem rnum_any {w : World} (n : Int) (h0 : 0 ≤ n) (h1 : n ≤ 9223372036854775807) :
    Calls Tryz.prog 44 #[.int .i64 n] w fun e w' => e = .returned (.string (mk (num n))) ∧ Below w.heap.size w w' := by
  obtain ⟨u, rfl⟩ : ∃ u : Nat, n = u := ⟨n.toNat, by omega⟩
  have H := Lib.hid (rNum08_any u w (by omega))
  have hc : IntKind.u64.wrap (u : Int) = u := IntWalk.u64_in _ (by omega)
  go_enter Tryz.func44, Tryz.ntmps44
  go_wp2_with fail
  refine H.out.mono ?_; rintro e w1 ⟨rfl, hb1⟩
  go_wp2_with fail
  go_ret
  exact ⟨rfl, hb1⟩
theorem rNum08_int {w : World} (n : Int) (h : U64 n) :
    Calls Tryz.prog 47 #[.int .u64 n] w fun e w' => e = .returned (.string (mk (num n))) ∧ Below w.heap.size w w' := by
  obtain ⟨u, rfl⟩ : ∃ u : Nat, n = u := ⟨n.toNat, by have := h.1; omega⟩
  exact rNum08_any u w (by have := h.2; omega)

set_option maxRecDepth 100000 in
theorem rFits_any (w : World) (n : Int) : Calls Tryz.prog 51 #[.int .i64 n] w fun e w' => e = .returned (.bool (fits n)) ∧ w' = w := by
  by_cases h0 : 0 ≤ n
  · have HG := Lib.hid (show fits n = decide (n ≤ 1099511627776) by unfold fits big; rw [decide_eq_true h0, Bool.true_and])
    go_enter Tryz.func51, Tryz.ntmps51
    go_wp2_with fail
    go_ret
    exact ⟨by rw [HG.out]; rfl, rfl⟩
  · have HG := Lib.hid (show fits n = false by unfold fits; rw [decide_eq_false h0, Bool.false_and])
    go_enter Tryz.func51, Tryz.ntmps51
    go_wp2_with fail
    go_ret
    exact ⟨by rw [HG.out]; rfl, rfl⟩

/-! ### Num -/
def numFold (l : Bs) (k : Nat) : Nat := (l.take k).foldl numStep 0
theorem numFold_succ {l : Bs} {k : Nat} {b : UInt8} (h : l[k]? = some b) : numFold l (k + 1) = numStep (numFold l k) b := by
  unfold numFold
  rw [List.take_add_one, h]
  simp
theorem numFold_lt (l : Bs) (k : Nat) : numFold l k < 18446744073709551616 := by
  unfold numFold
  generalize l.take k = t
  have : ∀ (t : Bs) (n : Nat), n < 18446744073709551616 → t.foldl numStep n < 18446744073709551616 := by
    intro t
    induction t with
    | nil => intro n h; exact h
    | cons b r ih => intro n _; exact ih _ (Nat.mod_lt _ (by decide))
  exact this t 0 (by decide)

theorem mk_get' {l : Bs} {k : Nat} {b : UInt8} {h : k < (mk l).size} (hb : l[k]? = some b) : (mk l)[k] = b := by
  have h2 : k < l.length := by rw [← mk_size l]; exact h
  have : (mk l)[k] = l[k] := by
    show (mk l).data[k] = _
    simp
  rw [this]
  rw [List.getElem?_eq_getElem h2] at hb
  exact Option.some.inj hb
theorem u64_wrap_mod (x : Int) : IntKind.u64.wrap x = x % 18446744073709551616 := by
  simp [IntKind.wrap, IntKind.bits, IntKind.signed]
theorem num_step_eq (n : Nat) (b : UInt8) : Value.int .u64 (IntKind.u64.wrap (IntKind.u64.wrap (10 * (n : Int)) + ((b.toNat : Int) - 48) % 256)) = Value.int .u64 (numStep n b : Nat) := by
  rw [u64_wrap_mod, u64_wrap_mod]
  unfold numStep dval
  congr 1
  omega

set_option maxHeartbeats 1000000 in
set_option maxRecDepth 100000 in
theorem rNum_any {w : World} (l : Bs) (hl : l.length ≤ 1000000) : Calls Tryz.prog 33 #[.string (mk l)] w fun e w' => e = .returned (.int .u64 (numR l)) ∧ w' = w := by
  have hlen : (mk l).size = l.length := mk_size l
  go_enter Tryz.func33, Tryz.ntmps33
  go_wp2_with fail
  go_loopw [3, 4] (fun s3 s4 wr => ∃ k : Nat, k ≤ l.length ∧ k ≤ 20 ∧ s4 = .int .i64 k ∧ s3 = .int .u64 (numFold l k) ∧ wr = w) (fun _ s4 _ => l.length - (RowKit.intOf s4).toNat)
  case atStart => exact ⟨0, by omega, by omega, rfl, rfl, rfl⟩
  case round =>
    obtain ⟨k, hk, hk2, rfl, rfl, rfl⟩ := hrel
    by_cases hlt : k < l.length
    · by_cases hlt2 : k < 20
      · obtain ⟨b, hb⟩ : ∃ b, l[k]? = some b := ⟨_, List.getElem?_eq_getElem hlt⟩
        have HB := Lib.hid hb
        go_wp2_with fail
        refine ⟨⟨k + 1, by omega, by omega, by simp, ?_, trivial⟩, by simp [RowKit.intOf]; omega⟩
        rw [numFold_succ HB.out, num_step_eq, mk_get' HB.out]
      · have HK := Lib.hid (show k = 20 by omega)
        go_wp2_with fail
        go_ret
        exact ⟨by rw [show numR l = numFold l k by rw [HK.out]; rfl]; rfl, rfl⟩
    · have HK := Lib.hid (show numR l = numFold l k by
        unfold numR numFold
        rw [List.take_of_length_le (by omega : l.length ≤ 20), List.take_of_length_le (by omega : l.length ≤ k)])
      go_wp2_with fail
      go_ret
      exact ⟨by rw [HK.out]; rfl, rfl⟩

set_option maxRecDepth 100000 in
theorem rSmall_any {w : World} (l : Bs) (hl : l.length ≤ 1000000) : Calls Tryz.prog 32 #[.string (mk l)] w fun e w' => e = .returned (.int .i64 (smallR l)) ∧ w' = w := by
  have H := Lib.hid (rNum_any (w := w) l hl)
  obtain ⟨u, hu⟩ : ∃ u, u = numR l := ⟨_, rfl⟩
  have hlt : u < 18446744073709551616 := by rw [hu]; exact numR_lt l
  rw [← hu] at H
  have HU := Lib.hid (show smallR l = if 1099511627776 < u then -1 else (u : Int) by rw [hu]; rfl)
  clear hu
  by_cases hb : 1099511627776 < u
  · rw [if_pos hb] at HU
    have hb2 : (1099511627776 : Int) < (u : Int) := by omega
    clear hb
    go_enter Tryz.func32, Tryz.ntmps32
    go_wp2_with fail
    refine H.out.mono ?_; rintro e w1 ⟨rfl, rfl⟩
    go_wp2_with fail
    go_ret
    exact ⟨by rw [HU.out]; rfl, rfl⟩
  · rw [if_neg hb] at HU
    have hb2 : ¬ (1099511627776 : Int) < (u : Int) := by omega
    have hc : IntKind.i64.wrap (u : Int) = u := IntWalk.i64_in _ (by omega)
    clear hb
    go_enter Tryz.func32, Tryz.ntmps32
    go_wp2_with fail
    refine H.out.mono ?_; rintro e w1 ⟨rfl, rfl⟩
    go_wp2_with fail
    go_ret
    exact ⟨by rw [HU.out]; rfl, rfl⟩

end Go.Proofs.YtbpbkmhipbchbaaGreatDoor.sc

namespace Go.Proofs.YtbpbkmhipbchbaaGreatDoor.sc
open Go.RowKit Go.Shelf Go.Sort Go.Lib
set_option linter.unusedVariables false

theorem rName_any {w : World} {A : Option Addr} {c : Nat} {l : List Bs} (i : Int) (h : StrsAt w (.slice A l.length c) l) (h0 : 0 < l.length) (h1 : l.length ≤ 100) :
    Calls Tryz.prog 45 #[.slice A l.length c, .int .i64 i] w fun e w' => e = .returned (.string (mk (nameL l i))) ∧ Below w.heap.size w w' := by
  obtain ⟨x, hx⟩ : ∃ x, l[0]? = some x := ⟨_, List.getElem?_eq_getElem h0⟩
  obtain ⟨b, o, rfl, _, c0⟩ := h.cell hx
  rw [Nat.add_zero] at c0
  have hx0 : l.getD 0 [] = x := by rw [List.getD, hx]; rfl
  by_cases hi : i < 0
  · have N := Lib.hid (show nameL l i = x from (if_pos (Or.inl hi)).trans hx0)
    clear hx hx0
    go_enter Tryz.func45, Tryz.ntmps45
    go_wp2
    go_ret
    exact ⟨by rw [N.out]; rfl, Below.refl _ _⟩
  · by_cases hj : (l.length : Int) ≤ i
    · have N := Lib.hid (show nameL l i = x from (if_pos (Or.inr hj)).trans hx0)
      clear hx hx0
      go_enter Tryz.func45, Tryz.ntmps45
      go_wp2
      go_ret
      exact ⟨by rw [N.out]; rfl, Below.refl _ _⟩
    · obtain ⟨k, rfl⟩ : ∃ k : Nat, i = k := ⟨i.toNat, by omega⟩
      have hk : k < l.length := by omega
      obtain ⟨y, hy⟩ : ∃ y, l[k]? = some y := ⟨_, List.getElem?_eq_getElem hk⟩
      have N := Lib.hid (show nameL l k = y from (if_neg (by omega)).trans (by rw [Int.toNat_natCast, List.getD, hy]; rfl))
      obtain ⟨b', o', e', _, c1⟩ := h.cell hy
      cases e'
      clear hx hx0 hy c0
      go_enter Tryz.func45, Tryz.ntmps45
      go_wp2
      go_ret
      exact ⟨by rw [N.out]; rfl, Below.refl _ _⟩

def hexL : Bs := [48, 49, 50, 51, 52, 53, 54, 55, 56, 57, 97, 98, 99, 100, 101, 102]
theorem hex_extract (q : Nat) (h : q < 16) : (mk hexL).extract q (q + 1) = mk [hexd q] := by
  have : ∀ q : Fin 16, ((mk hexL).extract q.val (q.val + 1)).data.toList = [hexd q.val] := by decide
  have h2 := this ⟨q, h⟩
  rw [← h2]
def hexFold (l : Bs) (k : Nat) : Bs := (l.take k).flatMap hex2
theorem hexFold_succ {l : Bs} {k : Nat} {b : UInt8} (h : l[k]? = some b) : hexFold l (k + 1) = hexFold l k ++ [hexd (b.toNat / 16), hexd (b.toNat % 16)] := by
  unfold hexFold
  rw [List.take_add_one, h]
  simp [hex2]
theorem below_drewK {B : Nat} {w w' : World} (h : RowKit.Below B w w') (k : Nat) : RowKit.Below B w (w'.drewN k) := ⟨h.os, h.tape, h.output, h.size, h.block⟩
theorem hexFold_le (l : Bs) (k : Nat) (hk : k ≤ l.length) (hl : l.length ≤ 1000000) : (hexFold l k).length ≤ 2000000 := by
  unfold hexFold
  rw [flat_len, List.length_take]
  omega

set_option maxHeartbeats 1000000 in
set_option maxRecDepth 100000 in
theorem rHex_any {w : World} (l : Bs) (hl : l.length ≤ 1000000) : Calls Tryz.prog 46 #[.string (mk l)] w fun e w' => e = .returned (.string (mk (digits l))) ∧ Below w.heap.size w w' := by
  by_cases h0 : l = []
  · subst h0
    go_enter Tryz.func46, Tryz.ntmps46
    go_wp2_with fail
    go_ret
    exact ⟨rfl, Below.refl _ _⟩
  · have hlen : (mk l).size = l.length := mk_size l
    have hne : List.isEmpty l = false := by
      cases l
      · exact absurd rfl h0
      · rfl
    have HD := Lib.hid (show digits l = hexFold l l.length by unfold hexFold; rw [List.take_length]; exact if_neg h0)
    clear h0
    go_enter Tryz.func46, Tryz.ntmps46
    go_wp2_with fail
    obtain ⟨H, hH⟩ : ∃ H : ByteArray, H = ⟨#[48, 49, 50, 51, 52, 53, 54, 55, 56, 57, 97, 98, 99, 100, 101, 102]⟩ := ⟨_, rfl⟩
    rw [← hH]
    have hxs : H.size = 16 := by rw [hH]; rfl
    have HH := Lib.hid (show H = mk hexL from hH)
    clear hH
    go_loopw [4, 5] (fun s4 s5 wr => ∃ k : Nat, k ≤ l.length ∧ s5 = .int .i64 k ∧ s4 = .string (mk (hexFold l k)) ∧ Below w.heap.size w wr) (fun _ s5 _ => l.length - (RowKit.intOf s5).toNat)
    case atStart => exact ⟨0, by omega, rfl, rfl, Below.refl _ _⟩
    case round =>
      obtain ⟨k, hk, rfl, rfl, hb⟩ := hrel
      by_cases hlt : k < l.length
      · obtain ⟨b, hbk⟩ : ∃ b, l[k]? = some b := ⟨_, List.getElem?_eq_getElem hlt⟩
        have HB := Lib.hid hbk; clear hbk
        have h256 : b.toNat < 256 := b.toNat_lt
        go_upto_region 8 with fail
        go_quiet (fail)
        rw [mk_get' HB.out]
        have e1 : wrap64 (b.toNat : Int) = (b.toNat : Int) := by unfold wrap64; omega
        have e2 : wrap64 ((b.toNat : Int).tdiv 16) = ((b.toNat / 16 : Nat) : Int) := by
          rw [Int.tdiv_eq_ediv_of_nonneg (by omega)]; unfold wrap64; omega
        have e3 : (b.toNat : Int).tmod 16 = ((b.toNat % 16 : Nat) : Int) := by rw [Int.tmod_eq_emod_of_nonneg (by omega)]; omega
        rw [e1, e2, e3]
        clear e1 e2 e3
        obtain ⟨q, hq⟩ : ∃ q, q = b.toNat / 16 := ⟨_, rfl⟩
        obtain ⟨r, hr⟩ : ∃ r, r = b.toNat % 16 := ⟨_, rfl⟩
        have hq16 : q < 16 := by omega
        have hr16 : r < 16 := by omega
        rw [← hq, ← hr]
        have HQ := Lib.hid (And.intro hq hr)
        clear hq hr h256
        have w1 : IntKind.i64.wrap ((q : Int) + 1) = (q : Int) + 1 := IntWalk.i64_in _ (by omega)
        have w2 : IntKind.i64.wrap ((r : Int) + 1) = (r : Int) + 1 := IntWalk.i64_in _ (by omega)
        have p1 : (0 : Int) ≤ (q : Int) + 1 := by omega
        have p2 : (0 : Int) ≤ (r : Int) + 1 := by omega
        have p3 : (q : Int) + 1 ≤ 16 := by omega
        have p4 : (r : Int) + 1 ≤ 16 := by omega
        have p5 : ((q : Int) + 1).toNat = q + 1 := by omega
        have p6 : ((r : Int) + 1).toNat = r + 1 := by omega
        have p7 : (q : Int) ≤ (q : Int) + 1 := by omega
        have p8 : (r : Int) ≤ (r : Int) + 1 := by omega
        have hfl : (hexFold l k).length ≤ 2000000 := hexFold_le l k hk hl
        have g1 : ¬ 9223372036854775807 < (hexFold l k).length + (min (q + 1) 16 - q) := by omega
        have g2 : ¬ 9223372036854775807 < (hexFold l k).length + (min (q + 1) 16 - q) + (min (r + 1) 16 - r) := by omega
        go_upto_region 9 with fail
        go_quiet (fail)
        rw [show mk (hexFold l k) ++ H.extract q (q + 1) ++ H.extract r (r + 1) = mk (hexFold l (k + 1)) by
          rw [HH.out, hex_extract q hq16, hex_extract r hr16, hexFold_succ HB.out, ← HQ.out.1, ← HQ.out.2, mk_append, mk_append, List.append_assoc]; rfl]
        clear w1 w2 p1 p2 p3 p4 p5 p6 p7 p8 g1 g2
        go_wp2_with fail
        refine ⟨⟨k + 1, by omega, by simp, rfl, below_drewK hb _⟩, by simp [RowKit.intOf]; omega⟩
      · obtain rfl : k = l.length := by omega
        go_wp2_with fail
        go_ret
        exact ⟨by rw [HD.out]; rfl, hb⟩

end Go.Proofs.YtbpbkmhipbchbaaGreatDoor.sc
