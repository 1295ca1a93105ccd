/-
  PROVED HERE: the contracts of the reference's name and Hex. Conditions: names; a string of at most 1000000 bytes.
-/
import Derived.Test.YtbpbkmhipbchbaaGreatDoorScRef2
import Derived.Test.YtbpbkmhipbchbaaGreatDoorScDig
import Derived.BigQuiet
namespace Go.Proofs.YtbpbkmhipbchbaaGreatDoor.sc
open Go.RowKit Go.Shelf Go.Sort Go.Lib
set_option linter.unusedVariables false

theorem rName_any {w : World} {A : Option Addr} {c : Nat} {l : List Bs} (i : Int) (h : StrsAt w (.slice A l.length c) l) (h0 : 0 < l.length) (h1 : l.length ≤ 100) :
    Calls Tryz.prog 45 #[.slice A l.length c, .int .i64 i] w fun e w' => e = .returned (.string (mk (nameL l i))) ∧ Below w.heap.size w w' := by
  obtain ⟨x, hx⟩ : ∃ x, l[0]? = some x := ⟨_, List.getElem?_eq_getElem h0⟩
  obtain ⟨b, o, rfl, _, c0⟩ := h.cell hx
  rw [Nat.add_zero] at c0
  have hx0 : l.getD 0 [] = x := by rw [List.getD, hx]; rfl
  by_cases hi : i < 0
  · have N := Lib.hid (show nameL l i = x from (if_pos (Or.inl hi)).trans hx0)
    clear hx hx0
    go_enter Tryz.func45, Tryz.ntmps45
    go_wp2
    go_ret
    exact ⟨by rw [N.out]; rfl, Below.refl _ _⟩
  · by_cases hj : (l.length : Int) ≤ i
    · have N := Lib.hid (show nameL l i = x from (if_pos (Or.inr hj)).trans hx0)
      clear hx hx0
      go_enter Tryz.func45, Tryz.ntmps45
      go_wp2
      go_ret
      exact ⟨by rw [N.out]; rfl, Below.refl _ _⟩
    · obtain ⟨k, rfl⟩ : ∃ k : Nat, i = k := ⟨i.toNat, by omega⟩
      have hk : k < l.length := by omega
      obtain ⟨y, hy⟩ : ∃ y, l[k]? = some y := ⟨_, List.getElem?_eq_getElem hk⟩
      have N := Lib.hid (show nameL l k = y from (if_neg (by omega)).trans (by rw [Int.toNat_natCast, List.getD, hy]; rfl))
      obtain ⟨b', o', e', _, c1⟩ := h.cell hy
      cases e'
      clear hx hx0 hy c0
      go_enter Tryz.func45, Tryz.ntmps45
      go_wp2
      go_ret
      exact ⟨by rw [N.out]; rfl, Below.refl _ _⟩

def hexL : Bs := [48, 49, 50, 51, 52, 53, 54, 55, 56, 57, 97, 98, 99, 100, 101, 102]
theorem hex_extract (q : Nat) (h : q < 16) : (mk hexL).extract q (q + 1) = mk [hexd q] := by
  have : ∀ q : Fin 16, ((mk hexL).extract q.val (q.val + 1)).data.toList = [hexd q.val] := by decide
  have h2 := this ⟨q, h⟩
  rw [← h2]
def hexFold (l : Bs) (k : Nat) : Bs := (l.take k).flatMap hex2
theorem hexFold_succ {l : Bs} {k : Nat} {b : UInt8} (h : l[k]? = some b) : hexFold l (k + 1) = hexFold l k ++ [hexd (b.toNat / 16), hexd (b.toNat % 16)] := by
  unfold hexFold
  rw [List.take_add_one, h]
  simp [hex2]
theorem below_drewK {B : Nat} {w w' : World} (h : RowKit.Below B w w') (k : Nat) : RowKit.Below B w (w'.drewN k) := ⟨h.os, h.tape, h.output, h.size, h.block⟩
theorem hexFold_le (l : Bs) (k : Nat) (hk : k ≤ l.length) (hl : l.length ≤ 1000000) : (hexFold l k).length ≤ 2000000 := by
  unfold hexFold
  rw [flat_len, List.length_take]
  omega

set_option maxHeartbeats 1000000 in
set_option maxRecDepth 100000 in
theorem rHex_any {w : World} (l : Bs) (hl : l.length ≤ 1000000) : Calls Tryz.prog 46 #[.string (mk l)] w fun e w' => e = .returned (.string (mk (digits l))) ∧ Below w.heap.size w w' := by
  by_cases h0 : l = []
  · subst h0
    go_enter Tryz.func46, Tryz.ntmps46
    go_wp2_with fail
    go_ret
    exact ⟨rfl, Below.refl _ _⟩
  · have hlen : (mk l).size = l.length := mk_size l
    have hne : List.isEmpty l = false := by
      cases l
      · exact absurd rfl h0
      · rfl
    have HD := Lib.hid (show digits l = hexFold l l.length by unfold hexFold; rw [List.take_length]; exact if_neg h0)
    clear h0
    go_enter Tryz.func46, Tryz.ntmps46
    go_wp2_with fail
    obtain ⟨H, hH⟩ : ∃ H : ByteArray, H = ⟨#[48, 49, 50, 51, 52, 53, 54, 55, 56, 57, 97, 98, 99, 100, 101, 102]⟩ := ⟨_, rfl⟩
    rw [← hH]
    have hxs : H.size = 16 := by rw [hH]; rfl
    have HH := Lib.hid (show H = mk hexL from hH)
    clear hH
    go_loopw [4, 5] (fun s4 s5 wr => ∃ k : Nat, k ≤ l.length ∧ s5 = .int .i64 k ∧ s4 = .string (mk (hexFold l k)) ∧ Below w.heap.size w wr) (fun _ s5 _ => l.length - (RowKit.intOf s5).toNat)
    case atStart => exact ⟨0, by omega, rfl, rfl, Below.refl _ _⟩
    case round =>
      obtain ⟨k, hk, rfl, rfl, hb⟩ := hrel
      by_cases hlt : k < l.length
      · obtain ⟨b, hbk⟩ : ∃ b, l[k]? = some b := ⟨_, List.getElem?_eq_getElem hlt⟩
        have HB := Lib.hid hbk; clear hbk
        have h256 : b.toNat < 256 := b.toNat_lt
        go_upto_region 8 with fail
        go_quiet (fail)
        rw [mk_get' HB.out]
        have e1 : wrap64 (b.toNat : Int) = (b.toNat : Int) := by unfold wrap64; omega
        have e2 : wrap64 ((b.toNat : Int).tdiv 16) = ((b.toNat / 16 : Nat) : Int) := by
          rw [Int.tdiv_eq_ediv_of_nonneg (by omega)]; unfold wrap64; omega
        have e3 : (b.toNat : Int).tmod 16 = ((b.toNat % 16 : Nat) : Int) := by rw [Int.tmod_eq_emod_of_nonneg (by omega)]; omega
        rw [e1, e2, e3]
        clear e1 e2 e3
        obtain ⟨q, hq⟩ : ∃ q, q = b.toNat / 16 := ⟨_, rfl⟩
        obtain ⟨r, hr⟩ : ∃ r, r = b.toNat % 16 := ⟨_, rfl⟩
        have hq16 : q < 16 := by omega
        have hr16 : r < 16 := by omega
        rw [← hq, ← hr]
        have HQ := Lib.hid (And.intro hq hr)
        clear hq hr h256
        have w1 : IntKind.i64.wrap ((q : Int) + 1) = (q : Int) + 1 := IntWalk.i64_in _ (by omega)
        have w2 : IntKind.i64.wrap ((r : Int) + 1) = (r : Int) + 1 := IntWalk.i64_in _ (by omega)
        have p1 : (0 : Int) ≤ (q : Int) + 1 := by omega
        have p2 : (0 : Int) ≤ (r : Int) + 1 := by omega
        have p3 : (q : Int) + 1 ≤ 16 := by omega
        have p4 : (r : Int) + 1 ≤ 16 := by omega
        have p5 : ((q : Int) + 1).toNat = q + 1 := by omega
        have p6 : ((r : Int) + 1).toNat = r + 1 := by omega
        have p7 : (q : Int) ≤ (q : Int) + 1 := by omega
        have p8 : (r : Int) ≤ (r : Int) + 1 := by omega
        have hfl : (hexFold l k).length ≤ 2000000 := hexFold_le l k hk hl
        have g1 : ¬ 9223372036854775807 < (hexFold l k).length + (min (q + 1) 16 - q) := by omega
        have g2 : ¬ 9223372036854775807 < (hexFold l k).length + (min (q + 1) 16 - q) + (min (r + 1) 16 - r) := by omega
        go_upto_region 9 with fail
        go_quiet (fail)
        rw [show mk (hexFold l k) ++ H.extract q (q + 1) ++ H.extract r (r + 1) = mk (hexFold l (k + 1)) by
          rw [HH.out, hex_extract q hq16, hex_extract r hr16, hexFold_succ HB.out, ← HQ.out.1, ← HQ.out.2, mk_append, mk_append, List.append_assoc]; rfl]
        clear w1 w2 p1 p2 p3 p4 p5 p6 p7 p8 g1 g2
        go_wp2_with fail
        refine ⟨⟨k + 1, by omega, by simp, rfl, below_drewK hb _⟩, by simp [RowKit.intOf]; omega⟩
      · obtain rfl : k = l.length := by omega
        go_wp2_with fail
        go_ret
        exact ⟨by rw [HD.out]; rfl, hb⟩

end Go.Proofs.YtbpbkmhipbchbaaGreatDoor.sc
