/-
  PROVED HERE: the contracts of the reference's Num (a number's digits), num, fits. Conditions: a number of its kind.
-/
import Derived.Test.YtbpbkmhipbchbaaGreatDoorScMem
import Derived.Test.YtbpbkmhipbchbaaGreatDoorScLaw3
import Derived.Deep.RegionHeld3
import Derived.Deep.DeepCutAuto
namespace Go.Proofs.YtbpbkmhipbchbaaGreatDoor.sc
open Go.RowKit
set_option linter.unusedVariables false

theorem add_plain' (b o j : Nat) : (⟨b, o, none⟩ : Addr).add j = ⟨b, o + j, none⟩ := by
  unfold Addr.add; by_cases h : j = 0 <;> simp [h]
theorem conv_blk {w : World} {b : Nat} {x : UInt8} {n : Int} (h : Blk w b 5 #[.int .u8 n]) (hn : n = (x.toNat : Int)) : (convert 92 9 (.slice (some ⟨b, 0, none⟩) 1 1)).run Tryz.prog w = .ok (.string ⟨#[x]⟩) w := by
  subst hn
  refine run_convert_bytes_back (P := Tryz.prog) _ 92 9 5 ⟨b, 0, none⟩ 1 [x] Tryz.underlying92 Tryz.underlying5 Tryz.underlying9 (fun j hj => ?_)
  have : j = 0 := by simpa using hj
  subst this
  rw [add_plain', h.cell]
  rfl
theorem conv_one (w : World) (x : UInt8) (n : Int) (hn : n = (x.toNat : Int)) : (convert 92 9 (.slice (some ⟨w.heap.size, 0, none⟩) 1 1)).run Tryz.prog (w.alloc (.cells #[.int .u8 n] 5)) = .ok (.string ⟨#[x]⟩) (w.alloc (.cells #[.int .u8 n] 5)) :=
  conv_blk (Blk.new w _ _) hn
theorem conv_step1 {w w5 : World} {n : Int} (hb : Below (w.drew.alloc (.cells #[.int .u8 n] 5)).heap.size (w.drew.alloc (.cells #[.int .u8 n] 5)) w5) : Blk w5 w.heap.size 5 #[.int .u8 n] ∧ Below w.heap.size w w5 :=
  ⟨(Blk.new w.drew _ _).below hb (by simp), ((Below.refl _ _).drew.alloc (Nat.le_refl _) _).trans (hb.mono (by simp))⟩
theorem conv_step2 {w w5 : World} {n : Int} (hb : Below ((w.alloc (.cells #[.int .u8 n] 5)).drew).heap.size ((w.alloc (.cells #[.int .u8 n] 5)).drew) w5) : Blk w5 w.heap.size 5 #[.int .u8 n] ∧ Below w.heap.size w w5 :=
  ⟨(Blk.new w _ _).drew.below hb (by simp), ((Below.refl _ _).alloc (Nat.le_refl _) _).drew.trans (hb.mono (by simp))⟩

set_option maxRecDepth 100000 in
theorem rNum08_any : ∀ (u : Nat) (w : World), u < 18446744073709551616 →
    Calls Tryz.prog 47 #[.int .u64 u] w fun e w' => e = .returned (.string (mk (num u))) ∧ Below w.heap.size w w' := by
  intro u
  induction u using Nat.strongRecOn with
  | _ u ih =>
    intro w hu
    by_cases h10 : u < 10
    · obtain ⟨x, hx⟩ : ∃ x, x = UInt8.ofNat (48 + u) := ⟨_, rfl⟩
      have hxn : (48 + u : Int) = (x.toNat : Int) := by rw [hx, UInt8.toNat_ofNat']; omega
      have hN := Lib.hid (show num u = [x] by rw [num_nat', Lib.decDigits_one h10, hx])
      have hlt : (u : Int) < 10 := by omega
      have hc := conv_one w x (48 + u) hxn
      clear hx hxn
      have hw1 : IntKind.u64.wrap (48 + (u : Int)) = 48 + u := IntWalk.u64_in _ (by omega)
      have hw2 : IntKind.u8.wrap (48 + (u : Int)) = 48 + u := IntWalk.u8_in _ (by omega)
      have hq : Below w.heap.size w (w.alloc (.cells #[.int .u8 (48 + u)] 5)) := (Below.refl _ _).alloc (Nat.le_refl _) _
      have HQ := Lib.hid hq; clear hq
      go_enter Tryz.func47, Tryz.ntmps47
      go_wp2_with fail
      go_ret
      exact ⟨by rw [hN.out]; rfl, HQ.out⟩
    · obtain ⟨q, hq⟩ : ∃ q, q = u / 10 := ⟨_, rfl⟩
      obtain ⟨r, hr⟩ : ∃ r, r = u % 10 := ⟨_, rfl⟩
      obtain ⟨x, hx⟩ : ∃ x, x = UInt8.ofNat (48 + r) := ⟨_, rfl⟩
      have hxn : (48 + r : Int) = (x.toNat : Int) := by rw [hx, UInt8.toNat_ofNat']; omega
      have hN := Lib.hid (show num u = num (q : Int) ++ [x] by rw [num_nat', num_nat', Lib.decDigits, dif_neg h10, hx, hr, hq])
      have hL : (num (q : Int)).length ≤ 21 := num_le _ (by omega) (by omega)
      have hlt : ¬ (u : Int) < 10 := by omega
      have hc : ∀ W : World, _ := fun W => conv_one W x (48 + r) hxn
      have hw0 : IntKind.u64.wrap ((u : Int) / 10) = (q : Int) := by
        rw [IntWalk.u64_in _ (by omega)]; omega
      have hwr : Int.tmod (u : Int) 10 = (r : Int) := by
        rw [Int.tmod_eq_emod_of_nonneg (by omega)]; omega
      have hw1 : IntKind.u64.wrap (48 + (r : Int)) = 48 + (r : Int) := IntWalk.u64_in _ (by omega)
      have hw2 : IntKind.u8.wrap (48 + (r : Int)) = 48 + (r : Int) := IntWalk.u8_in _ (by omega)
      have hcat : ¬ 9223372036854775807 < (num (q : Int)).length + 1 := by omega
      have IH := Lib.hid (fun w => ih q (by omega) w (by omega)); clear ih
      have HXN := Lib.hid hxn
      have hcd : (convert 92 9 (.slice (some ⟨w.heap.size, 0, none⟩) 1 1)).run Tryz.prog ((w.alloc (.cells #[.int .u8 (48 + r)] 5)).drew) = _ := conv_blk (Blk.new w 5 #[.int .u8 (48 + r)]).drew hxn
      have hcd2 : (convert 92 9 (.slice (some ⟨w.heap.size, 0, none⟩) 1 1)).run Tryz.prog (w.drew.alloc (.cells #[.int .u8 (48 + r)] 5)) = _ := conv_blk (Blk.new w.drew 5 #[.int .u8 (48 + r)]) hxn
      clear h10 hx hxn hq hr hu hL
      go_enter Tryz.func47, Tryz.ntmps47
      go_upto_region 3 with fail
      go_region_with (first
        | (go_at_call 47; refine (IH.out _).mono ?_; rintro e w5 ⟨rfl, hb5⟩
           first
           | (with_reducible have K5 := conv_step1 hb5; have hc5 := conv_blk K5.1 HXN.out)
           | (with_reducible have K5 := conv_step2 hb5; have hc5 := conv_blk K5.1 HXN.out)
           | skip))
      all_goals
        go_wp2_with fail
        go_ret
        refine ⟨by rw [hN.out, ← mk_append]; rfl, ?_⟩
        first
        | exact K5.2
        | exact (((Below.refl w.heap.size w).drew).trans hb5).alloc hb5.size _
        | exact ((Below.refl w.heap.size w).drew).trans hb5

end Go.Proofs.YtbpbkmhipbchbaaGreatDoor.sc
