/-
  PROVED HERE: a number's digits (Num, Value): a string of at most 20 bytes. Conditions: the number is a word.
-/
import Derived.Test.YtdbbbaallalhoaaGreatArA
import Derived.Laws.IdiomStrings
import Derived.Deep.RegionHeld3
import Derived.Deep.DeepCutAuto
namespace Go.Proofs.YtdbbbaallalhoaaGreat.ar
open Go.RowKit Go.Proofs.YtdbbbaallalhoaaGreat.pm
set_option linter.unusedVariables false

abbrev mk (l : List UInt8) : ByteArray := ⟨l.toArray⟩
theorem mk_append (a b : List UInt8) : mk a ++ mk b = mk (a ++ b) := by
  apply ByteArray.ext; simp [ByteArray.data_append]
theorem mk_size (l : List UInt8) : (mk l).size = l.length := by simp [ByteArray.size]
theorem conv_blk {w : World} {b : Nat} {x : UInt8} {n : Int} (h : w.heap[b]? = some (.cells #[.int .u8 n] 5 (0, 0))) (hn : n = (x.toNat : Int)) : (convert 33 9 (.slice (some ⟨b, 0, none⟩) 1 1)).run Tryz.prog w = .ok (.string ⟨#[x]⟩) w := by
  subst hn
  refine run_convert_bytes_back (P := Tryz.prog) _ 33 9 5 ⟨b, 0, none⟩ 1 [x] Tryz.underlying33 Tryz.underlying5 Tryz.underlying9 (fun j hj => ?_)
  have : j = 0 := by simpa using hj
  subst this
  rw [show (⟨b, 0, none⟩ : Addr).add 0 = ⟨b, 0, none⟩ from by simp [addr_add]]
  exact cell_of h rfl

theorem conv_step1 {w w5 : World} {n : Int} (hb : Keeps [] (w.drew.alloc (.cells #[.int .u8 n] 5)) w5) : w5.heap[w.heap.size]? = some (.cells #[.int .u8 n] 5 (0, 0)) ∧ Keeps [] w w5 :=
  have h := alloc_new (w := w.drew) (o := .cells #[.int .u8 n] 5)
  ⟨(hb.block _ (lt_of h) (by simp)).trans h, ((Keeps.drew w).trans (Keeps.alloc _ _) (by simp)).trans hb (by simp)⟩
theorem conv_step2 {w w5 : World} {n : Int} (hb : Keeps [] ((w.alloc (.cells #[.int .u8 n] 5)).drew) w5) : w5.heap[w.heap.size]? = some (.cells #[.int .u8 n] 5 (0, 0)) ∧ Keeps [] w w5 :=
  have h := alloc_new (w := w) (o := .cells #[.int .u8 n] 5)
  ⟨(hb.block _ (lt_of (w := (w.alloc (.cells #[.int .u8 n] 5)).drew) h) (by simp)).trans h, ((Keeps.alloc w _).trans (Keeps.drew _) (by simp)).trans hb (by simp)⟩

theorem conv_one (w : World) (x : UInt8) (n : Int) (hn : n = (x.toNat : Int)) : (convert 33 9 (.slice (some ⟨w.heap.size, 0, none⟩) 1 1)).run Tryz.prog (w.alloc (.cells #[.int .u8 n] 5)) = .ok (.string ⟨#[x]⟩) (w.alloc (.cells #[.int .u8 n] 5)) :=
  conv_blk alloc_new hn
theorem len_ok {l : List UInt8} {k : Nat} (hk : k ≤ 19) (hl : l.length ≤ k + 1) : ¬ 9223372036854775807 < l.length + 1 := by omega

set_option maxRecDepth 100000 in
theorem num_any : ∀ (k : Nat) (u : Nat) (w : World), k ≤ 19 → u < 18446744073709551616 → u < 10 ^ (k + 1) →
    Calls Tryz.prog 70 #[.int .u64 u] w fun e w' => ∃ l : List UInt8, e = .returned (.string (mk l)) ∧ l.length ≤ k + 1 ∧ Keeps [] w w' := by
  intro k
  induction k with
  | zero =>
    intro u w hk19 hu h10
    obtain ⟨x, hx⟩ : ∃ x, x = UInt8.ofNat (48 + u) := ⟨_, rfl⟩
    have hxn : (48 + u : Int) = (x.toNat : Int) := by rw [hx, UInt8.toNat_ofNat']; omega
    have hlt : (u : Int) < 10 := by omega
    have hc := conv_blk (x := x) (n := 48 + u) (alloc_new (w := w) (o := .cells #[.int .u8 (48 + u)] 5)) hxn
    clear hx hxn
    have hw1 : IntKind.u64.wrap (48 + (u : Int)) = 48 + u := IntWalk.u64_in _ (by omega)
    have hw2 : IntKind.u8.wrap (48 + (u : Int)) = 48 + u := IntWalk.u8_in _ (by omega)
    go_enter Tryz.func70, Tryz.ntmps70
    go_wp2_with fail
    go_ret
    exact ⟨[x], rfl, by simp, Keeps.alloc w _⟩
  | succ k ih =>
    intro u w hk19 hu hk
    by_cases h10 : u < 10
    · exact (ih u w (by omega) hu (Nat.lt_of_lt_of_le h10 (Nat.le_self_pow (by omega) 10))).mono fun e w' ⟨l, h1, h2, h3⟩ => ⟨l, h1, by omega, h3⟩
    · obtain ⟨q, hq⟩ : ∃ q, q = u / 10 := ⟨_, rfl⟩
      obtain ⟨r, hr⟩ : ∃ r, r = u % 10 := ⟨_, rfl⟩
      obtain ⟨x, hx⟩ : ∃ x, x = UInt8.ofNat (48 + r) := ⟨_, rfl⟩
      have hxn : (48 + r : Int) = (x.toNat : Int) := by rw [hx, UInt8.toNat_ofNat']; omega
      have hlt : ¬ (u : Int) < 10 := by omega
      have hw0 : IntKind.u64.wrap ((u : Int) / 10) = (q : Int) := by rw [IntWalk.u64_in _ (by omega)]; omega
      have hwr : Int.tmod (u : Int) 10 = (r : Int) := by rw [Int.tmod_eq_emod_of_nonneg (by omega)]; omega
      have hw1 : IntKind.u64.wrap (48 + (r : Int)) = 48 + (r : Int) := IntWalk.u64_in _ (by omega)
      have hw2 : IntKind.u8.wrap (48 + (r : Int)) = 48 + (r : Int) := IntWalk.u8_in _ (by omega)
      have hqk : q < 10 ^ (k + 1) := by rw [hq, Nat.div_lt_iff_lt_mul (by omega)]; rw [Nat.pow_succ] at hk; exact hk
      have hk1 : k + 1 ≤ k + 1 := Nat.le_refl _
      have IH := Lib.hid (fun w => ih q w (by omega) (by omega) hqk); clear ih
      have hcn : ∀ W : World, _ := fun W => conv_one W x (48 + r) hxn
      have HXN := Lib.hid hxn
      have hcd : (convert 33 9 (.slice (some ⟨w.heap.size, 0, none⟩) 1 1)).run Tryz.prog ((w.alloc (.cells #[.int .u8 (48 + r)] 5)).drew) = _ := conv_blk (w := (w.alloc (.cells #[.int .u8 (48 + r)] 5)).drew) (alloc_new (w := w)) hxn
      have hcd2 : (convert 33 9 (.slice (some ⟨w.heap.size, 0, none⟩) 1 1)).run Tryz.prog (w.drew.alloc (.cells #[.int .u8 (48 + r)] 5)) = _ := conv_blk (alloc_new (w := w.drew)) hxn
      clear h10 hx hxn hq hr hu hqk hk
      go_enter Tryz.func70, Tryz.ntmps70
      go_upto_region 3 with fail
      go_region_with (first
        | (go_at_call 70; refine (IH.out _).mono ?_; rintro e w5 ⟨l, rfl, hl, hb5⟩; have hcat := len_ok (by omega) hl
           first
           | (with_reducible have K5 := conv_step1 hb5; have hc5 := conv_blk K5.1 HXN.out)
           | (with_reducible have K5 := conv_step2 hb5; have hc5 := conv_blk K5.1 HXN.out)
           | skip)
        | fail)
      all_goals
        go_wp2_with fail
        go_ret
        refine ⟨l ++ [x], by rw [← mk_append]; rfl, by simp; omega, ?_⟩
        first
        | exact K5.2
        | exact ((Keeps.drew w).trans hb5 (by simp)).trans (Keeps.alloc _ _) (by simp)
        | exact (Keeps.drew w).trans hb5 (by simp)

theorem digits_any (x : Int) (w : World) (hx : U64 x) :
    Calls Tryz.prog 35 #[.int .u64 x] w fun e w' => ∃ l : List UInt8, e = .returned (.string (mk l)) ∧ l.length ≤ 20 ∧ Keeps [] w w' := by
  obtain ⟨u, rfl⟩ : ∃ u : Nat, x = u := ⟨x.toNat, by have := hx.1; omega⟩
  have HN := Lib.hid (num_any 19 u w (by omega) (by have := hx.2; omega) (by have := hx.2; omega))
  go_enter Tryz.func35, Tryz.ntmps35
  go_wp2_with fail
  refine HN.out.mono ?_
  rintro e w1 ⟨l, rfl, hl, hk⟩
  go_wp2_with fail
  go_ret
  exact ⟨l, rfl, hl, hk⟩
end Go.Proofs.YtdbbbaallalhoaaGreat.ar
