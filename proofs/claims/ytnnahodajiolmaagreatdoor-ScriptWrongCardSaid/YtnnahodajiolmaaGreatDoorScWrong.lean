/-
  PROVED HERE: the law ScriptWrong answers true; script's Run hands on Parse's error. Conditions: the library's tables lie (Env).
-/
import Derived.Test.YtnnahodajiolmaaGreatDoorScWrP
import Derived.Test.YtnnahodajiolmaaGreatDoorScPar
import Derived.Test.YtnnahodajiolmaaGreatDoorScKnown
namespace Go.Proofs.YtnnahodajiolmaaGreatDoor.sc
open Go Go.RowKit
set_option linter.unusedVariables false

/-- A literal row of strings, made at world w, in world wr. -/
def Fst (w wr : World) (l : List Bs) : Prop := Below w.heap.size w wr ∧ Env wr ∧ ∀ i x, l[i]? = some x → wr.cell? ⟨w.heap.size, i, none⟩ = some (.string (mk x))
theorem Fst.next {w wr w' : World} {l : List Bs} (h : Fst w wr l) (hb : Below wr.heap.size wr w') : Fst w w' l :=
  ⟨h.1.trans (hb.mono h.1.size), h.2.1.next hb, fun i x hi => by
    have hc := h.2.2 i x hi
    rw [hb.cell (p := ⟨w.heap.size, i, none⟩) (lt_of_cell hc)]; exact hc⟩
theorem Fst.start {w : World} (l : List Bs) (hl : l.length ≤ 1000) (E : Env w) : Fst w (w.alloc (.cells (strs l).toArray 9)) l := by
  have hb : Below w.heap.size w (w.alloc (.cells (strs l).toArray 9)) := (Below.refl _ _).alloc (Nat.le_refl _) _
  refine ⟨hb, E.next hb, fun i x hi => ?_⟩
  have ho := own_lit w l (base := 0) (Nat.zero_le _) (by omega)
  have hlt := (List.getElem?_eq_some_iff.1 hi).1
  simp [strs, hi]
theorem parse_bad {w : World} (t : Bs) (ht : t.length ≤ 100) (E : Env w) {n e : Int} (h : parseP t = (Sc.zero, n, e)) :
    Calls Tryz.prog 4 #[.string (mk t)] w fun er w' => ∃ A c, er = .returned (.tuple #[.agg #[.int .i64 0, .int .i64 0, .slice A 0 c], .int .i64 n, .int .i64 e]) ∧ Below w.heap.size w w' := by
  refine (parse_any t (by omega) (fun x hx => by have := linesL_mem hx; omega) E).mono ?_
  rintro er w' ⟨hb, v, ha, he⟩
  rw [h] at ha he
  obtain ⟨A, c, rfl⟩ := ha.len
  exact ⟨A, c, he, hb⟩

set_option maxHeartbeats 4000000 in
set_option maxRecDepth 100000 in
theorem run_bad {w : World} (t : Bs) (ht : t.length ≤ 100) (E : Env w) {n e : Int} (h : parseP t = (Sc.zero, n, e)) (he : e ≠ 0) :
    Calls Tryz.prog 5 #[.string (mk t)] w fun er w' => er = .returned (.tuple #[.slice none 0 0, .int .i64 n, .int .i64 e]) ∧ Below w.heap.size w w' := by
  have ie : (e == 0) = false := by simpa using he
  have ie2 : (e != 0) = true := by simpa using he
  have HE := Lib.hid (And.intro ht (And.intro E h)); clear ht E h he
  go_enter Tryz.func5, Tryz.ntmps5
  go_wp2_with fail
  refine (parse_bad t HE.out.1 HE.out.2.1 HE.out.2.2).mono ?_
  rintro er w2 ⟨A, c, rfl, hb2⟩
  have H2 := Lib.hid hb2; clear hb2
  go_wp2_with fail
  refine bodyPost_ret (v := .tuple #[.slice none 0 0, .int .i64 n, .int .i64 e]) (by simp [results, Tryz.results5, go_sem]) rfl ?_
  exact ⟨rfl, H2.out.alloc H2.out.size _⟩

set_option maxHeartbeats 4000000 in
set_option maxRecDepth 100000 in
theorem wrong_any {w : World} (E : Env w) : Calls Tryz.prog 3 #[] w fun e w' => e = .returned (.bool true) ∧ Below w.heap.size w w' := by
  have HE := Lib.hid E; clear E
  go_enter Tryz.func3, Tryz.ntmps3
  go_upto_region 2 with fail
  go_loopw [22] (fun s22 wr => ∃ k : Nat, s22 = .int .i64 k ∧ k ≤ 6 ∧ Fst w wr wrFirst) (fun s22 _ => 6 - (RowKit.intOf s22).toNat)
  case atStart => exact ⟨0, rfl, Nat.zero_le _, Fst.start wrFirst (by decide) HE.out⟩
  case round =>
    obtain ⟨k, rfl, hk, hF⟩ := hrel
    by_cases hlt : k < 6
    · obtain ⟨x, hx⟩ : ∃ x, wrFirst[k]? = some x := ⟨_, List.getElem?_eq_getElem (show k < wrFirst.length from hlt)⟩
      have cx := hF.2.2 k x hx
      have hxm := List.mem_of_getElem? hx
      have HF := Lib.hid (And.intro hF (And.intro (wr_first x hxm) (wr_few1 x hxm)))
      have hkI : (k : Int) < 6 := by omega
      have hw5 : IntKind.i64.wrap ((k : Int) + 1) = (k : Int) + 1 := IntWalk.i64_in _ (by omega)
      clear hF hx hxm
      go_wp2_with fail
      refine (parse_bad x HF.out.2.2 HF.out.1.2.1 HF.out.2.1).mono ?_
      rintro e w2 ⟨A, c, rfl, hb2⟩
      have H2 := Lib.hid (HF.out.1.next hb2); clear hb2 cx
      go_wp2_with fail
      go_roundw
      case rel => exact ⟨k + 1, by first | rfl | go_num, by omega, H2.out.next ((Below.refl _ _).alloc (Nat.le_refl _) _)⟩
      case measure => simp [RowKit.intOf]; omega
    · obtain rfl : k = 6 := by omega
      obtain ⟨wo, rfl⟩ : ∃ wo : World, wo = wr := ⟨_, rfl⟩
      have HF := Lib.hid (And.intro hF.1 hF.2.1); clear hF hk hlt
      go_upto_region 9 with fail
      go_loopw [41] (fun s41 wr => ∃ k : Nat, s41 = .int .i64 k ∧ k ≤ 10 ∧ Fst wo wr wrNext) (fun s41 _ => 10 - (RowKit.intOf s41).toNat)
      case atStart => exact ⟨0, rfl, Nat.zero_le _, Fst.start wrNext (by decide) HF.out.2⟩
      case round =>
        obtain ⟨k, rfl, hk, hG⟩ := hrel
        by_cases hlt : k < 10
        · obtain ⟨x, hx⟩ : ∃ x, wrNext[k]? = some x := ⟨_, List.getElem?_eq_getElem (show k < wrNext.length from hlt)⟩
          have cx := hG.2.2 k x hx
          have hxm := List.mem_of_getElem? hx
          have HG := Lib.hid (And.intro hG (And.intro (wr_next x hxm) (wr_few2 x hxm)))
          have hkI : (k : Int) < 10 := by omega
          have hw5 : IntKind.i64.wrap ((k : Int) + 1) = (k : Int) + 1 := IntWalk.i64_in _ (by omega)
          have hc1 : ¬ 9223372036854775807 < 10 + x.length := by have := HG.out.2.2.1; omega
          clear hG hx hxm
          go_wp2_with fail
          rw [show ({ data := #[108, 101, 118, 101, 101, 32, 49, 32, 49, 10] } : ByteArray) ++ mk x = mk (wrHead ++ x) by rw [show ({ data := #[108, 101, 118, 101, 101, 32, 49, 32, 49, 10] } : ByteArray) = mk wrHead from rfl, mk_append]]
          refine (parse_bad (wrHead ++ x) HG.out.2.2.2 HG.out.1.2.1 HG.out.2.1).mono ?_
          rintro e w2 ⟨A, c, rfl, hb2⟩
          have H2 := Lib.hid (HG.out.1.next hb2); clear hb2 cx
          go_wp2_with fail
          go_roundw
          case rel =>
            (repeat apply Exists.intro)
            exact ⟨⟨k + 1, by first | rfl | go_num, by omega, H2.out.next ((Below.refl _ _).alloc (Nat.le_refl _) _)⟩, rfl⟩
          case measure => simp [RowKit.intOf]; omega
        · obtain rfl : k = 10 := by omega
          have H0 := Lib.hid (And.intro (HF.out.1.trans (hG.1.mono HF.out.1.size)) hG.2.1); clear hG hk hlt
          go_wp2_with fail
          refine (parse_bad wrLong wr_few3.1 H0.out.2 wr_long).mono ?_
          rintro e w2 ⟨A, c, rfl, hb2⟩
          have hbX := hb2.alloc hb2.size (.cells #[.int .i64 0, .int .i64 0, .slice A 0 c] 25)
          have H2 := Lib.hid (And.intro (H0.out.1.trans (hbX.mono H0.out.1.size)) (H0.out.2.next hbX)); clear hb2 hbX
          go_wp2_with fail
          refine (parse_bad wrPick wr_few3.2.1 H2.out.2 wr_pick).mono ?_
          rintro e w3 ⟨A3, c3, rfl, hb3⟩
          have hbY := hb3.alloc hb3.size (.cells #[.int .i64 0, .int .i64 0, .slice A3 0 c3] 25)
          have H3 := Lib.hid (And.intro (H2.out.1.trans (hbY.mono H2.out.1.size)) (H2.out.2.next hbY)); clear hb3 hbY
          go_wp2_with fail
          refine (run_bad wrBoot wr_few3.2.2 H3.out.2 wr_boot (by decide)).mono ?_
          rintro e w4 ⟨rfl, hb4⟩
          have H4 := Lib.hid (And.intro (H3.out.1.trans (hb4.mono H3.out.1.size)) (H3.out.2.next hb4)); clear hb4
          go_wp2_with fail
          refine (known_any H4.out.2).mono ?_
          rintro e w5 ⟨rfl, hb5⟩
          have H5 := Lib.hid (H4.out.1.trans (hb5.mono H4.out.1.size)); clear hb5
          go_wp2_with fail
          go_ret
          exact ⟨rfl, H5.out⟩
end Go.Proofs.YtnnahodajiolmaaGreatDoor.sc
