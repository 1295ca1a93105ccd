/-
  ScChk: PROVED HERE: the contracts of script's check, any64, whole: a number's text is read, or it is left by ErrBytes. Conditions: the library's tables lie (Env); short strings.
  ScVal: PROVED HERE: the contract of script's value: the bytes of hexadecimal digits, or it is left by ErrBytes. Conditions: a short string.
  ScCut: PROVED HERE: strings.Split at a blank and slices.Index at a slice of strings, in this text's own words. Conditions: a short string.
-/
import Derived.Test.YtnnahodajiolmaaGreatDoorScSmall
import Derived.Test.YtnnahodajiolmaaGreatDoorScPlain
import Derived.Deep.QuietTactic
import Derived.BigQuiet
import Derived.Lib.SplitLaws
namespace Go.Proofs.YtnnahodajiolmaaGreatDoor.sc
open Go.RowKit
set_option linter.unusedVariables false

/-- What is left by: an error's number. -/
abbrev leftBy (e : Int) : Ending := .panicked [{ v := .iface 26 (.int .i64 e), recovered := false }]

theorem check_yes (e : Int) (w : World) : Calls Tryz.prog 22 #[.bool true, .int .i64 e] w fun x w' => x = .returned (.tuple #[]) ∧ w = w' := by
  go_enter Tryz.func22, Tryz.ntmps22
  go_wp2
  go_end0
  exact ⟨rfl, rfl⟩
theorem check_no (e : Int) (w : World) : Calls Tryz.prog 22 #[.bool false, .int .i64 e] w fun x w' => x = leftBy e ∧ w = w' := by
  go_enter Tryz.func22, Tryz.ntmps22
  go_wp2
  exact ⟨rfl, rfl, rfl⟩

theorem any64_cases (l : Bs) : (∃ u, Go.Lib.parseUintB 64 l = .ok u ∧ u < 18446744073709551616 ∧ (Go.Lib.decDigits u = l ∧ any64 l = some u ∨ num u ≠ l ∧ any64 l = none)) ∨ (Go.Lib.parseUintB 64 l = Go.Lib.NumEnd.syntax ∧ any64 l = none) ∨ (Go.Lib.parseUintB 64 l = .range ∧ any64 l = none) := by
  cases h : Go.Lib.parseUintB 64 l with
  | ok u =>
    refine .inl ⟨u, rfl, ?_, ?_⟩
    · have := Go.Lib.parseUintB_le h; omega
    · by_cases e : Go.Lib.decDigits u = l
      · exact .inl ⟨e, by unfold any64; rw [h]; simp [e]⟩
      · exact .inr ⟨by rw [num_nat]; exact e, by unfold any64; rw [h]; simp [e]⟩
  | range => exact .inr (.inr ⟨rfl, by unfold any64; rw [h]⟩)
  | _ => exact .inr (.inl ⟨rfl, by unfold any64; rw [h]⟩)

/-- What any64 comes to. -/
def Any64Post (w : World) (l : Bs) (e : Ending) (w' : World) : Prop :=
  Below w.heap.size w w' ∧ match any64 l with
    | some u => e = .returned (.int .u64 u)
    | none => e = leftBy 11

set_option maxHeartbeats 1600000 in
set_option maxRecDepth 100000 in
theorem any64_any {w : World} (l : Bs) (hl : l.length ≤ 1000000) (E : Env w) : Calls Tryz.prog 47 #[.string (mk l)] w (Any64Post w l) := by
  rcases any64_cases l with ⟨u, h, hu, ⟨h1, h2⟩ | ⟨h1, h2⟩⟩ | ⟨h, h2⟩ | ⟨h, h2⟩
  · subst h1
    have H := Lib.hid (Tryz.strconv_ParseUint_10_at64_ok (mk (Lib.decDigits u)) (by rw [mk_size]; omega) u (by rw [of_mk]; exact h) w)
    have H2 := Lib.hid h2; clear h2
    have HU := Lib.hid hu; clear h hu
    have HN := Lib.hid (num_nat u)
    go_enter Tryz.func47, Tryz.ntmps47
    go_wp2_with fail
    refine H.out.mono ?_; rintro e w1 ⟨rfl, hw1⟩
    have hb1 : Below w.heap.size w w1 := by
      rcases hw1 with rfl | rfl
      · exact Below.refl _ _
      · exact below_bytesWorld _ _ _
    clear hw1
    have H1 := Lib.hid hb1; clear hb1
    go_wp2_with fail
    refine (numU64_any u HU.out (E.next H1.out)).mono ?_; rintro e w2 ⟨rfl, hb2⟩
    rw [HN.out]
    go_wp2_with fail
    refine (check_yes _ _).mono ?_; rintro e w3 ⟨rfl, rfl⟩
    go_wp2_with fail
    go_ret
    refine ⟨H1.out.trans (hb2.mono H1.out.size), ?_⟩
    rw [H2.out]; rfl
  · have H := Lib.hid (Tryz.strconv_ParseUint_10_at64_ok (mk l) (by rw [mk_size]; omega) u (by rw [of_mk]; exact h) w)
    have H2 := Lib.hid h2; clear h2
    have HU := Lib.hid hu; clear h hu
    have hne : (num (u : Int) == l) = false := by simpa using h1
    clear h1
    go_enter Tryz.func47, Tryz.ntmps47
    go_wp2_with fail
    refine H.out.mono ?_; rintro e w1 ⟨rfl, hw1⟩
    have hb1 : Below w.heap.size w w1 := by
      rcases hw1 with rfl | rfl
      · exact Below.refl _ _
      · exact below_bytesWorld _ _ _
    clear hw1
    have H1 := Lib.hid hb1; clear hb1
    go_wp2_with fail
    refine (numU64_any u HU.out (E.next H1.out)).mono ?_; rintro e w2 ⟨rfl, hb2⟩
    go_wp2_with fail
    refine (check_no _ _).mono ?_; rintro e w3 ⟨rfl, rfl⟩
    refine ⟨rfl, H1.out.trans (hb2.mono H1.out.size), ?_⟩
    rw [H2.out]
  · obtain ⟨_, _, _, ⟨tp, p, hv⟩, _⟩ := E
    have H := Lib.hid (Tryz.strconv_ParseUint_10_at64_syntax (mk l) (by rw [mk_size]; omega) (by rw [of_mk]; exact h) _ w hv (.inr ⟨_, _, rfl⟩))
    have H2 := Lib.hid h2; clear h2 h hv
    go_enter Tryz.func47, Tryz.ntmps47
    go_wp2_with fail
    refine H.out.mono ?_; rintro e w1 ⟨N, rfl, _, _, hb1⟩
    go_wp2_with fail
    refine (check_no _ _).mono ?_; rintro e w3 ⟨rfl, rfl⟩
    refine ⟨rfl, hb1, ?_⟩
    rw [H2.out]
  · obtain ⟨_, _, _, _, ⟨tp, p, hv⟩, _⟩ := E
    have H := Lib.hid (Tryz.strconv_ParseUint_10_at64_range (mk l) (by rw [mk_size]; omega) (by rw [of_mk]; exact h) _ w hv (.inr ⟨_, _, rfl⟩))
    have H2 := Lib.hid h2; clear h2 h hv
    go_enter Tryz.func47, Tryz.ntmps47
    go_wp2_with fail
    refine H.out.mono ?_; rintro e w1 ⟨N, rfl, _, _, hb1⟩
    go_wp2_with fail
    refine (check_no _ _).mono ?_; rintro e w3 ⟨rfl, rfl⟩
    refine ⟨rfl, hb1, ?_⟩
    rw [H2.out]

/-- What whole comes to. -/
def WholePost (w : World) (l : Bs) (lo hi : Int) (e : Ending) (w' : World) : Prop :=
  Below w.heap.size w w' ∧ match whole l lo hi with
    | some n => e = .returned (.int .i64 n)
    | none => e = leftBy 11

set_option maxHeartbeats 1600000 in
set_option maxRecDepth 100000 in
theorem whole_any {w : World} (l : Bs) (hl : l.length ≤ 1000000) (lo hi : Int) (h0 : 0 ≤ lo) (h1 : lo ≤ 100000) (h2 : 0 ≤ hi) (h3 : hi ≤ 1099511627776) (E : Env w) :
    Calls Tryz.prog 23 #[.string (mk l), .int .i64 lo, .int .i64 hi] w (WholePost w l lo hi) := by
  have HA := Lib.hid (any64_any l hl E)
  cases ha : any64 l with
  | none =>
    have HW := Lib.hid (show whole l lo hi = none by unfold whole; rw [ha])
    have HN := Lib.hid ha; clear ha
    go_enter Tryz.func23, Tryz.ntmps23
    go_wp2_with fail
    refine HA.out.mono ?_; rintro e w1 ⟨hb, he⟩
    rw [HN.out] at he
    obtain rfl := he
    refine ⟨rfl, hb, ?_⟩
    rw [HW.out]
  | some u =>
    by_cases c1 : lo ≤ (u : Int)
    · by_cases c2 : (u : Int) ≤ hi
      · have HW := Lib.hid (show whole l lo hi = some (u : Int) by unfold whole; rw [ha]; exact if_pos ⟨c1, c2⟩)
        have HN := Lib.hid ha; clear ha
        have d1 : decide (lo ≤ (u : Int)) = true := by simpa using c1
        have d2 : decide ((u : Int) ≤ hi) = true := by simpa using c2
        go_enter Tryz.func23, Tryz.ntmps23
        go_wp2_with fail
        refine HA.out.mono ?_; rintro e w1 ⟨hb, he⟩
        rw [HN.out] at he
        obtain rfl := he
        go_wp2_with fail
        refine (check_yes _ _).mono ?_; rintro e w3 ⟨rfl, rfl⟩
        go_wp2_with fail
        go_ret
        refine ⟨hb, ?_⟩
        rw [HW.out]; rfl
      · have HW := Lib.hid (show whole l lo hi = none by unfold whole; rw [ha]; exact if_neg (fun h => c2 h.2))
        have HN := Lib.hid ha; clear ha
        have d1 : decide (lo ≤ (u : Int)) = true := by simpa using c1
        have d2 : decide ((u : Int) ≤ hi) = false := by simpa using c2
        clear c1 c2
        go_enter Tryz.func23, Tryz.ntmps23
        go_wp2_with fail
        refine HA.out.mono ?_; rintro e w1 ⟨hb, he⟩
        rw [HN.out] at he
        obtain rfl := he
        go_wp2_with fail
        refine (check_no _ _).mono ?_; rintro e w3 ⟨rfl, rfl⟩
        refine ⟨rfl, hb, ?_⟩
        rw [HW.out]
    · have HW := Lib.hid (show whole l lo hi = none by unfold whole; rw [ha]; exact if_neg (fun h => c1 h.1))
      have HN := Lib.hid ha; clear ha
      go_enter Tryz.func23, Tryz.ntmps23
      go_wp2_with fail
      refine HA.out.mono ?_; rintro e w1 ⟨hb, he⟩
      rw [HN.out] at he
      obtain rfl := he
      go_wp2_with fail
      refine (check_no _ _).mono ?_; rintro e w3 ⟨rfl, rfl⟩
      refine ⟨rfl, hb, ?_⟩
      rw [HW.out]

end Go.Proofs.YtnnahodajiolmaaGreatDoor.sc

namespace Go.Proofs.YtnnahodajiolmaaGreatDoor.sc
open Go.RowKit
set_option linter.unusedVariables false

theorem unhexP_odd : ∀ (n : Nat) (l : Bs), l.length = 2 * n + 1 → unhexP l = none
  | 0, [a], _ => rfl
  | n + 1, a :: b :: r, h => by
    rw [unhexP]
    split
    · rfl
    · rw [unhexP_odd n r (by simp at h; omega)]; rfl
theorem indexByte_bd (l : Bs) (c : UInt8) : -1 ≤ Go.Lib.indexByte l c ∧ Go.Lib.indexByte l c < l.length := by
  induction l with
  | nil => simp [Go.Lib.indexByte]
  | cons a r ih =>
    simp only [Go.Lib.indexByte, List.length_cons]
    split
    · omega
    · split <;> omega
theorem nib (h m : Nat) (hh : h < 16) (hm : m < 16) : bits BinOp.or IntKind.i64 ((h : Int) * 16) (m : Int) = ((h * 16 + m : Nat) : Int) := by
  have k : ∀ a b : Fin 16, bits BinOp.or IntKind.i64 ((a.val : Int) * 16) (b.val : Int) = ((a.val * 16 + b.val : Nat) : Int) := by decide +kernel
  exact k ⟨h, hh⟩ ⟨m, hm⟩

theorem indexHex (c : UInt8) (w : World) : Calls Tryz.prog 18 #[.string ⟨#[48, 49, 50, 51, 52, 53, 54, 55, 56, 57, 97, 98, 99, 100, 101, 102]⟩, .int .u8 c.toNat] w fun e w' => e = .returned (.int .i64 (Go.Lib.indexByte hexes c)) ∧ w' = w := by
  have H := Tryz.strings_IndexByte ⟨#[48, 49, 50, 51, 52, 53, 54, 55, 56, 57, 97, 98, 99, 100, 101, 102]⟩ (c.toNat : Int) w
  rw [show ((c.toNat : Int).toNat.toUInt8) = c by simp] at H
  exact H

def ValuePost (w : World) (l : Bs) (e : Ending) (w' : World) : Prop :=
  Below w.heap.size w w' ∧ match valueP l with
    | some v => e = .returned (.string (mk v))
    | none => e = leftBy 11

set_option maxHeartbeats 1600000 in
set_option maxRecDepth 100000 in
theorem value_any {w : World} (l : Bs) (hl : l.length ≤ 1000000) : Calls Tryz.prog 79 #[.string (mk l)] w (ValuePost w l) := by
  by_cases h1 : l = [45]
  · subst h1
    go_enter Tryz.func79, Tryz.ntmps79
    go_wp2
    go_ret
    exact ⟨Below.refl _ _, rfl⟩
  · have hne : (l == [45]) = false := by simpa using h1
    by_cases h2 : l = []
    · subst h2
      go_enter Tryz.func79, Tryz.ntmps79
      go_wp2_with fail
      refine (check_no _ _).mono ?_; rintro e w3 ⟨rfl, rfl⟩
      exact ⟨rfl, Below.refl _ _, rfl⟩
    · have hpos : 0 < l.length := List.length_pos_iff.2 h2
      by_cases h3 : l.length % 2 = 0
      · have hev : (((l.length : Nat) : Int) % 2 == 0) = true := by simp; omega
        have hd0 : decide (0 < l.length) = true := by simpa using hpos
        have HV := Lib.hid (show valueP l = unhexP l by unfold valueP; rw [if_neg h1, if_neg h2])
        have H3 := Lib.hid h3
        clear h1 h2 h3
        go_enter Tryz.func79, Tryz.ntmps79
        go_wp2_with fail
        refine (check_yes _ _).mono ?_; rintro e w3 ⟨rfl, rfl⟩
        go_wp2_with fail
        obtain ⟨i0, hi0, hz0, hz1, hz2⟩ := info_parts u8Info
        have HI := Lib.hid hi0; clear hi0
        go_loopw [3, 4] (fun s3 s4 wr => ∃ (j : Nat) (pre : Bs), s4 = .int .i64 j ∧ j = 2 * pre.length ∧ j ≤ l.length ∧ wr.ownsRow w.heap.size 5 1 s3 pre.length (bytesV pre) ∧ unhexP l = (unhexP (l.drop j)).map (pre ++ ·) ∧ Below w.heap.size w wr) (fun _ s4 _ => l.length - (RowKit.intOf s4).toNat)
        case atStart => exact ⟨0, [], rfl, rfl, Nat.zero_le _, World.ownsRow_nil _ _ _ _, by simp, Below.refl _ _⟩
        case round =>
          obtain ⟨j, pre, rfl, hj, hjl, hown, hun, hbel⟩ := hrel
          have HH := Lib.hid (And.intro hj (And.intro hown (And.intro hun hbel)))
          clear hj hown hun hbel
          by_cases hlt : j < l.length
          · have hlt2 : j + 1 < l.length := by have := HH.out.1; have := H3.out; omega
            have hw1 : IntKind.i64.wrap ((j : Int) + 1) = (j : Int) + 1 := IntWalk.i64_in _ (by omega)
            have hw2 : (0 : Int) ≤ (j : Int) + 1 := by omega
            have hw3 : ((j : Int) + 1) < (l.length : Int) := by omega
            have hw4 : ((j : Int) + 1).toNat = j + 1 := by omega
            go_upto_region 8 with fail
            go_quiet ((go_at_call 18; exact Calls.quiet_of_same (indexHex _ _)))
            have hda : ∃ a b, a = (mk l)[j]'(by rw [mk_size]; exact hlt) ∧ b = (mk l)[j + 1]'(by rw [mk_size]; exact hlt2) ∧ l.drop j = a :: b :: l.drop (j + 2) :=
              ⟨_, _, rfl, rfl, by rw [List.drop_eq_getElem_cons hlt, List.drop_eq_getElem_cons hlt2]; rfl⟩
            obtain ⟨a, b, ha, hb, hd⟩ := hda
            rw [← ha, ← hb]
            clear ha hb hw1 hw2 hw3 hw4
            obtain ⟨x, hx⟩ : ∃ x, x = Go.Lib.indexByte hexes a := ⟨_, rfl⟩
            obtain ⟨y, hy⟩ : ∃ y, y = Go.Lib.indexByte hexes b := ⟨_, rfl⟩
            have bx := indexByte_bd hexes a
            have bY := indexByte_bd hexes b
            rw [← hx] at bx
            rw [← hy] at bY
            rw [← hx, ← hy]
            have e16 : ((hexes.length : Nat) : Int) = 16 := rfl
            rw [e16] at bx bY
            obtain ⟨bx0, bx1⟩ := bx
            obtain ⟨by0, by1⟩ := bY
            have HD := Lib.hid (And.intro hd (And.intro hx hy)); clear hd hx hy e16
            by_cases cx : x < 0
            · have HU := Lib.hid (show unhexP l = none by
                rw [HH.out.2.2.1, HD.out.1, unhexP, if_pos (Or.inl (by rw [← HD.out.2.1]; exact cx))]; rfl)
              have d1 : decide (x ≥ 0) = false := by simpa using cx
              have d2 : decide (0 ≤ x) = false := by simpa using cx
              clear cx
              go_wp2_with fail
              refine (check_no _ _).mono ?_; rintro e w3 ⟨rfl, rfl⟩
              refine ⟨rfl, HH.out.2.2.2.trans (below_drewN (Below.refl _ _) _), ?_⟩
              rw [HV.out, HU.out]
            · by_cases cy : y < 0
              · have HU := Lib.hid (show unhexP l = none by
                  rw [HH.out.2.2.1, HD.out.1, unhexP, if_pos (Or.inr (by rw [← HD.out.2.2]; exact cy))]; rfl)
                have d1 : decide (0 ≤ x) = true := by simp; omega
                have d2 : decide (0 ≤ y) = false := by simpa using cy
                clear cy cx
                go_wp2_with fail
                refine (check_no _ _).mono ?_; rintro e w3 ⟨rfl, rfl⟩
                refine ⟨rfl, HH.out.2.2.2.trans (below_drewN (Below.refl _ _) _), ?_⟩
                rw [HV.out, HU.out]
              · obtain ⟨m, rfl⟩ : ∃ m : Nat, x = m := ⟨x.toNat, by omega⟩
                obtain ⟨n, rfl⟩ : ∃ n : Nat, y = n := ⟨y.toNat, by omega⟩
                have hm : m < 16 := by omega
                have hn : n < 16 := by omega
                have hnib := nib m n hm hn
                have HU := Lib.hid (show unhexP l = (unhexP (l.drop (j + 2))).map ((pre ++ [UInt8.ofNat (m * 16 + n)]) ++ ·) by
                  rw [HH.out.2.2.1, HD.out.1, unhexP, if_neg (by rw [← HD.out.2.1, ← HD.out.2.2]; omega), ← HD.out.2.1, ← HD.out.2.2]
                  cases unhexP (l.drop (j + 2)) <;> simp)
                clear cx cy
                go_wp2_with fail
                refine (check_yes _ _).mono ?_; rintro e w3 ⟨rfl, rfl⟩
                have hvn : (.int .u8 ((m : Int) * 16 + (n : Int)) : Value) = .int .u8 ((UInt8.ofNat (m * 16 + n)).toNat : Int) := by
                  congr 1; simp [UInt8.toNat_ofNat']; omega
                have HVN := Lib.hid hvn; clear hvn
                go_wp2_with (at_builtin; refine wpList_append_any _ rfl _ _ 78 rfl w.heap.size 5 i0 _ 1 1 Tryz.underlying78 HI.out hz0 hz1 hz2 rfl (by omega) u3 pre.length _ rfl (own_next (w := wr) HH.out.2.1 ((Below.alloc (below_drewN (Below.refl _ _) _) (Nat.le_refl _) _))) (wr.heap.size + 1) (some ⟨wr.heap.size, 0, none⟩) 1 1 [.int .u8 ((m : Int) * 16 + (n : Int))] rfl ?hr ?h1 ?h63 ?hby ?hbase ?_)
                case hr =>
                  refine ⟨rfl, fun _ => ⟨_, rfl, Nat.lt_succ_self _, fun j u hj => ?_⟩⟩
                  obtain rfl : j = 0 := by
                    have := (List.getElem?_eq_some_iff.1 hj).1; simpa using this
                  rw [add_plain]
                  have := (Blk.new (wr.drewN nq) 5 #[.int .u8 ((m : Int) * 16 + (n : Int))]).cell 0
                  rw [← hj]; exact this
                case h1 => intro u hu; simp only [List.mem_singleton] at hu; subst hu; rfl
                case h63 => have := HH.out.1; unfold maxLen; omega
                case hby => have := HH.out.1; omega
                case hbase => have := HH.out.2.2.2.size; simp; omega
                intro v2 w2 o2 g2 _
                have HG := Lib.hid (And.intro o2 g2); clear o2 g2
                go_wp2_with fail
                go_roundw
                case rel =>
                  refine ⟨j + 2, pre ++ [UInt8.ofNat (m * 16 + n)], by go_num, by have := HH.out.1; simp; omega, by have := HH.out.1; have := H3.out; omega, ?_, HU.out, ?_⟩
                  · rw [bytesV_append, List.length_append]
                    have := HG.out.1
                    rw [HVN.out] at this
                    exact this
                  · refine (HH.out.2.2.2.trans ((Below.alloc (below_drewN (Below.refl _ _) nq) (Nat.le_refl _) _).mono HH.out.2.2.2.size)).grown HG.out.2 (by have := HH.out.2.2.2.size; simp; omega) (fun g hg => (HH.out.2.1.lt g hg).1)
                case measure => simp [RowKit.intOf]; omega
          · obtain rfl : j = l.length := by omega
            have hpp : 0 < pre.length := by have := HH.out.1; omega
            obtain ⟨g, cap, rfl, hg, hlt2⟩ := HH.out.2.1.form hpp
            have hcv2 := run_convert_bytes_back (P := Tryz.prog) wr 78 9 5 ⟨g, 0, none⟩ cap pre Tryz.underlying78 Tryz.underlying5 Tryz.underlying9 (fun j hj => HH.out.2.1.cells (g := g) rfl j _ (by rw [bytesV, List.getElem?_map, List.getElem?_eq_getElem hj]; rfl))
            have HU := Lib.hid (show unhexP l = some pre by
              rw [HH.out.2.2.1, List.drop_length, unhexP]; simp)
            go_wp2_with fail
            go_ret
            refine ⟨HH.out.2.2.2, ?_⟩
            rw [HV.out, HU.out]; rfl
      · have hev : (((l.length : Nat) : Int) % 2 == 0) = false := by simp; omega
        have hd0 : decide (0 < l.length) = true := by simpa using hpos
        have HV := Lib.hid (show valueP l = none by
          unfold valueP; rw [if_neg h1, if_neg h2]; exact unhexP_odd (l.length / 2) l (by omega))
        clear h1 h2 h3
        go_enter Tryz.func79, Tryz.ntmps79
        go_wp2_with fail
        refine (check_no _ _).mono ?_; rintro e w3 ⟨rfl, rfl⟩
        refine ⟨rfl, Below.refl _ _, ?_⟩
        rw [HV.out]

end Go.Proofs.YtnnahodajiolmaaGreatDoor.sc

namespace Go.Proofs.YtnnahodajiolmaaGreatDoor.sc
open Go.RowKit
set_option linter.unusedVariables false

theorem indexByte_none (c : UInt8) : ∀ l : Bs, Go.Lib.indexByte l c = -1 → l.count c = 0
  | [], _ => rfl
  | b :: l, h => by
    have hl := (indexByte_bd l c).1
    rw [Go.Lib.indexByte] at h
    by_cases h1 : (b == c) = true
    · rw [if_pos h1] at h; omega
    · rw [if_neg h1] at h
      by_cases h2 : (Go.Lib.indexByte l c == -1) = true
      · have := indexByte_none c l (by simpa using h2)
        rw [List.count_cons, this, if_neg h1]
      · rw [if_neg h2] at h
        have : Go.Lib.indexByte l c ≠ -1 := by simpa using h2
        omega
theorem splitK_ne (c x : UInt8) (hx : x ≠ c) : ∀ (k : Nat) (r : Bs), k ≤ r.count c → ∃ y t, Go.Lib.splitK [c] 0 k r = y :: t ∧ Go.Lib.splitK [c] 0 k (x :: r) = (x :: y) :: t := by
  intro k r hk
  cases k with
  | zero => exact ⟨r, [], rfl, rfl⟩
  | succ k =>
    have hb : (x == c) = false := by simpa using hx
    rw [Go.Lib.splitK, Go.Lib.splitK, Go.Lib.index_one, Go.Lib.index_one]
    have hi : Go.Lib.indexByte r c ≠ -1 := by
      intro e
      have := indexByte_none c r e; omega
    have h1 := (indexByte_bd r c).1
    have e1 : (Go.Lib.indexByte r c == -1) = false := by simpa using hi
    have e2 : Go.Lib.indexByte (x :: r) c = Go.Lib.indexByte r c + 1 := by
      rw [Go.Lib.indexByte, if_neg (by simp [hb]), if_neg (by simp [e1])]
    have e3 : (Go.Lib.indexByte (x :: r) c == -1) = false := by rw [e2]; simp; omega
    rw [if_neg (by simp [e1]), if_neg (by simp [e3]), e2]
    obtain ⟨i, hi2⟩ : ∃ i : Nat, Go.Lib.indexByte r c = i := ⟨(Go.Lib.indexByte r c).toNat, by omega⟩
    refine ⟨_, _, rfl, ?_⟩
    rw [hi2, show ((i : Int) + 1).toNat = i + 1 by omega, Int.toNat_natCast]
    simp
theorem splitK_splitC (c : UInt8) : ∀ s : Bs, Go.Lib.splitK [c] 0 (s.count c) s = splitC c s
  | [] => rfl
  | x :: r => by
    by_cases hx : x = c
    · subst hx
      have e0 : Go.Lib.indexByte (x :: r) x = 0 := by rw [Go.Lib.indexByte, if_pos (by simp)]
      rw [splitC, if_pos rfl, List.count_cons_self, Go.Lib.splitK, Go.Lib.index_one, e0, if_neg (by decide), ← splitK_splitC x r]
      rfl
    · rw [splitC, if_neg hx, List.count_cons_of_ne (fun e => hx e), ← splitK_splitC c r]
      obtain ⟨y, t, e1, e2⟩ := splitK_ne c x hx (r.count c) r (Nat.le_refl _)
      rw [e1, e2]
theorem split_eq (s : Bs) : (Go.Lib.splitB ⟨#[32]⟩ 0 (Go.Lib.countB (mk s) ⟨#[32]⟩) (mk s)).map (·.data.toList) = splitC 32 s := by
  rw [Go.Lib.splitB_data, of_mk]
  show Go.Lib.splitK [32] 0 (Go.Lib.count s [32]) s = _
  rw [Go.Lib.count_one, splitK_splitC]

/-- A fresh slice of these words. -/
def SplitPost (w : World) (l : List Bs) (e : Ending) (w' : World) : Prop :=
  ∃ v, e = .returned v ∧ StrsAt w' v l ∧ Below w.heap.size w w'

theorem split_any {w : World} (s : Bs) (hs : s.length ≤ 1000000) (E : Env w) :
    Calls Tryz.prog 21 #[.string (mk s), .string ⟨#[32]⟩] w (SplitPost w (splitC 32 s)) := by
  obtain ⟨_, _, ⟨m, hm⟩, _⟩ := E
  refine (Tryz.strings_Split (mk s) ⟨#[32]⟩ m w (by rw [mk_size]; omega) hm (by decide)).mono ?_
  rintro e w' ⟨rfl, rfl⟩
  have hl := Go.Lib.splitB_all ⟨#[32]⟩ (by decide) 0 _ (mk s) rfl
  have he := split_eq s
  generalize hB : Go.Lib.splitB ⟨#[32]⟩ 0 (Go.Lib.countB (mk s) ⟨#[32]⟩) (mk s) = B at hl he ⊢
  have hlen : (splitC 32 s).length = Go.Lib.countB (mk s) ⟨#[32]⟩ + 1 := by rw [← he, List.length_map, hl]
  refine ⟨_, rfl, ⟨some ⟨w.heap.size, 0, none⟩, _, by rw [hlen], by rw [hlen]; exact Nat.le_refl _, fun _ => ⟨_, _, rfl, by simp, fun j x hj => ?_⟩⟩, (Below.refl _ _).alloc (Nat.le_refl _) _⟩
  rw [Nat.zero_add, World.cell?_alloc_new]
  rw [← he, List.getElem?_map] at hj
  obtain ⟨y, hy, rfl⟩ := Option.map_eq_some_iff.1 hj
  rw [← Array.getElem?_toList, List.getElem?_map, hy, mk_data]; rfl

theorem idx_idxOfS (x : Bs) : ∀ (l : List Bs) (i : Nat), Go.Lib.idxFromS (l.map mk) (mk x) i = idx x l i
  | [], _ => rfl
  | y :: r, i => by
    rw [List.map_cons, Go.Lib.idxFromS, idx, idx_idxOfS x r (i + 1)]
    by_cases h : y = x
    · rw [if_pos (by rw [h]), if_pos h]
    · rw [if_neg (fun e => h (mk_inj e)), if_neg h]
theorem index_any {w : World} {A : Option Addr} {c : Nat} {l : List Bs} (x : Bs) (h : StrsAt w (.slice A l.length c) l) (hl : l.length ≤ 1000) :
    Calls Tryz.prog 48 #[.slice A l.length c, .string (mk x)] w fun e w' => e = .returned (.int .i64 (idx x l 0)) ∧ w' = w := by
  obtain ⟨A', c', e, _, h3⟩ := h
  cases e
  by_cases h0 : l = []
  · subst h0
    exact Tryz.slices_Index_string_empty A c (mk x) w
  · obtain ⟨b, o, rfl, _, hc⟩ := h3 (List.length_pos_iff.2 h0)
    have H := Tryz.slices_Index_string b o l.length c (l.map mk) (mk x) w (by simp) (by omega) (fun j hj => by
      have hj' : j < l.length := by simpa using hj
      rw [hc j _ (List.getElem?_eq_getElem hj')]
      simp [List.getD, hj'])
    rw [List.take_of_length_le (by simp)] at H
    unfold Go.Lib.idxOfS at H
    rw [idx_idxOfS] at H
    exact H

end Go.Proofs.YtnnahodajiolmaaGreatDoor.sc
