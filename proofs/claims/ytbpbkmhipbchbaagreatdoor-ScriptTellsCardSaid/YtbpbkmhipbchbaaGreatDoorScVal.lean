/-
  PROVED HERE: the contract of script's value: the bytes of hexadecimal digits, or it is left by ErrBytes. Conditions: a short string.
-/
import Derived.Test.YtbpbkmhipbchbaaGreatDoorScChk
import Derived.Deep.QuietTactic
import Derived.BigQuiet
namespace Go.Proofs.YtbpbkmhipbchbaaGreatDoor.sc
open Go.RowKit
set_option linter.unusedVariables false

theorem unhexP_odd : ∀ (n : Nat) (l : Bs), l.length = 2 * n + 1 → unhexP l = none
  | 0, [a], _ => rfl
  | n + 1, a :: b :: r, h => by
    rw [unhexP]
    split
    · rfl
    · rw [unhexP_odd n r (by simp at h; omega)]; rfl
theorem indexByte_bd (l : Bs) (c : UInt8) : -1 ≤ Go.Lib.indexByte l c ∧ Go.Lib.indexByte l c < l.length := by
  induction l with
  | nil => simp [Go.Lib.indexByte]
  | cons a r ih =>
    simp only [Go.Lib.indexByte, List.length_cons]
    split
    · omega
    · split <;> omega
theorem nib (h m : Nat) (hh : h < 16) (hm : m < 16) : bits BinOp.or IntKind.i64 ((h : Int) * 16) (m : Int) = ((h * 16 + m : Nat) : Int) := by
  have k : ∀ a b : Fin 16, bits BinOp.or IntKind.i64 ((a.val : Int) * 16) (b.val : Int) = ((a.val * 16 + b.val : Nat) : Int) := by decide +kernel
  exact k ⟨h, hh⟩ ⟨m, hm⟩

theorem indexHex (c : UInt8) (w : World) : Calls Tryz.prog 79 #[.string ⟨#[48, 49, 50, 51, 52, 53, 54, 55, 56, 57, 97, 98, 99, 100, 101, 102]⟩, .int .u8 c.toNat] w fun e w' => e = .returned (.int .i64 (Go.Lib.indexByte hexes c)) ∧ w' = w := by
  have H := Tryz.strings_IndexByte ⟨#[48, 49, 50, 51, 52, 53, 54, 55, 56, 57, 97, 98, 99, 100, 101, 102]⟩ (c.toNat : Int) w
  rw [show ((c.toNat : Int).toNat.toUInt8) = c by simp] at H
  exact H

def ValuePost (w : World) (l : Bs) (e : Ending) (w' : World) : Prop :=
  Below w.heap.size w w' ∧ match valueP l with
    | some v => e = .returned (.string (mk v))
    | none => e = leftBy 11

set_option maxHeartbeats 1600000 in
set_option maxRecDepth 100000 in
theorem value_any {w : World} (l : Bs) (hl : l.length ≤ 1000000) : Calls Tryz.prog 83 #[.string (mk l)] w (ValuePost w l) := by
  by_cases h1 : l = [45]
  · subst h1
    go_enter Tryz.func83, Tryz.ntmps83
    go_wp2
    go_ret
    exact ⟨Below.refl _ _, rfl⟩
  · have hne : (l == [45]) = false := by simpa using h1
    by_cases h2 : l = []
    · subst h2
      go_enter Tryz.func83, Tryz.ntmps83
      go_wp2_with fail
      refine (check_no _ _).mono ?_; rintro e w3 ⟨rfl, rfl⟩
      exact ⟨rfl, Below.refl _ _, rfl⟩
    · have hpos : 0 < l.length := List.length_pos_iff.2 h2
      by_cases h3 : l.length % 2 = 0
      · have hev : (((l.length : Nat) : Int) % 2 == 0) = true := by simp; omega
        have hd0 : decide (0 < l.length) = true := by simpa using hpos
        have HV := Lib.hid (show valueP l = unhexP l by unfold valueP; rw [if_neg h1, if_neg h2])
        have H3 := Lib.hid h3
        clear h1 h2 h3
        go_enter Tryz.func83, Tryz.ntmps83
        go_wp2_with fail
        refine (check_yes _ _).mono ?_; rintro e w3 ⟨rfl, rfl⟩
        go_wp2_with fail
        obtain ⟨i0, hi0, hz0, hz1, hz2⟩ := info_parts u8Info
        have HI := Lib.hid hi0; clear hi0
        go_loopw [3, 4] (fun s3 s4 wr => ∃ (j : Nat) (pre : Bs), s4 = .int .i64 j ∧ j = 2 * pre.length ∧ j ≤ l.length ∧ wr.ownsRow w.heap.size 5 1 s3 pre.length (bytesV pre) ∧ unhexP l = (unhexP (l.drop j)).map (pre ++ ·) ∧ Below w.heap.size w wr) (fun _ s4 _ => l.length - (RowKit.intOf s4).toNat)
        case atStart => exact ⟨0, [], rfl, rfl, Nat.zero_le _, World.ownsRow_nil _ _ _ _, by simp, Below.refl _ _⟩
        case round =>
          obtain ⟨j, pre, rfl, hj, hjl, hown, hun, hbel⟩ := hrel
          have HH := Lib.hid (And.intro hj (And.intro hown (And.intro hun hbel)))
          clear hj hown hun hbel
          by_cases hlt : j < l.length
          · have hlt2 : j + 1 < l.length := by have := HH.out.1; have := H3.out; omega
            have hw1 : IntKind.i64.wrap ((j : Int) + 1) = (j : Int) + 1 := IntWalk.i64_in _ (by omega)
            have hw2 : (0 : Int) ≤ (j : Int) + 1 := by omega
            have hw3 : ((j : Int) + 1) < (l.length : Int) := by omega
            have hw4 : ((j : Int) + 1).toNat = j + 1 := by omega
            go_upto_region 8 with fail
            go_quiet ((go_at_call 79; exact Calls.quiet_of_same (indexHex _ _)))
            have hda : ∃ a b, a = (mk l)[j]'(by rw [mk_size]; exact hlt) ∧ b = (mk l)[j + 1]'(by rw [mk_size]; exact hlt2) ∧ l.drop j = a :: b :: l.drop (j + 2) :=
              ⟨_, _, rfl, rfl, by rw [List.drop_eq_getElem_cons hlt, List.drop_eq_getElem_cons hlt2]; rfl⟩
            obtain ⟨a, b, ha, hb, hd⟩ := hda
            rw [← ha, ← hb]
            clear ha hb hw1 hw2 hw3 hw4
            obtain ⟨x, hx⟩ : ∃ x, x = Go.Lib.indexByte hexes a := ⟨_, rfl⟩
            obtain ⟨y, hy⟩ : ∃ y, y = Go.Lib.indexByte hexes b := ⟨_, rfl⟩
            have bx := indexByte_bd hexes a
            have bY := indexByte_bd hexes b
            rw [← hx] at bx
            rw [← hy] at bY
            rw [← hx, ← hy]
            have e16 : ((hexes.length : Nat) : Int) = 16 := rfl
            rw [e16] at bx bY
            obtain ⟨bx0, bx1⟩ := bx
            obtain ⟨by0, by1⟩ := bY
            have HD := Lib.hid (And.intro hd (And.intro hx hy)); clear hd hx hy e16
            by_cases cx : x < 0
            · have HU := Lib.hid (show unhexP l = none by
                rw [HH.out.2.2.1, HD.out.1, unhexP, if_pos (Or.inl (by rw [← HD.out.2.1]; exact cx))]; rfl)
              have d1 : decide (x ≥ 0) = false := by simpa using cx
              have d2 : decide (0 ≤ x) = false := by simpa using cx
              clear cx
              go_wp2_with fail
              refine (check_no _ _).mono ?_; rintro e w3 ⟨rfl, rfl⟩
              refine ⟨rfl, HH.out.2.2.2.trans (below_drewN (Below.refl _ _) _), ?_⟩
              rw [HV.out, HU.out]
            · by_cases cy : y < 0
              · have HU := Lib.hid (show unhexP l = none by
                  rw [HH.out.2.2.1, HD.out.1, unhexP, if_pos (Or.inr (by rw [← HD.out.2.2]; exact cy))]; rfl)
                have d1 : decide (0 ≤ x) = true := by simp; omega
                have d2 : decide (0 ≤ y) = false := by simpa using cy
                clear cy cx
                go_wp2_with fail
                refine (check_no _ _).mono ?_; rintro e w3 ⟨rfl, rfl⟩
                refine ⟨rfl, HH.out.2.2.2.trans (below_drewN (Below.refl _ _) _), ?_⟩
                rw [HV.out, HU.out]
              · obtain ⟨m, rfl⟩ : ∃ m : Nat, x = m := ⟨x.toNat, by omega⟩
                obtain ⟨n, rfl⟩ : ∃ n : Nat, y = n := ⟨y.toNat, by omega⟩
                have hm : m < 16 := by omega
                have hn : n < 16 := by omega
                have hnib := nib m n hm hn
                have HU := Lib.hid (show unhexP l = (unhexP (l.drop (j + 2))).map ((pre ++ [UInt8.ofNat (m * 16 + n)]) ++ ·) by
                  rw [HH.out.2.2.1, HD.out.1, unhexP, if_neg (by rw [← HD.out.2.1, ← HD.out.2.2]; omega), ← HD.out.2.1, ← HD.out.2.2]
                  cases unhexP (l.drop (j + 2)) <;> simp)
                clear cx cy
                go_wp2_with fail
                refine (check_yes _ _).mono ?_; rintro e w3 ⟨rfl, rfl⟩
                have hvn : (.int .u8 ((m : Int) * 16 + (n : Int)) : Value) = .int .u8 ((UInt8.ofNat (m * 16 + n)).toNat : Int) := by
                  congr 1; simp [UInt8.toNat_ofNat']; omega
                have HVN := Lib.hid hvn; clear hvn
                go_wp2_with (at_builtin; refine wpList_append_any _ rfl _ _ 92 rfl w.heap.size 5 i0 _ 1 1 Tryz.underlying92 HI.out hz0 hz1 hz2 rfl (by omega) u3 pre.length _ rfl (own_next (w := wr) HH.out.2.1 ((Below.alloc (below_drewN (Below.refl _ _) _) (Nat.le_refl _) _))) (wr.heap.size + 1) (some ⟨wr.heap.size, 0, none⟩) 1 1 [.int .u8 ((m : Int) * 16 + (n : Int))] rfl ?hr ?h1 ?h63 ?hby ?hbase ?_)
                case hr =>
                  refine ⟨rfl, fun _ => ⟨_, rfl, Nat.lt_succ_self _, fun j u hj => ?_⟩⟩
                  obtain rfl : j = 0 := by
                    have := (List.getElem?_eq_some_iff.1 hj).1; simpa using this
                  rw [add_plain]
                  have := (Blk.new (wr.drewN nq) 5 #[.int .u8 ((m : Int) * 16 + (n : Int))]).cell 0
                  rw [← hj]; exact this
                case h1 => intro u hu; simp only [List.mem_singleton] at hu; subst hu; rfl
                case h63 => have := HH.out.1; unfold maxLen; omega
                case hby => have := HH.out.1; omega
                case hbase => have := HH.out.2.2.2.size; simp; omega
                intro v2 w2 o2 g2 _
                have HG := Lib.hid (And.intro o2 g2); clear o2 g2
                go_wp2_with fail
                go_roundw
                case rel =>
                  refine ⟨j + 2, pre ++ [UInt8.ofNat (m * 16 + n)], by go_num, by have := HH.out.1; simp; omega, by have := HH.out.1; have := H3.out; omega, ?_, HU.out, ?_⟩
                  · rw [bytesV_append, List.length_append]
                    have := HG.out.1
                    rw [HVN.out] at this
                    exact this
                  · refine (HH.out.2.2.2.trans ((Below.alloc (below_drewN (Below.refl _ _) nq) (Nat.le_refl _) _).mono HH.out.2.2.2.size)).grown HG.out.2 (by have := HH.out.2.2.2.size; simp; omega) (fun g hg => (HH.out.2.1.lt g hg).1)
                case measure => simp [RowKit.intOf]; omega
          · obtain rfl : j = l.length := by omega
            have hpp : 0 < pre.length := by have := HH.out.1; omega
            obtain ⟨g, cap, rfl, hg, hlt2⟩ := HH.out.2.1.form hpp
            have hcv2 := run_convert_bytes_back (P := Tryz.prog) wr 92 9 5 ⟨g, 0, none⟩ cap pre Tryz.underlying92 Tryz.underlying5 Tryz.underlying9 (fun j hj => HH.out.2.1.cells (g := g) rfl j _ (by rw [bytesV, List.getElem?_map, List.getElem?_eq_getElem hj]; rfl))
            have HU := Lib.hid (show unhexP l = some pre by
              rw [HH.out.2.2.1, List.drop_length, unhexP]; simp)
            go_wp2_with fail
            go_ret
            refine ⟨HH.out.2.2.2, ?_⟩
            rw [HV.out, HU.out]; rfl
      · have hev : (((l.length : Nat) : Int) % 2 == 0) = false := by simp; omega
        have hd0 : decide (0 < l.length) = true := by simpa using hpos
        have HV := Lib.hid (show valueP l = none by
          unfold valueP; rw [if_neg h1, if_neg h2]; exact unhexP_odd (l.length / 2) l (by omega))
        clear h1 h2 h3
        go_enter Tryz.func83, Tryz.ntmps83
        go_wp2_with fail
        refine (check_no _ _).mono ?_; rintro e w3 ⟨rfl, rfl⟩
        refine ⟨rfl, Below.refl _ _, ?_⟩
        rw [HV.out]

end Go.Proofs.YtbpbkmhipbchbaaGreatDoor.sc
