/-
  PROVED HERE: package script's digits: the hexadecimal digits of a string. Conditions: the library's tables lie (Env); the string has at most 1000000 bytes.
-/
import Derived.Test.YtbpbkmhipbchbaaGreatDoorScHex
import Derived.Lib.AppendStr
import Derived.Lib.ConvBytes
namespace Go.Proofs.YtbpbkmhipbchbaaGreatDoor.sc
open Go.RowKit Go.Shelf Go.Sort Go.Lib
set_option linter.unusedVariables false

theorem u8Info : (Tryz.prog.info? 5).map (fun i => (i.zero, i.size, i.bytes)) = some (some (.int .u8 0), 1, 1) := by kernel_rfl
def bytesV (l : Bs) : List Value := l.map fun b => .int .u8 b.toNat
theorem bytesV_append (a b : Bs) : bytesV (a ++ b) = bytesV a ++ bytesV b := by simp [bytesV]

theorem hexW_drop (u : Nat) : (hexW u).drop 14 = [hexd (u / 16), hexd (u % 16)] := by
  rw [hexW, List.drop_append]; simp
theorem hexW_len (u : Nat) : (hexW u).length = 16 := by simp [hexW]
theorem mk_drop (l : Bs) (k : Nat) : (mk l).extract k l.length = mk (l.drop k) := by
  rw [← mk_size l, ← mk_data ((mk l).extract k (mk l).size), Lib.extract_to_end, of_mk]
theorem below_bytesWorld (w : World) (e : TypeId) (s : ByteArray) : Below w.heap.size w (Lib.bytesWorld w e s) :=
  ⟨rfl, rfl, rfl, by rw [Lib.bytesWorld_size]; omega, fun b hb => Lib.bytesWorld_at_old w e s b hb⟩

theorem flat_len (l : Bs) : (l.flatMap hex2).length = 2 * l.length := by
  induction l with
  | nil => rfl
  | cons a r ih => simp [hex2, ih]; omega

set_option maxHeartbeats 3200000 in
set_option maxRecDepth 100000 in
theorem digits_any {w : World} (l : Bs) (hl : l.length ≤ 1000000) (E : Env w) :
    Calls Tryz.prog 41 #[.string (mk l)] w fun e w' => e = .returned (.string (mk (digits l))) ∧ Below w.heap.size w w' := by
  have hcv := Lib.run_convert_string_bytes (P := Tryz.prog) w 9 92 5 (mk l) Tryz.underlying9 Tryz.underlying92 Tryz.underlying5
  obtain ⟨i0, hi0, hz0, hz1, hz2⟩ := info_parts u8Info
  go_enter Tryz.func41, Tryz.ntmps41
  go_wp2
  clear hcv
  have hB0 := below_bytesWorld w 5 (mk l)
  have hcells : ∀ j, j < l.length → (Lib.bytesWorld w 5 (mk l)).cell? ⟨w.heap.size, j, none⟩ = some (.int .u8 (l.getD j 0).toNat) := fun j hj => by
    have := Lib.bytesWorld_cell w 5 (mk l) j (by rw [mk_size]; exact hj)
    rw [of_mk] at this; exact this
  have hsz := Lib.bytesWorld_size w 5 (mk l)
  obtain ⟨W, hW⟩ : ∃ W, W = Lib.bytesWorld w 5 (mk l) := ⟨_, rfl⟩
  rw [← hW] at hB0 hcells hsz ⊢
  clear hW
  have HC := Lib.hid hcells; clear hcells
  have HS := Lib.hid hsz; clear hsz
  have EW := E.next hB0
  go_loopw [3, 9] (fun s3 s9 wr => ∃ k : Nat, k ≤ l.length ∧ s9 = .int .i64 k ∧ wr.ownsRow (w.heap.size + 1) 5 1 s3 (2 * k) (bytesV ((l.take k).flatMap hex2)) ∧ Below (w.heap.size + 1) W wr) (fun _ s9 _ => l.length - (RowKit.intOf s9).toNat)
  case atStart => exact ⟨0, Nat.zero_le _, rfl, World.ownsRow_nil _ _ _ _, Below.refl _ _⟩
  case round =>
    obtain ⟨k, hk, rfl, hown, hbel⟩ := hrel
    by_cases hlt : k < l.length
    · obtain ⟨x, hx⟩ : ∃ x, l[k]? = some x := ⟨_, List.getElem?_eq_getElem hlt⟩
      have c0 : wr.cell? ⟨w.heap.size, k, none⟩ = some (.int .u8 x.toNat) := by
        rw [hbel.cell (p := ⟨w.heap.size, k, none⟩) (Nat.lt_succ_self _), HC.out k hlt]
        simp [List.getD, hx]
      have hxb : x.toNat < 256 := x.toNat_lt
      have HX := Lib.hid hx; clear hx
      have EV := Lib.hid (EW.below hbel (by rw [HS.out]; exact Nat.le_refl _))
      go_wp2_with fail
      refine (wordHex_any x.toNat hxb EV.out).mono ?_; rintro e w1 ⟨rfl, hb1⟩
      have o1 := own_next hown hb1
      clear c0
      have h14 : 14 ≤ (hexW x.toNat).length := by rw [hexW_len]; decide
      have hs3 : ∀ g, u3.ownBlock = some g → w.heap.size + 1 ≤ g := fun g hg => (hown.lt g hg).1
      have HS3 := Lib.hid hs3; clear hs3
      go_wp2_with (at_builtin; refine Lib.wpList_append_own_string _ rfl _ _ 92 9 rfl (w.heap.size + 1) 5 i0 Tryz.underlying92 Tryz.underlying9 hi0 hz0 hz1 hz2 _ (2 * k) _ rfl o1 (mk [hexd (x.toNat / 16), hexd (x.toNat % 16)]) ?hs ?h63 ?hby ?hbase ?_)
      case hs =>
        show Value.string ((mk (hexW x.toNat)).extract 14 (hexW x.toNat).length) = _
        rw [mk_drop, hexW_drop]
      case h63 => rw [mk_size]; unfold maxLen; simp; omega
      case hby => rw [mk_size]; simp; omega
      case hbase => have := hbel.size; have := hb1.size; have := HS.out; omega
      intro v' w2 o2 g2 _
      go_wp2_with fail
      go_roundw
      case rel =>
        refine ⟨k + 1, by omega, by go_num, ?_, ?_⟩
        · have e : l.take (k + 1) = l.take k ++ [x] := by rw [List.take_add_one, HX.out]; rfl
          rw [e, List.flatMap_append, bytesV_append]
          exact o2
        · have h3 : Below (w.heap.size + 1) W w1 := hbel.trans (hb1.mono (by have := hbel.size; have := HS.out; omega))
          exact h3.grown g2 (by have := h3.size; have := HS.out; omega) HS3.out
      case measure => simp [RowKit.intOf]; omega
    · obtain rfl : k = l.length := by omega
      rw [List.take_length] at hown
      have hfin : Below w.heap.size w wr := hB0.trans (hbel.mono (by omega))
      have HF := Lib.hid hfin; clear hfin
      by_cases h0 : l = []
      · subst h0
        obtain ⟨A, c, rfl⟩ : ∃ A c, u3 = .slice A 0 c := by
          rcases hown.2 with ⟨e, _⟩ | ⟨g, cap, cur, e, _⟩
          · exact ⟨_, _, e⟩
          · exact ⟨_, _, e⟩
        go_wp2_with fail
        go_ret
        exact ⟨rfl, HF.out⟩
      · have hl0 : 0 < l.length := List.length_pos_iff.2 h0
        obtain ⟨g, cap, rfl, hg, hlt2⟩ := hown.form (by omega)
        have hb0 : ((((2 * l.length : Nat) : Int)) == 0) = false := by simp; omega
        have hcv2 := run_convert_bytes_back (P := Tryz.prog) wr 92 9 5 ⟨g, 0, none⟩ cap (l.flatMap hex2) Tryz.underlying92 Tryz.underlying5 Tryz.underlying9 (fun j hj => hown.cells (g := g) rfl j _ (by rw [bytesV, List.getElem?_map, List.getElem?_eq_getElem hj]; rfl))
        rw [flat_len] at hcv2
        have HD := Lib.hid (show digits l = l.flatMap hex2 from if_neg h0)
        go_wp2_with fail
        go_ret
        exact ⟨by rw [HD.out]; rfl, HF.out⟩

end Go.Proofs.YtbpbkmhipbchbaaGreatDoor.sc
