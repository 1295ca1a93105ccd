/-
  PROVED HERE: a row of bytes as a string; the words of bytes, and back. Conditions: bytes.
-/
import Derived.Test.YtdbbbaallalhoaaGreatSpNew
import Derived.Test.YtdbbbaallalhoaaGreatSpBytes
import Derived.Laws.IdiomStrings
namespace Go.Proofs.YtdbbbaallalhoaaGreat.si
open Go.RowKit Go.Proofs.YtdbbbaallalhoaaGreat.pm
set_option linter.unusedVariables false
theorem conv_row {w : World} {ao : Option Addr} {n cp : Nat} {xs : List Int} (h : Reads w (.slice ao n cp) n (xs.map (Value.int .u8))) (hl : xs.length = n) (hb : ∀ x ∈ xs, 0 ≤ x ∧ x ≤ 255) :
    (convert 33 9 (.slice ao n cp)).run Tryz.prog w = .ok (.string ⟨(xs.map fun x => UInt8.ofNat x.toNat).toArray⟩) w := by
  rcases h with ⟨e, h2, h3⟩ | ⟨a, cap, e, ha, hc⟩
  · have hx : xs = [] := List.map_eq_nil_iff.1 h3
    subst hx
    rw [e]
    simp [convert, go_sem]
    rfl
  · obtain ⟨b, off, sp⟩ := a
    cases ha
    cases e
    have := run_convert_bytes_back (P := Tryz.prog) w 33 9 5 ⟨b, off, none⟩ cp (xs.map fun x => UInt8.ofNat x.toNat) Tryz.underlying33 Tryz.underlying5 Tryz.underlying9 (fun j hj => by
      rw [List.length_map] at hj
      have hx := hb xs[j] (List.getElem_mem _)
      have h1 := hc j (.int .u8 xs[j]) (by rw [List.getElem?_map, List.getElem?_eq_getElem hj]; rfl)
      rw [show (⟨b, off, none⟩ : Addr).add j = ⟨b, off + j, none⟩ from by simp [addr_add], h1]
      rw [List.getElem_map]
      have h2 : ((UInt8.ofNat xs[j].toNat).toNat : Int) = xs[j] := by
        rw [UInt8.toNat_ofNat']
        omega
      rw [h2])
    rw [List.length_map, hl] at this
    exact this
theorem leB_byte : ∀ (k : Nat) (x : Int), ∀ y ∈ leB k x, 0 ≤ y ∧ y ≤ 255
  | 0, _, y, h => by simp [leB] at h
  | k + 1, x, y, h => by
    simp only [leB, List.mem_cons] at h
    rcases h with rfl | h
    · omega
    · exact leB_byte k _ y h
theorem bytesOf_byte : ∀ (l : List Int), ∀ y ∈ bytesOf l, 0 ≤ y ∧ y ≤ 255
  | [], y, h => by simp [bytesOf] at h
  | x :: r, y, h => by
    simp only [bytesOf, List.mem_append] at h
    rcases h with h | h
    · exact leB_byte 8 x y h
    · exact bytesOf_byte r y h

theorem leB_wd : ∀ (l : List Int), (∀ b ∈ l, Byte b) → leB l.length (wd l) = l
  | [], _ => rfl
  | b :: r, h => by
    have h2 := h b (List.mem_cons_self ..)
    unfold Byte at h2
    have ih := leB_wd r fun c hc => h c (List.mem_cons_of_mem _ hc)
    rw [List.length_cons, leB, wd]
    have e1 : (b + 256 * wd r) % 256 = b := by omega
    have e2 : (b + 256 * wd r) / 256 = wd r := by omega
    first
      | rw [e1, e2, ih]
      | rw [show b + wd r * 256 = b + 256 * wd r from by omega, e1, e2, ih]
theorem words_back : ∀ (m : Nat) (bs : List Int), 8 * m ≤ bs.length → (∀ b ∈ bs, Byte b) → bytesOf (wordsOf bs m) = bs.take (8 * m)
  | 0, bs, _, _ => by simp [wordsOf, bytesOf]
  | m + 1, bs, hl, hb => by
    have hp : (pieceAt bs m).length = 8 := by simp [pieceAt]; omega
    have h8 := leB_wd (pieceAt bs m) fun c hc => hb c (List.mem_of_mem_drop (List.mem_of_mem_take hc))
    rw [hp] at h8
    rw [wordsOf_succ, bytesOf_snoc, words_back m bs (by omega) hb, h8, show 8 * (m + 1) = 8 * m + 8 from by omega, List.take_add]
    rfl
theorem words_u64 (bs : List Int) (m : Nat) (hb : ∀ b ∈ bs, Byte b) : ∀ x ∈ wordsOf bs m, U64 x := by
  intro x hx
  obtain ⟨k, _, rfl⟩ := List.mem_map.1 hx
  have h := wd_bound (pieceAt bs k) fun c hc => hb c (List.mem_of_mem_drop (List.mem_of_mem_take hc))
  have hp : (pieceAt bs k).length ≤ 8 := by simp [pieceAt]; omega
  have h2 : (256 : Int) ^ (pieceAt bs k).length ≤ 256 ^ 8 := (show ∀ n : Nat, n < 9 → (256 : Int) ^ n ≤ 256 ^ 8 from by decide) _ (by omega)
  have e : (256 : Int) ^ 8 = 18446744073709551616 := by decide
  exact ⟨h.1, by omega⟩
end Go.Proofs.YtdbbbaallalhoaaGreat.si
