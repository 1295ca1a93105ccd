/-
  ScQ5: PROVED HERE: the contract of the reference's words: a line cut at its blanks. Conditions: a string of at most 1000000 bytes.
  ScQ6: PROVED HERE: the contract of the reference's unhex. Conditions: a string of at most 1000000 bytes.
-/
import Derived.Test.YtbpbkmhipbchbaaGreatDoorScWords
import Derived.Test.YtbpbkmhipbchbaaGreatDoorScRef
import Derived.Test.YtbpbkmhipbchbaaGreatDoorScPlain
import Derived.BigQuiet
import Derived.Test.YtbpbkmhipbchbaaGreatDoorScRead
namespace Go.Proofs.YtbpbkmhipbchbaaGreatDoor.sc
open Go.RowKit
set_option linter.unusedVariables false

theorem splitC_end : ∀ t : Bs, ∃ (init : List Bs) (x : Bs), splitC 32 t = init ++ [x] ∧ splitC 32 (t ++ [32]) = init ++ [x] ++ [[]] ∧ ∀ b, b ≠ 32 → splitC 32 (t ++ [b]) = init ++ [x ++ [b]]
  | [] => ⟨[], [], rfl, rfl, fun b hb => by simp [splitC, hb]⟩
  | y :: r => by
    obtain ⟨init, x, h1, h2, h3⟩ := splitC_end r
    by_cases hy : y = 32
    · refine ⟨[] :: init, x, ?_, ?_, fun b hb => ?_⟩
      · rw [splitC, if_pos hy, h1]; rfl
      · rw [List.cons_append, splitC, if_pos hy, h2]; rfl
      · rw [List.cons_append, splitC, if_pos hy, h3 b hb]; rfl
    · cases init with
      | nil =>
        refine ⟨[], y :: x, ?_, ?_, fun b hb => ?_⟩
        · rw [splitC, if_neg hy, h1]; rfl
        · rw [List.cons_append, splitC, if_neg hy, h2]; rfl
        · rw [List.cons_append, splitC, if_neg hy, h3 b hb]; rfl
      | cons z i =>
        refine ⟨(y :: z) :: i, x, ?_, ?_, fun b hb => ?_⟩
        · rw [splitC, if_neg hy, h1]; rfl
        · rw [List.cons_append, splitC, if_neg hy, h2]; rfl
        · rw [List.cons_append, splitC, if_neg hy, h3 b hb]; rfl
theorem splitC_few (c : UInt8) : ∀ s : Bs, (splitC c s).length ≤ s.length + 1
  | [] => by simp [splitC]
  | x :: r => by
    have ih := splitC_few c r
    rw [splitC]; split
    · simp; exact ih
    · split
      · simp
      · rename_i h; rw [h] at ih; simp at ih ⊢; omega
theorem splitC_short (c : UInt8) : ∀ s : Bs, ∀ x ∈ splitC c s, x.length ≤ s.length
  | [], x, h => by simp [splitC] at h; simp [h]
  | y :: r, x, h => by
    rw [splitC] at h
    split at h
    · rcases List.mem_cons.1 h with rfl | h
      · simp
      · have := splitC_short c r x h; simp; omega
    · cases hs : splitC c r with
      | nil => rw [hs] at h; simp at h; simp [h]
      | cons z t =>
        rw [hs] at h
        have hz : ∀ u ∈ z :: t, u.length ≤ r.length := fun u hu => splitC_short c r u (by rw [hs]; exact hu)
        rcases List.mem_cons.1 h with rfl | h
        · have := hz z List.mem_cons_self; simp; omega
        · have := hz x (List.mem_cons_of_mem _ h); simp; omega
theorem mk_cut {l : Bs} {k : Nat} {b : UInt8} (h : l[k]? = some b) : (mk l).extract k (k + 1) = mk [b] := by
  have hlt := (List.getElem?_eq_some_iff.1 h).1
  have e := (List.getElem?_eq_some_iff.1 h).2
  apply ByteArray.ext
  rw [ByteArray.data_extract]
  apply Array.ext'
  rw [Array.toList_extract, List.extract_eq_drop_take', List.take_add_one]
  have h1 : (l.take k).length = k := by rw [List.length_take]; omega
  show (l.take k ++ l[k]?.toList).drop k = [b]
  rw [List.drop_left' h1, h]; rfl

set_option maxHeartbeats 2000000 in
set_option maxRecDepth 100000 in
theorem rWords_any {w : World} (l : Bs) (hl : l.length ≤ 1000000) : Calls Tryz.prog 31 #[.string (mk l)] w (StrsPost w (splitC 32 l)) := by
  have hlen : (mk l).size = l.length := mk_size l
  obtain ⟨W, hW⟩ : ∃ W, W = w.alloc (.cells #[.string ⟨#[]⟩] 9) := ⟨_, rfl⟩
  have ho : W.ownsRow w.heap.size 9 1 (.slice (some ⟨w.heap.size, 0, none⟩) 1 1) 1 (strs [[]]) := by rw [hW]; exact own_lit w [[]] (Nat.le_refl _) (by simp)
  have hB : Below w.heap.size w W := by rw [hW]; exact (Below.refl _ _).alloc (Nat.le_refl _) _
  have HI := Lib.hid (And.intro ho hB); clear ho hB
  go_enter Tryz.func31, Tryz.ntmps31
  go_upto_region 2 with fail
  rw [← hW]
  clear hW
  go_upto_region 3 with fail
  go_loopw [3, 4] (fun s3 s4 wr => ∃ k : Nat, k ≤ l.length ∧ s4 = .int .i64 k ∧ wr.ownsRow w.heap.size 9 1 s3 (splitC 32 (l.take k)).length (strs (splitC 32 (l.take k))) ∧ Below w.heap.size w wr) (fun _ s4 _ => l.length - (RowKit.intOf s4).toNat)
  case atStart => exact ⟨0, Nat.zero_le _, rfl, HI.out.1, HI.out.2⟩
  case round =>
    obtain ⟨k, hk, rfl, hown, hbel⟩ := hrel
    have HO := Lib.hid (And.intro hown hbel); clear hown hbel
    by_cases hlt : k < l.length
    · obtain ⟨b, hb⟩ : ∃ b, l[k]? = some b := ⟨_, List.getElem?_eq_getElem hlt⟩
      obtain ⟨init, x, h1, h2, h3⟩ := splitC_end (l.take k)
      have ht : l.take (k + 1) = l.take k ++ [b] := by rw [List.take_add_one, hb]; rfl
      have hfew := splitC_few 32 (l.take k)
      have hsh := splitC_short 32 (l.take k) x (by rw [h1]; simp)
      rw [List.length_take] at hfew hsh
      have hbk : (mk l)[k]'(by rw [mk_size]; exact hlt) = b := mk_get' hb
      have hcut := mk_cut hb
      have HH := Lib.hid (And.intro h1 (And.intro h2 (And.intro h3 (And.intro ht (And.intro hfew hsh))))); clear h1 h2 h3 ht hfew hsh
      by_cases h32 : b = 32
      · have HB := Lib.hid h32
        have e32 : (b.toNat == 32) = true := by rw [h32]; rfl
        subst h32
        clear hcut
        go_wp2_with (at_builtin; refine wpList_app_strs rfl _ _ rfl w.heap.size u3 _ _ rfl (HO.out.1.alloc _) (.slice (some ⟨wr.heap.size, 0, none⟩) 1 1) [[]] rfl (lit_strs wr [[]] (by simp)) ?few ?base ?_)
        case few => have := HH.out.2.2.2.2.1; simp; omega
        case base => have := HO.out.2.size; simp; omega
        intro v' w' o2 g2
        have HG := Lib.hid (And.intro o2 g2); clear o2 g2
        go_wp2_with fail
        go_roundw
        case rel =>
          refine ⟨k + 1, by omega, by go_num, ?_, ?_⟩
          · have e : splitC 32 (l.take (k + 1)) = splitC 32 (l.take k) ++ [[]] := by rw [HH.out.2.2.2.1, HH.out.2.1, HH.out.1]
            rw [e, List.length_append]
            exact HG.out.1
          · exact (HO.out.2.alloc HO.out.2.size _).trans HG.out.2.below
        case measure => simp [RowKit.intOf]; omega
      · have e32 : (b.toNat == 32) = false := by
          rw [beq_eq_false_iff_ne]; intro e; apply h32; exact UInt8.toNat_inj.1 e
        have HB := Lib.hid h32; clear h32
        obtain ⟨n, hn⟩ : ∃ n, n = (splitC 32 (l.take k)).length := ⟨_, rfl⟩
        obtain ⟨p, hp⟩ : ∃ p, p = init.length := ⟨_, rfl⟩
        have hnp : n = p + 1 := by rw [hn, hp, HH.out.1]; simp
        have ho := HO.out.1
        rw [← hn] at ho
        obtain ⟨g, cap, rfl, hg, hgl⟩ := ho.form (by omega)
        have cx : wr.cell? ⟨g, p, none⟩ = some (.string (mk x)) := by
          rw [ho.cellAt p (by omega), HH.out.1, hp, strs, List.getElem?_map]
          simp
        have cz : wr.frozen? ⟨g, p, none⟩ = false := ho.frozenAt p
        have hnb : n ≤ 1000001 := by have := HH.out.2.2.2.2.1; omega
        have hxb : x.length ≤ 1000000 := by have := HH.out.2.2.2.2.2; omega
        have HN := Lib.hid (And.intro ho (And.intro hn (And.intro hp hnp))); clear ho hn hp
        have w1 : IntKind.i64.wrap ((n : Int) - 1) = (p : Int) := by rw [IntWalk.i64_in _ (by omega)]; omega
        have w2 : IntKind.i64.wrap ((k : Int) + 1) = (k : Int) + 1 := IntWalk.i64_in _ (by omega)
        have p1 : (p : Int) < n := by omega
        have p1' : p < n := by omega
        have p2 : (0 : Int) ≤ (k : Int) + 1 := by omega
        have p3 : (k : Int) + 1 ≤ l.length := by omega
        have p4 : ((k : Int) + 1).toNat = k + 1 := by omega
        have p5 : (k : Int) ≤ (k : Int) + 1 := by omega
        have p6 : ¬ 9223372036854775807 < x.length + 1 := by omega
        clear hnp hnb hxb
        go_upto_region 7 with fail
        go_region
        rw [mk_append]
        obtain ⟨o2, g2⟩ := (HN.out.1).stored p (.string (mk (x ++ [b])))
        have hb2 : Below w.heap.size w (wr.setCell ⟨g, p, none⟩ (.string (mk (x ++ [b])))) := HO.out.2.setCell (p := ⟨g, p, none⟩) hg _
        have HG := Lib.hid (And.intro o2 hb2); clear o2 g2 hb2
        go_wp2_with fail
        go_roundw
        case rel =>
          refine ⟨k + 1, by omega, by go_num, ?_, ?_⟩
          · have e : splitC 32 (l.take (k + 1)) = init ++ [x ++ [b]] := by rw [HH.out.2.2.2.1, HH.out.2.2.1 b HB.out]
            have e2 : strs (init ++ [x ++ [b]]) = (strs (splitC 32 (l.take k))).set p (.string (mk (x ++ [b]))) := by
              rw [HH.out.1, HN.out.2.2.1, strs_append, strs_append, List.set_append]
              simp [strs]
            have e3 : (init ++ [x ++ [b]]).length = n := by have := HN.out.2.2.1; have := HN.out.2.2.2; simp; omega
            rw [e, e2, e3]
            exact HG.out.1
          · exact HG.out.2.drew
        case measure => simp [RowKit.intOf]; omega
    · obtain rfl : k = l.length := by omega
      have HF := Lib.hid (show splitC 32 (l.take l.length) = splitC 32 l by rw [List.take_length])
      go_wp2_with fail
      go_ret
      exact ⟨_, rfl, by have := HO.out.1; rw [HF.out] at this; exact this, HO.out.2⟩

end Go.Proofs.YtbpbkmhipbchbaaGreatDoor.sc

namespace Go.Proofs.YtbpbkmhipbchbaaGreatDoor.sc
open Go.RowKit
set_option linter.unusedVariables false

/-- What the digits up to k say of a byte. -/
def upTo (c : UInt8) (k : Nat) : Nat := if 0 ≤ Go.Lib.indexByte hexes c ∧ (Go.Lib.indexByte hexes c).toNat < k then (Go.Lib.indexByte hexes c).toNat else 0
theorem upTo_all (c : UInt8) : upTo c 16 = hx c := by
  unfold upTo hx
  have h := indexByte_bd hexes c
  have e16 : ((hexes.length : Nat) : Int) = 16 := rfl
  split
  · rfl
  · rename_i hn; omega
theorem upTo_le (c : UInt8) (k : Nat) : upTo c k ≤ 15 := by
  unfold upTo
  have h := indexByte_bd hexes c
  have e16 : ((hexes.length : Nat) : Int) = 16 := rfl
  split <;> omega
theorem hexes_idx : ∀ k : Fin 16, Go.Lib.indexByte hexes (hexes.getD k.val 0) = (k.val : Int) := by decide +kernel
theorem hexes_at : ∀ n : Fin 256, 0 ≤ Go.Lib.indexByte hexes (UInt8.ofNat n.val) → hexes.getD (Go.Lib.indexByte hexes (UInt8.ofNat n.val)).toNat 0 = UInt8.ofNat n.val := by decide +kernel
theorem upTo_hit {c : UInt8} {k : Nat} (hk : k < 16) (h : hexes.getD k 0 = c) : upTo c k = 0 ∧ upTo c (k + 1) = k := by
  have e := hexes_idx ⟨k, hk⟩
  simp only at e
  rw [h] at e
  unfold upTo
  rw [e]
  constructor
  · rw [if_neg (by omega)]
  · rw [if_pos (by omega)]; simp
theorem upTo_miss {c : UInt8} {k : Nat} (hk : k < 16) (h : hexes.getD k 0 ≠ c) : upTo c (k + 1) = upTo c k := by
  have e := hexes_at ⟨c.toNat, c.toNat_lt⟩
  simp only [UInt8.ofNat_toNat] at e
  unfold upTo
  by_cases h0 : 0 ≤ Go.Lib.indexByte hexes c
  · have e := e h0
    have hne : (Go.Lib.indexByte hexes c).toNat ≠ k := fun hh => h (by rw [← hh]; exact e)
    by_cases h1 : (Go.Lib.indexByte hexes c).toNat < k
    · rw [if_pos ⟨h0, by omega⟩, if_pos ⟨h0, h1⟩]
    · rw [if_neg (by omega), if_neg (by omega)]
  · rw [if_neg (by omega), if_neg (by omega)]
theorem unhexR_take : ∀ (m : Nat) (l : Bs) (a b : UInt8), l[2 * m]? = some a → l[2 * m + 1]? = some b → unhexR (l.take (2 * m + 2)) = unhexR (l.take (2 * m)) ++ [UInt8.ofNat (16 * hx a + hx b)]
  | 0, x :: y :: r, a, b, h1, h2 => by
    simp at h1 h2
    subst h1; subst h2
    rfl
  | m + 1, x :: y :: r, a, b, h1, h2 => by
    have ih := unhexR_take m r a b (by rw [← h1]; rw [show 2 * (m + 1) = 2 * m + 2 by omega]; rfl) (by rw [← h2]; rw [show 2 * (m + 1) + 1 = 2 * m + 1 + 2 by omega]; rfl)
    rw [show 2 * (m + 1) + 2 = (2 * m + 2) + 2 by omega, show 2 * (m + 1) = 2 * m + 2 by omega]
    show UInt8.ofNat (16 * hx x + hx y) :: unhexR (r.take (2 * m + 2)) = UInt8.ofNat (16 * hx x + hx y) :: unhexR (r.take (2 * m)) ++ _
    rw [ih]; rfl
  | m, [], a, b, h1, h2 => by simp at h1
  | 0, [x], a, b, h1, h2 => by simp at h2
  | m + 1, [x], a, b, h1, h2 => by simp at h1
theorem unhexR_len : ∀ l : Bs, (unhexR l).length = l.length / 2
  | [] => rfl
  | [_] => by simp [unhexR]
  | a :: b :: r => by
    have := unhexR_len r
    show (unhexR r).length + 1 = _
    rw [this]; simp; omega
theorem unhexR_end (l : Bs) (m : Nat) (h1 : 2 * m ≤ l.length) (h2 : ¬ 2 * m + 1 < l.length) : unhexR (l.take (2 * m)) = unhexR l := by
  have key : ∀ (m : Nat) (l : Bs), 2 * m ≤ l.length → l.length ≤ 2 * m + 1 → unhexR (l.take (2 * m)) = unhexR l := by
    intro m
    induction m with
    | zero =>
      intro l h1 h2
      match l with
      | [] => rfl
      | [_] => rfl
      | a :: b :: r => simp at h2
    | succ m ih =>
      intro l h1 h2
      match l with
      | [] => simp at h1
      | [_] => simp at h1; omega
      | a :: b :: r =>
        rw [show 2 * (m + 1) = 2 * m + 2 by omega]
        show UInt8.ofNat (16 * hx a + hx b) :: unhexR (r.take (2 * m)) = UInt8.ofNat (16 * hx a + hx b) :: unhexR r
        rw [ih r (by simp at h1; omega) (by simp at h2; omega)]
  exact key m l h1 (by omega)
theorem hexes_get {k : Nat} (hk : k < 16) {h : k < (mk hexes).size} : (mk hexes)[k] = hexes.getD k 0 := by
  have hlt : k < hexes.length := hk
  rw [mk_get' (l := hexes) (List.getElem?_eq_getElem hlt)]
  simp [List.getD, hlt]

theorem own_drewN {w : World} {base : Nat} {e : TypeId} {size : Nat} {v : Value} {n : Nat} {xs : List Value} (h : w.ownsRow base e size v n xs) (q : Nat) : (w.drewN q).ownsRow base e size v n xs := h

theorem conv_nil (w : World) : (convert 92 9 (.slice none 0 0)).run Tryz.prog w = .ok (.string (mk [])) w := by
  simp [convert, go_sem]
  rfl

set_option maxHeartbeats 4000000 in
set_option maxRecDepth 100000 in
theorem rUnhex_any {w : World} (l : Bs) (hl : l.length ≤ 1000000) : Calls Tryz.prog 34 #[.string (mk l)] w fun e w' => e = .returned (.string (mk (unhexV l))) ∧ Below w.heap.size w w' := by
  have hlen : (mk l).size = l.length := mk_size l
  obtain ⟨i0, hi0, hz0, hz1, hz2⟩ := info_parts u8Info
  have HI := Lib.hid (And.intro hi0 (And.intro hz0 (And.intro hz1 hz2))); clear hi0 hz0 hz1 hz2
  go_enter Tryz.func34, Tryz.ntmps34
  go_upto_region 4 with fail
  obtain ⟨X, hX⟩ : ∃ X : ByteArray, X = ⟨#[48, 49, 50, 51, 52, 53, 54, 55, 56, 57, 97, 98, 99, 100, 101, 102]⟩ := ⟨_, rfl⟩
  rw [← hX]
  have hxs : X.size = 16 := by rw [hX]; rfl
  have HX := Lib.hid (show X = mk hexes from hX)
  clear hX
  go_loopw [4, 5] (fun s4 s5 wr => ∃ m : Nat, 2 * m ≤ l.length ∧ s5 = .int .i64 ((2 * m : Nat) : Int) ∧ wr.ownsRow w.heap.size 5 1 s4 m (bytesV (unhexR (l.take (2 * m)))) ∧ Below w.heap.size w wr) (fun _ s5 _ => l.length + 1 - (RowKit.intOf s5).toNat)
  case atStart => exact ⟨0, by omega, rfl, World.ownsRow_nil _ _ _ _, Below.refl _ _⟩
  case round =>
    obtain ⟨m, hm, rfl, hown, hbel⟩ := hrel
    have HO := Lib.hid (And.intro hown hbel); clear hown hbel
    obtain ⟨i, hi⟩ : ∃ i, i = 2 * m := ⟨_, rfl⟩
    have HII := Lib.hid hi
    have him : i ≤ l.length := by omega
    rw [← hi]
    clear hi hm
    have w1 : IntKind.i64.wrap ((i : Int) + 1) = (i : Int) + 1 := IntWalk.i64_in _ (by omega)
    by_cases hlt : i + 1 < l.length
    · obtain ⟨a, ha⟩ : ∃ a, l[i]? = some a := ⟨_, List.getElem?_eq_getElem (by omega)⟩
      obtain ⟨b, hb⟩ : ∃ b, l[i + 1]? = some b := ⟨_, List.getElem?_eq_getElem hlt⟩
      have hlt' : (i : Int) + 1 < l.length := by omega
      have HAB := Lib.hid (And.intro ha hb); clear ha hb
      go_upto_region 8 with fail
      go_loopw [6, 7] (fun s6 s7 wx => ∃ k : Nat, k ≤ 16 ∧ s7 = .int .i64 k ∧ s6 = .int .i64 ((16 * upTo a k + upTo b k : Nat) : Int) ∧ wx.ownsRow w.heap.size 5 1 u4 m (bytesV (unhexR (l.take (2 * m)))) ∧ Below w.heap.size w wx) (fun _ s7 _ => 16 - (RowKit.intOf s7).toNat)
      case atStart =>
        refine ⟨0, by omega, rfl, ?_, HO.out.1, HO.out.2⟩
        have e1 : upTo a 0 = 0 := by unfold upTo; rw [if_neg (by omega)]
        have e2 : upTo b 0 = 0 := by unfold upTo; rw [if_neg (by omega)]
        rw [e1, e2]; rfl
      case round =>
        obtain ⟨k, hk, rfl, rfl, hown, hbel⟩ := hrel
        have HR := Lib.hid (And.intro hown hbel); clear hown hbel
        by_cases hk16 : k < 16
        · have hai : (mk l)[i]'(by rw [mk_size]; omega) = a := mk_get' HAB.out.1
          have hbi : (mk l)[i + 1]'(by rw [mk_size]; omega) = b := mk_get' HAB.out.2
          obtain ⟨c, hc⟩ : ∃ c, c = hexes.getD k 0 := ⟨_, rfl⟩
          have hxk : X[k]'(by omega) = c := by
            have e := HX.out
            subst e
            rw [hc]; exact hexes_get hk16
          have HC := Lib.hid hc; clear hc
          obtain ⟨na, hna⟩ : ∃ na, na = upTo a k := ⟨_, rfl⟩
          obtain ⟨nb, hnb⟩ : ∃ nb, nb = upTo b k := ⟨_, rfl⟩
          have la : na ≤ 15 := by rw [hna]; exact upTo_le a k
          have lb : nb ≤ 15 := by rw [hnb]; exact upTo_le b k
          rw [← hna, ← hnb]
          have HNA := Lib.hid (And.intro hna hnb); clear hna hnb
          have p1 : ((i : Int) + 1).toNat = i + 1 := by omega
          have p2 : (0 : Int) ≤ (i : Int) + 1 := by omega
          by_cases ea : c = a
          · have q1 : (c.toNat == a.toNat) = true := by rw [ea]; simp
            have UA := Lib.hid (upTo_hit (c := a) hk16 (HC.out.symm.trans ea))
            have ha0 : na = 0 := by have := HNA.out.1; have := UA.out.1; omega
            clear ea
            by_cases eb : c = b
            · have q2 : (c.toNat == b.toNat) = true := by rw [eb]; simp
              have UB := Lib.hid (upTo_hit (c := b) hk16 (HC.out.symm.trans eb))
              have hb0 : nb = 0 := by have := HNA.out.2; have := UB.out.1; omega
              clear eb
              go_upto_region 10 with fail
              go_quiet (fail)
              go_upto_region 12 with fail
              go_quiet (fail)
              go_wp2_with fail
              go_roundw
              case rel =>
                refine ⟨k + 1, by omega, by go_num, ?_, own_drewN HR.out.1 _, below_drewN HR.out.2 _⟩
                have U1 := UA.out
                have U2 := UB.out
                have A1 := HNA.out.1
                have A2 := HNA.out.2
                have k1 : upTo a (k + 1) = k := by omega
                have k2 : upTo b (k + 1) = k := by omega
                rw [k1, k2]
                all_goals go_num
              case measure => simp [RowKit.intOf]; omega
            · have q2 : (c.toNat == b.toNat) = false := by rw [beq_eq_false_iff_ne]; intro e; exact eb (UInt8.toNat_inj.1 e)
              have UB := Lib.hid (upTo_miss (c := b) hk16 (fun e => eb (HC.out.trans e)))
              clear eb
              go_upto_region 10 with fail
              go_quiet (fail)
              go_upto_region 12 with fail
              go_quiet (fail)
              go_wp2_with fail
              go_roundw
              case rel =>
                refine ⟨k + 1, by omega, by go_num, ?_, own_drewN HR.out.1 _, below_drewN HR.out.2 _⟩
                have U1 := UA.out
                have U2 := UB.out
                have A1 := HNA.out.1
                have A2 := HNA.out.2
                have k1 : upTo a (k + 1) = k := by omega
                have k2 : upTo b (k + 1) = nb := by omega
                rw [k1, k2]
                all_goals go_num
              case measure => simp [RowKit.intOf]; omega
          · have q1 : (c.toNat == a.toNat) = false := by rw [beq_eq_false_iff_ne]; intro e; exact ea (UInt8.toNat_inj.1 e)
            have UA := Lib.hid (upTo_miss (c := a) hk16 (fun e => ea (HC.out.trans e)))
            clear ea
            by_cases eb : c = b
            · have q2 : (c.toNat == b.toNat) = true := by rw [eb]; simp
              have UB := Lib.hid (upTo_hit (c := b) hk16 (HC.out.symm.trans eb))
              have hb0 : nb = 0 := by have := HNA.out.2; have := UB.out.1; omega
              clear eb
              go_upto_region 10 with fail
              go_quiet (fail)
              go_upto_region 12 with fail
              go_quiet (fail)
              go_wp2_with fail
              go_roundw
              case rel =>
                refine ⟨k + 1, by omega, by go_num, ?_, own_drewN HR.out.1 _, below_drewN HR.out.2 _⟩
                have U1 := UA.out
                have U2 := UB.out
                have A1 := HNA.out.1
                have A2 := HNA.out.2
                have k1 : upTo a (k + 1) = na := by omega
                have k2 : upTo b (k + 1) = k := by omega
                rw [k1, k2]
                all_goals go_num
              case measure => simp [RowKit.intOf]; omega
            · have q2 : (c.toNat == b.toNat) = false := by rw [beq_eq_false_iff_ne]; intro e; exact eb (UInt8.toNat_inj.1 e)
              have UB := Lib.hid (upTo_miss (c := b) hk16 (fun e => eb (HC.out.trans e)))
              clear eb
              go_upto_region 10 with fail
              go_quiet (fail)
              go_upto_region 12 with fail
              go_quiet (fail)
              go_wp2_with fail
              go_roundw
              case rel =>
                refine ⟨k + 1, by omega, by go_num, ?_, own_drewN HR.out.1 _, below_drewN HR.out.2 _⟩
                have U1 := UA.out
                have U2 := UB.out
                have A1 := HNA.out.1
                have A2 := HNA.out.2
                have k1 : upTo a (k + 1) = na := by omega
                have k2 : upTo b (k + 1) = nb := by omega
                rw [k1, k2]
                all_goals go_num
              case measure => simp [RowKit.intOf]; omega
        · obtain rfl : k = 16 := by omega
          have hx1 := upTo_le a 16
          have hx2 := upTo_le b 16
          obtain ⟨n, hn⟩ : ∃ n, n = 16 * upTo a 16 + upTo b 16 := ⟨_, rfl⟩
          rw [← hn]
          have hn255 : n ≤ 255 := by omega
          have wn : IntKind.u8.wrap (n : Int) = n := IntWalk.u8_in _ (by omega)
          have HNN := Lib.hid hn; clear hn hx1 hx2
          have hvn : (.int .u8 (n : Int) : Value) = .int .u8 ((UInt8.ofNat n).toNat : Int) := by
            congr 1; simp [UInt8.toNat_ofNat']; omega
          have HVN := Lib.hid hvn; clear hvn
          go_wp2_with (at_builtin; refine wpList_append_any _ rfl _ _ 92 rfl w.heap.size 5 i0 _ 1 1 Tryz.underlying92 HI.out.1 HI.out.2.1 HI.out.2.2.1 HI.out.2.2.2 rfl (by omega) u4 m _ rfl (own_next (w := wr) HR.out.1 ((Below.refl _ _).alloc (Nat.le_refl _) _)) (wr.heap.size + 1) (some ⟨wr.heap.size, 0, none⟩) 1 1 [.int .u8 (n : Int)] rfl ?hr ?h1 ?h63 ?hby ?hbase ?_)
          case hr =>
            refine ⟨rfl, fun _ => ⟨_, rfl, Nat.lt_succ_self _, fun j u hj => ?_⟩⟩
            obtain rfl : j = 0 := by
              have := (List.getElem?_eq_some_iff.1 hj).1; simpa using this
            rw [add_plain]
            have := (Blk.new wr 5 #[.int .u8 (n : Int)]).cell 0
            rw [← hj]; exact this
          case h1 => intro u hu; simp only [List.mem_singleton] at hu; subst hu; rfl
          case h63 => have := HII.out; unfold maxLen; omega
          case hby => have := HII.out; omega
          case hbase => have := HR.out.2.size; simp; omega
          intro v2 w2 o2 g2 _
          have HG := Lib.hid (And.intro o2 g2); clear o2 g2
          go_wp2_with fail
          go_roundw
          case rel =>
            refine ⟨m + 1, by have := HII.out; omega, by have := HII.out; go_num, ?_, ?_⟩
            · have e : unhexR (l.take (2 * (m + 1))) = unhexR (l.take (2 * m)) ++ [UInt8.ofNat n] := by
                rw [show 2 * (m + 1) = 2 * m + 2 by omega, unhexR_take m l a b (by rw [← HII.out]; exact HAB.out.1) (by rw [← HII.out]; exact HAB.out.2), HNN.out, upTo_all, upTo_all]
              rw [e, bytesV_append]
              have := HG.out.1
              rw [HVN.out] at this
              exact this
            · exact (HR.out.2.alloc HR.out.2.size _).grown HG.out.2 (by have := HR.out.2.size; simp; omega) (fun g hg => (HR.out.1.lt g hg).1)
          case measure => have := HII.out; simp [RowKit.intOf]; omega
    · have hlt' : ¬ (i : Int) + 1 < l.length := by omega
      have HE := Lib.hid (unhexR_end l m (by have := HII.out; omega) (by have := HII.out; omega))
      have hcv : (convert 92 9 u4).run Tryz.prog wr = .ok (.string (mk (unhexR l))) wr := by
        have ho := HO.out.1
        rw [HE.out] at ho
        rcases ho.2 with ⟨hv, h0⟩ | ⟨g, cap, cur, hv, _⟩
        · have hnil : unhexR l = [] := by
            have h1 := ho.1
            rw [h0, bytesV, List.length_map] at h1
            exact List.eq_nil_of_length_eq_zero (by omega)
          rw [hv, hnil]
          exact conv_nil wr
        · have hlm : (unhexR l).length = m := by
            have h1 := ho.1
            rw [bytesV, List.length_map] at h1; omega
          rw [hv]
          have := run_convert_bytes_back (P := Tryz.prog) wr 92 9 5 ⟨g, 0, none⟩ cap (unhexR l) Tryz.underlying92 Tryz.underlying5 Tryz.underlying9 (fun j hj => ho.cells (g := g) (by rw [hv]; rfl) j _ (by rw [bytesV, List.getElem?_map, List.getElem?_eq_getElem hj]; rfl))
          rw [hlm] at this
          exact this
      clear w1
      by_cases h45 : l = [45]
      · subst h45
        go_wp2_with fail
        go_ret
        exact ⟨rfl, HO.out.2⟩
      · have q45 : (l == [45]) = false := by simpa using h45
        have HV := Lib.hid (show unhexV l = unhexR l from if_neg h45); clear h45
        go_wp2_with fail
        go_ret
        exact ⟨by rw [HV.out]; rfl, HO.out.2⟩

end Go.Proofs.YtbpbkmhipbchbaaGreatDoor.sc
