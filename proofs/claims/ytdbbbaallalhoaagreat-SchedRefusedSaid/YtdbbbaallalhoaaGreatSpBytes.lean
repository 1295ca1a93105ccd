/-
  PROVED HERE: the contracts of 'bytes' and Image: the bytes of words, the lowest ones first. Conditions: the words fit; Image: the receiver is a memory.
-/
import Derived.Test.YtdbbbaallalhoaaGreatSpW
import Derived.Laws.Shifts
namespace Go.Proofs.YtdbbbaallalhoaaGreat.pm
open Go.RowKit

/-- The first k bytes of a word, and all eight; those of words. -/
def leB : Nat → Int → List Int
  | 0, _ => []
  | k + 1, x => x % 256 :: leB k (x / 256)
def bytesOf : List Int → List Int
  | [] => []
  | x :: r => leB 8 x ++ bytesOf r
theorem leB_length : ∀ (k : Nat) (x : Int), (leB k x).length = k
  | 0, _ => rfl
  | k + 1, x => by simp [leB, leB_length k]
theorem leB_snoc : ∀ (k : Nat) (x : Int), leB (k + 1) x = leB k x ++ [x / 256 ^ k % 256]
  | 0, x => by simp [leB]
  | k + 1, x => by
    have ih := leB_snoc k (x / 256)
    rw [leB, ih, leB]
    have : x / 256 / 256 ^ k = x / 256 ^ (k + 1) := by
      rw [Int.ediv_ediv_of_nonneg (by decide), Int.pow_succ, Int.mul_comm]
    rw [this]; rfl
theorem bytesOf_length : ∀ l : List Int, (bytesOf l).length = 8 * l.length
  | [] => rfl
  | x :: r => by simp [bytesOf, leB_length, bytesOf_length r]; omega
theorem bytesOf_snoc : ∀ (l : List Int) (x : Int), bytesOf (l ++ [x]) = bytesOf l ++ leB 8 x
  | [], x => by simp [bytesOf]
  | y :: r, x => by simp [bytesOf, bytesOf_snoc r x]

theorem u8Info : (Tryz.prog.info? 5).map (fun i => (i.zero, i.size, i.bytes)) = some (some (.int .u8 0), 1, 1) := by kernel_rfl

set_option maxRecDepth 100000 in
set_option maxHeartbeats 1000000 in
theorem bytes_any {w : World} {v : Value} {ws : List Int} (h : Reads w v ws.length (ws.map (Value.int .u64))) (hws : ∀ x ∈ ws, U64 x) (hn : ws.length ≤ 131072) :
    Calls Tryz.prog 31 #[v] w fun e w' => ∃ v', e = .returned v' ∧ RowAt w' 5 1 v' (8 * ws.length) ((bytesOf ws).map (Value.int .u8)) ∧ Keeps [] w w' ∧ ∀ g, v'.ownBlock = some g → w.heap.size ≤ g := by
  have hlen : ∃ ao cp, v = .slice ao ws.length cp := by
    rcases h with ⟨rfl, h2, _⟩ | ⟨a, cap, rfl, _⟩
    · exact ⟨none, 0, by rw [h2]⟩
    · exact ⟨_, _, rfl⟩
  obtain ⟨ao, cp, rfl⟩ := hlen
  go_enter Tryz.func31, Tryz.ntmps31
  obtain ⟨i0, hi0, hz0, hz1, hz2⟩ := info_parts u8Info
  go_wp2_with (at_make; refine wpList_make_own _ rfl _ _ 33 rfl w.heap.size 5 i0 (.int .u8 0) 1 Tryz.underlying33 hi0 hz0 hz1 .i64 .i64 (8 * (ws.length : Int)) (8 * ws.length) rfl rfl (by omega) (by rw [hz2]; omega) (by unfold maxLen; omega) (Nat.le_refl _) ?_)
  intro W hown hgr
  have hkW : Keeps [] w W := Keeps.grown hgr
  have hrow0 := RowAt.of_own hown
  have hRk : ∀ wr : World, Keeps [] w wr → Reads wr (.slice ao ws.length cp) ws.length (ws.map (Value.int .u64)) := fun wr hk => by
    rcases h with ⟨e, h2, h3⟩ | ⟨a, cap, e, h2, h3⟩
    · exact .inl ⟨e, h2, h3⟩
    · exact .inr ⟨a, cap, e, h2, fun j u hj => by
        have hc := h3 j u hj
        have hlt := World.block_lt_of_cell? _ _ hc
        rw [World.cell?_of_block (hk.block _ hlt (by simp))]; exact hc⟩
  have HRK := Lib.hid hRk; clear hRk
  have HH := Lib.hid h; clear h
  have HWS := Lib.hid hws; clear hws
  clear hown hgr
  go_wp2_with fail
  go_loopw [3, 5, 12] (fun s3 _ s12 wr => ∃ j : Nat, j ≤ ws.length ∧ s12 = .int .i64 j ∧ RowAt wr 5 1 s3 (8 * j) ((bytesOf (ws.take j)).map (Value.int .u8)) ∧ Keeps [] w wr ∧ ∀ g, s3.ownBlock = some g → w.heap.size ≤ g) (fun _ _ s12 _ => ws.length - (intOf s12).toNat)
  case atStart =>
    exact ⟨0, Nat.zero_le _, rfl, by simpa [bytesOf] using hrow0, hkW, fun g hg => by cases hg; exact Nat.le_refl _⟩
  case round =>
    obtain ⟨j, hj, rfl, hrow, hk, hown⟩ := hrel
    by_cases hlt : j < ws.length
    · obtain ⟨x, hx⟩ : ∃ x, ws[j]? = some x := ⟨_, List.getElem?_eq_getElem hlt⟩
      have hxb := HWS.out x (List.mem_of_getElem? hx)
      obtain ⟨hx0, hx1⟩ := hxb
      have hR := HRK.out wr hk
      obtain ⟨a, rfl, ha, hc⟩ : ∃ a, ao = some a ∧ a.spot = none ∧ ∀ (j : Nat) (u : Value), (ws.map (Value.int .u64))[j]? = some u → wr.cell? ⟨a.block, a.off + j, none⟩ = some u := by
        rcases hR with ⟨e, h2, _⟩ | ⟨a, cap, e, h2, h3⟩
        · omega
        · exact ⟨a, (Value.slice.inj e).1, h2, h3⟩
      obtain ⟨ab, aoff, asp⟩ := a
      cases ha
      have c0 : wr.cell? ⟨ab, aoff + j, none⟩ = some (.int .u64 x) := hc j _ (by simp [hx])
      have HX := Lib.hid hx; clear hx
      have HC := Lib.hid hc; clear hc
      clear hR
      go_wp2_with fail
      obtain ⟨wo, rfl⟩ : ∃ wo : World, wo = wr := ⟨_, rfl⟩
      clear c0
      go_loopw [3, 5, 16] (fun s3 s5 s16 wr => ∃ i : Nat, i ≤ 8 ∧ s16 = .int .i64 i ∧ s5 = .int .u64 (x / 256 ^ i) ∧ RowAt wr 5 1 s3 (8 * j + i) ((bytesOf (ws.take j)).map (Value.int .u8) ++ (leB i x).map (Value.int .u8)) ∧ Keeps [] w wr ∧ ∀ g, s3.ownBlock = some g → w.heap.size ≤ g) (fun _ _ s16 _ => 8 - (intOf s16).toNat)
      case atStart => exact ⟨0, Nat.zero_le _, rfl, by simp, by simpa [leB] using hrow, hk, hown⟩
      case round =>
        obtain ⟨i, hi, rfl, rfl, hrow2, hk2, hown2⟩ := hrel
        by_cases hlt2 : i < 8
        · have hy0 : 0 ≤ x / 256 ^ i := Int.ediv_nonneg hx0 (Int.pow_nonneg (by decide))
          have hy1 : x / 256 ^ i ≤ 18446744073709551615 := Int.le_trans (Int.ediv_le_self _ hx0) hx1
          generalize hy : x / 256 ^ i = y at hy0 hy1 ⊢
          have HY := Lib.hid hy; clear hy
          go_wp2_with (at_builtin; refine wpList_append_row _ rfl _ _ 33 rfl 5 i0 (.int .u8 0) 1 1 Tryz.underlying33 hi0 hz0 hz1 hz2 rfl _ (.slice (some ⟨wr.heap.size, 0, none⟩) 1 1) rfl rfl (8 * j + i) _ (hrow2.same fun g hg => (MapKept.heap_alloc wr _).2 g (hrow2.lt hg)) 1 [.int .u8 (y % 256)] ?hr rfl ?ho ?hm ?hby ?_)
          case hr => exact .inr ⟨⟨wr.heap.size, 0, none⟩, 1, rfl, rfl, fun j u hj => by
            have hc := alloc_new (w := wr) (o := .cells #[.int .u8 (y % 256)] 5)
            match j, hj with
            | 0, hj => cases hj; exact cell_of hc rfl⟩
          case ho => intro u hu; simp only [List.mem_singleton] at hu; subst hu; rfl
          case hm => unfold maxLen; omega
          case hby => omega
          intro v' w1 hrow' hgrow hblk' g' off' cap' hsl
          subst hsl
          have HY2 := Lib.hid (show y / 256 = x / 256 ^ (i + 1) by rw [← HY.out, Int.ediv_ediv_of_nonneg (Int.pow_nonneg (by decide))]; rfl)
          go_wp2_with fail
          go_roundw
          case rel =>
            refine ⟨i + 1, by omega, by go_num, ?_, ?_, ?_, ?_⟩
            · rw [← HY2.out]
            · rw [leB_snoc, HY.out, List.map_append, ← Nat.add_assoc]
              exact hrow'
            · refine (hk2.trans ((Keeps.alloc wr _).mono (G := []) (by simp)) (by simp)).trans (Keeps.grown hgrow) (fun i hi => .inr ?_)
              exact hown2 i (by simpa using hi)
            · intro g hg
              rcases hblk' with h1 | ⟨g2, h1, h2⟩
              · exact hown2 g (by rw [← h1]; exact hg)
              · rw [h1] at hg; cases hg; have := hk2.size; omega
          case measure => simp [intOf]; omega
        · obtain rfl : i = 8 := by omega
          go_wp2_with fail
          go_roundw
          case rel =>
            refine ⟨j + 1, by omega, by go_num, ?_, hk2, hown2⟩
            have e1 : ws.take (j + 1) = ws.take j ++ [x] := by rw [List.take_add_one, HX.out]; rfl
            rw [e1, bytesOf_snoc, List.map_append]
            exact hrow2
          case measure => simp [intOf]; omega
    · obtain rfl : j = ws.length := by omega
      go_wp2_with fail
      go_ret
      refine ⟨_, rfl, ?_, hk, hown⟩
      rw [List.take_length] at hrow
      exact hrow

theorem RowAt.readsOf {w : World} {T : TypeId} {n : Nat} {v : Value} {xs : List Value} (h : RowAt w T 1 v n xs) : Reads w v n xs := h.reads
end Go.Proofs.YtdbbbaallalhoaaGreat.pm
