/-
  PROVED HERE: slices.Chunk's iterator over bytes, in pieces of eight. Conditions: the bytes are of whole pieces, at most 2^20.
-/
import Derived.Test.YtdbbbaallalhoaaGreatSpClone
import Derived.Laws.Bits64b
namespace Go.Proofs.YtdbbbaallalhoaaGreat.pm
open Go.RowKit Go.Shelf Go.Proofs.YtdbbbaallalhoaaGreat.rn
set_option linter.unusedVariables false
attribute [local go_sem] Oper.semAt_some

/-- The word of bytes, the lowest one first. -/
def wd : List Int → Int
  | [] => 0
  | b :: r => b + 256 * wd r
def Byte (b : Int) : Prop := 0 ≤ b ∧ b ≤ 255
theorem wd_snoc : ∀ (l : List Int) (b : Int), wd (l ++ [b]) = wd l + b * 256 ^ l.length
  | [], b => by simp [wd]
  | c :: r, b => by
    rw [List.cons_append, wd, wd_snoc r b, wd, List.length_cons, Int.pow_succ, Int.mul_add, ← Int.mul_assoc b, Int.mul_comm (b * 256 ^ r.length), Int.add_assoc]
theorem wd_bound : ∀ (l : List Int), (∀ b ∈ l, Byte b) → 0 ≤ wd l ∧ wd l < 256 ^ l.length
  | [], _ => by simp [wd]
  | b :: r, h => by
    have h1 := wd_bound r fun c hc => h c (List.mem_cons_of_mem _ hc)
    have h2 := h b (List.mem_cons_self ..)
    unfold Byte at h2
    rw [wd, List.length_cons, Int.pow_succ]
    omega
/-- The words of m pieces. -/
def pieceAt (bs : List Int) (k : Nat) : List Int := (bs.drop (8 * k)).take 8
def wordsOf (bs : List Int) (m : Nat) : List Int := (List.range m).map fun k => wd (pieceAt bs k)
theorem wordsOf_succ (bs : List Int) (m : Nat) : wordsOf bs (m + 1) = wordsOf bs m ++ [wd (pieceAt bs m)] := by simp [wordsOf, List.range_succ]
theorem wordsOf_length (bs : List Int) (m : Nat) : (wordsOf bs m).length = m := by simp [wordsOf]
theorem wd_zero : ∀ n : Nat, wd (List.replicate n 0) = 0
  | 0 => rfl
  | n + 1 => by rw [List.replicate_succ, wd, wd_zero n]; rfl
theorem wordsOf_zero (n m : Nat) : wordsOf (List.replicate n 0) m = List.replicate m 0 := by
  apply List.ext_getElem?
  intro i
  simp only [wordsOf, List.getElem?_map, List.getElem?_replicate, pieceAt, List.drop_replicate, List.take_replicate, wd_zero]
  by_cases h : i < m
  · simp [h]
  · simp [h]

/-- One more byte of a word. -/
theorem or_byte (l : List Int) (b : Int) (hl : l.length < 8) (h : ∀ c ∈ l, Byte c) (hb : Byte b) :
    IntKind.u64.wrap (b * 2 ^ min (8 * (l.length : Int)).toNat 64) = b * 256 ^ l.length ∧ bits .or .u64 (wd l) (b * 256 ^ l.length) = wd (l ++ [b]) := by
  obtain ⟨h0, h1⟩ := wd_bound l h
  have hp : (256 : Int) ^ l.length ≤ 256 ^ 7 := by
    obtain ⟨n, hn⟩ : ∃ n, n = l.length := ⟨_, rfl⟩
    rw [← hn] at hl ⊢
    match n, hl with
    | 0, _ | 1, _ | 2, _ | 3, _ | 4, _ | 5, _ | 6, _ | 7, _ => decide
    | n + 8, h => omega
  have hpp : (0 : Int) < 256 ^ l.length := Int.pow_pos (by decide)
  have he : (2 : Int) ^ min (8 * (l.length : Int)).toNat 64 = 256 ^ l.length := by
    have : min (8 * (l.length : Int)).toNat 64 = 8 * l.length := by omega
    rw [this, Int.pow_mul]; rfl
  have hm : b * 256 ^ l.length ≤ 255 * 256 ^ 7 := Int.le_trans (Int.mul_le_mul_of_nonneg_right hb.2 (Int.le_of_lt hpp)) (Int.mul_le_mul_of_nonneg_left hp (by decide))
  have hm0 : 0 ≤ b * 256 ^ l.length := Int.mul_nonneg hb.1 (Int.le_of_lt hpp)
  rw [he]
  refine ⟨IntWalk.u64_in _ ⟨hm0, Int.le_trans hm (by decide)⟩, ?_⟩
  rw [wd_snoc]
  obtain ⟨x, hx⟩ := Int.eq_ofNat_of_zero_le h0
  obtain ⟨bn, hbn⟩ := Int.eq_ofNat_of_zero_le hb.1
  obtain ⟨q, hq⟩ : ∃ q, q = l.length := ⟨_, rfl⟩
  have hq2 : (((2 ^ 8) ^ q : Nat) : Int) = 256 ^ q := Int.natCast_pow _ _
  rw [← hq] at h1 hm hm0 hp ⊢
  obtain ⟨r, hr⟩ : ∃ r, r = 2 ^ (8 * q) := ⟨_, rfl⟩
  have hr2 : ((r : Nat) : Int) = 256 ^ q := by rw [hr, Nat.pow_mul]; exact hq2
  rw [← hr2] at h1 hm hm0 hp ⊢
  rw [hx] at h1 ⊢
  rw [hbn] at hm hm0 ⊢
  rw [← Int.natCast_mul, Nat.mul_comm] at hm hm0 ⊢
  rw [bits_or_u64_nat _ _ (by omega) (by omega), Nat.or_comm, hr, ← Nat.two_pow_add_eq_or_of_lt (by omega)]
  omega

def pieceEnc (g off : Nat) (k : Nat) : Array Value := #[.slice (some ⟨g, off + 8 * k, none⟩) 8 8]

set_option maxRecDepth 100000 in
set_option maxHeartbeats 1000000 in
theorem chunk1_seq (n : Nat) (hn : 1 ≤ n) (bx bn g off cap m : Nat) (w : World) (hc : w.cell? ⟨bx, 0, none⟩ = some (.slice (some ⟨g, off, none⟩) (8 * m) cap)) (hc2 : w.cell? ⟨bn, 0, none⟩ = some (.int .i64 8)) (hm : m ≤ 1000000) (hcap : 8 * m ≤ cap) (hcap2 : cap ≤ maxLen) :
    SeqN Fence.wide n Tryz.prog 73 #[.pointer (some ⟨bx, 0, none⟩), .pointer (some ⟨bn, 0, none⟩)] (pieceEnc g off) (fun _ _ W W' => W'.heap[bx]? = W.heap[bx]? ∧ W'.heap[bn]? = W.heap[bn]?) (fun _ _ pre x _ => x = pre.length ∧ x < m) (fun xs => xs = List.range m) (fun _ => True) m w := by
  intro l J Jx W hW hJ hJx hY h0
  have d1 : W.cell? ⟨bx, 0, none⟩ = some (.slice (some ⟨g, off, none⟩) (8 * m) cap) := (hW.cell (p := ⟨bx, 0, none⟩) (World.block_lt_of_cell? _ _ hc)).trans hc
  have d2 : W.cell? ⟨bn, 0, none⟩ = some (.int .i64 8) := (hW.cell (p := ⟨bn, 0, none⟩) (World.block_lt_of_cell? _ _ hc2)).trans hc2
  have hJ0 := h0 none (fun k e => by cases e)
  clear hc hc2 hW h0
  have HY := Lib.hid hY; clear hY
  have HJ := Lib.hid hJ; clear hJ
  have HJx := Lib.hid hJx; clear hJx
  refine callsIn_of_wp Tryz.func73 rfl trivial ?_ rfl
  simp only [Tryz.ntmps73, List.size_toArray, List.length_cons, List.length_nil, Nat.reduceAdd, Nat.reduceSub, Array.replicate_succ, Array.replicate_zero, List.push_toArray, List.append_toArray, List.nil_append, List.cons_append]
  gi_wp2
  gi_loopw [4] (fun s4 wr => ∃ (k : Nat) (pre : List Nat), s4 = .int .i64 (8 * (k : Int)) ∧ k ≤ m ∧ pre = List.range k ∧ wr.cell? ⟨bx, 0, none⟩ = some (.slice (some ⟨g, off, none⟩) (8 * m) cap) ∧ wr.cell? ⟨bn, 0, none⟩ = some (.int .i64 8) ∧ J none pre wr) (fun s4 _ => 8 * m - (RowKit.intOf s4).toNat)
  case atStart => exact ⟨0, [], rfl, Nat.zero_le _, rfl, d1, d2, hJ0⟩
  case round =>
    obtain ⟨k, pre, rfl, hk, hpre, d1, d2, hJs⟩ := hrel
    by_cases hlt : k < m
    · have hltI : (8 * (k : Int)) < 8 * (m : Int) := by omega
      have hpl : pre.length = k := by rw [hpre, List.length_range]
      have hJd : J none pre wr.drew := HJ.out none pre wr wr.drew none (fun k e => by cases e) hJs ⟨rfl, rfl, rfl, Nat.le_refl _, fun _ _ _ => rfl⟩ (fun r e => by cases e)
      obtain ⟨fn, tmps, assign, body, hy, hRd⟩ := HY.out none pre k wr.drew (fun k e => by cases e) (fun k e => by cases e) hJd ⟨hpl.symm, hlt⟩ (by omega)
      simp only [pieceEnc] at hy
      have HX := Lib.hid (And.intro hpre hJs); clear hpre hJs hpl hJd
      have e1 : (8 * (k : Int)).toNat = 8 * k := by omega
      have e2 : (0 : Int) ≤ 8 * (k : Int) := by omega
      have e3 : 8 * (k : Int) ≤ 8 * (m : Int) := by omega
      have e4 : min (8 : Int) ((8 * m - 8 * k : Nat) : Int) = 8 := by omega
      have e9 : (8 * k + 8 - 8 * k) = 8 := by omega
      have e5 : IntKind.i64.wrap (8 * (k : Int) + 8) = 8 * (k : Int) + 8 := IntWalk.i64_in _ (by omega)
      have e6 : (8 * (k : Int) + 8).toNat = 8 * k + 8 := by omega
      have e7 : (8 * (k : Int) + 8) ≤ (cap : Int) := by omega
      have e8 : (0 : Int) ≤ 8 * (k : Int) + 8 := by omega
      have HD := Lib.hid (And.intro hy hRd); clear hy hRd
      gi_upto_region 3 with fail
      refine wpIn_wide_normal ?_
      go_region
      all_goals
        simp only [onlyNormal]
        obtain ⟨wd, hwd⟩ : ∃ wd, wd = wr.drew := ⟨_, rfl⟩
        rw [← hwd]
        have d1' : wd.cell? ⟨bx, 0, none⟩ = some (.slice (some ⟨g, off, none⟩) (8 * m) cap) := by rw [hwd]; exact d1
        have d2' : wd.cell? ⟨bn, 0, none⟩ = some (.int .i64 8) := by rw [hwd]; exact d2
        obtain ⟨hy, hRd⟩ := HD.out
        rw [← hwd] at hy hRd
        clear hwd
        gi_wp2
        refine hRd.mono ?_
        rintro e W3 (⟨rfl, hJ3, hk3, hk4⟩ | ⟨rfl, hJx3⟩)
        · have f1 : W3.cell? ⟨bx, 0, none⟩ = some (.slice (some ⟨g, off, none⟩) (8 * m) cap) := by rw [World.cell?_of_block hk3]; exact d1'
          have f2 : W3.cell? ⟨bn, 0, none⟩ = some (.int .i64 8) := by rw [World.cell?_of_block hk4]; exact d2'
          have HK := Lib.hid hJ3; clear hJ3 hk3 hk4
          gi_wp2
          go_roundw
          case rel =>
            obtain ⟨hpre, _⟩ := HX.out
            refine ⟨k + 1, pre ++ [k], by go_num, by omega, ?_, f1, f2, HK.out⟩
            rw [hpre, List.range_succ]
          case measure => simp [RowKit.intOf]; omega
        · have HK := Lib.hid hJx3; clear hJx3
          gi_wp2
          refine bodyPost_ret (results_none rfl _ _ _) rfl ?_
          exact ⟨⟨_, rfl⟩, none, (fun k e => by cases e), .inr ⟨_, trivial, HK.out⟩⟩
    · obtain rfl : k = m := by omega
      have HX := Lib.hid (And.intro hpre hJs); clear hpre hJs hk hlt
      gi_wp2
      go_end0
      exact ⟨⟨_, rfl⟩, none, (fun k e => by cases e), .inl ⟨pre, HX.out.1, HX.out.2⟩⟩

/-- slices.Chunk over bytes. -/
theorem chunk_any (v : Value) (hv : ∃ ao n cp, v = .slice ao n cp) (w : World) : Calls Tryz.prog 38 #[v, .int .i64 8] w fun e W' => e = .returned (.func (.func 73) #[] #[.pointer (some ⟨w.heap.size, 0, none⟩), .pointer (some ⟨w.heap.size + 1, 0, none⟩)]) ∧ W' = (w.alloc (.cells #[v] 33)).alloc (.cells #[.int .i64 8] 3) := by
  obtain ⟨ao, n, cp, rfl⟩ := hv
  have d : ((w.alloc (.cells #[.slice ao n cp] 33)).alloc (.cells #[.int .i64 8] 3)).cell? ⟨w.heap.size + 1, 0, none⟩ = some (.int .i64 8) := by
    have := cell_of (w := (w.alloc (.cells #[.slice ao n cp] 33)).alloc (.cells #[.int .i64 8] 3)) (b := (w.alloc (.cells #[.slice ao n cp] 33)).heap.size) (i := 0) alloc_new rfl
    rwa [World.size_alloc] at this
  go_enter Tryz.func38, Tryz.ntmps38
  go_wp2_with fail
  go_ret
  exact ⟨by simp, rfl⟩
end Go.Proofs.YtdbbbaallalhoaaGreat.pm
