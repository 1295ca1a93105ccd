/-
  PROVED HERE: Copy's contract: a memory of the same data, in new memory. Conditions: the receiver is a memory, its lines have few puts.
-/
import Derived.Test.YtfjjiohclokohaaOwn
import Derived.Deep.RegionHeld3
namespace Go.Proofs.Ytfjjiohclokohaa.pm
open Go.RowKit

def CopyPost (w : World) (M : Mod) (e : Ending) (w' : World) : Prop :=
  ∃ b' p' qs, e = .returned (.pointer (some ⟨b', 0, none⟩)) ∧ qs.Perm M.lines ∧ IsMem w' b' p' { M with lines := qs } ∧ Keeps [] w w' ∧ ∀ i ∈ p'.foot b', w.heap.size ≤ i

theorem u64_one : ∀ (l : List Int), ∀ u ∈ l.map (Value.int .u64), u.oneCell' = true := fun l u h => by
  obtain ⟨x, _, rfl⟩ := List.mem_map.1 h; rfl

theorem blks_lt {w : World} {L : List (Int × Value)} {M : List (Int × Line)} (h : LinesAt w L M) {i : Nat} (hi : i ∈ blks L) : i < w.heap.size := by
  obtain ⟨q, hq, hg⟩ := mem_blks.1 hi
  obtain ⟨j, hj⟩ := List.getElem?_of_mem hq
  obtain ⟨l, _, hl⟩ := h.2 j q.1 q.2 hj
  exact hl.lt hg

set_option maxRecDepth 100000 in
set_option maxHeartbeats 2000000 in
theorem copy_any {w : World} {b : Nat} {p : Pl} {M : Mod} (h : IsMem w b p M) (hw : WF M) (hfew : ∀ q ∈ M.lines, q.2.puts.length ≤ 1000000) :
    Calls Try.prog 13 #[.pointer (some ⟨b, 0, none⟩)] w (CopyPost w M) := by
  have hRV : ∀ wx, Keeps [] w wx → IsMem wx b p M := fun wx hk => h.keeps hk (by simp)
  have HRV := Lib.hid hRV; clear hRV
  have hsm := hw.small
  have hsm2 : M.image.length ≤ 131072 := by rw [hw.len]; exact hw.small
  have hS : ∀ wx, Keeps [] w wx → (wx.cell? ⟨b, 0, none⟩ = some (p.view M.view.length) ∧ wx.cell? ⟨b, 1, none⟩ = some (p.image M.image.length) ∧ wx.cell? ⟨b, 2, none⟩ = some (.map (some p.mb)) ∧ wx.cell? ⟨b, 3, none⟩ = some (.int .u64 M.s0) ∧ wx.cell? ⟨b, 4, none⟩ = some (.int .u64 M.s1) ∧ wx.cell? ⟨b, 5, none⟩ = some (.int .u64 M.s2) ∧ wx.cell? ⟨b, 6, none⟩ = some (.int .u64 M.s3) ∧ Keeps [] w wx) := fun wx hk => by
    obtain ⟨c0, c1, c2, c3, c4, c5, c6⟩ := (HRV.out wx hk).blkAt.cells
    exact ⟨c0, c1, c2, c3, c4, c5, c6, hk⟩
  have HS := Lib.hid hS; clear hS
  have hk0 : Keeps [] w w.drew := Keeps.drew w
  have HFEW := Lib.hid hfew; clear hfew
  go_enter Try.func13, Try.ntmps13
  go_wp2_with fail
  refine (there_yes h.blkAt hw.pos).mono ?_; rintro e w' ⟨rfl, rfl⟩
  go_wp2_with fail
  go_region_held3 (fun wx => wx.cell? ⟨b, 0, none⟩ = some (p.view M.view.length) ∧ wx.cell? ⟨b, 1, none⟩ = some (p.image M.image.length) ∧ wx.cell? ⟨b, 2, none⟩ = some (.map (some p.mb)) ∧ wx.cell? ⟨b, 3, none⟩ = some (.int .u64 M.s0) ∧ wx.cell? ⟨b, 4, none⟩ = some (.int .u64 M.s1) ∧ wx.cell? ⟨b, 5, none⟩ = some (.int .u64 M.s2) ∧ wx.cell? ⟨b, 6, none⟩ = some (.int .u64 M.s3) ∧ Keeps [] w wx)
    (first | exact HS.out _ (by assumption) | exact HS.out _ (Keeps.trans (by assumption) (Keeps.alloc _ _) (by simp)))
    (first
      | (go_at_call_of 29 (Pl.view p M.view.length); refine (cloneU64_any (HRV.out _ (by assumption)).view.reads (by simp) (u64_one _) (by omega)).mono ?_; rintro e w1 ⟨v1, rfl, r1, k1, n1, _, s1⟩; obtain ⟨g1, o1, c1, rfl⟩ := s1 _ _ _ rfl; have K1 : Keeps [] w w1 := Keeps.trans (by assumption) k1 (by simp))
      | (go_at_call_of 29 (Pl.image p M.image.length); refine (cloneU64_any (HRV.out _ (by assumption)).image.reads (by simp) (u64_one _) (by omega)).mono ?_; rintro e w2 ⟨v2, rfl, r2, k2, n2, _, s2⟩; obtain ⟨g2, o2, c2, rfl⟩ := s2 _ _ _ rfl; have K2 : Keeps [] w w2 := Keeps.trans (by assumption) k2 (by simp))
      | (go_at_call 30; refine (own_any (HRV.out _ (by assumption)).map (HRV.out _ (by assumption)).lines h.uniq HFEW.out).mono ?_; rintro e w3 ⟨nm, L', qs, rfl, r3, r4, r5, r6, r7, n3, k3⟩; have K3 : Keeps [] w w3 := Keeps.trans (by assumption) k3 (by simp)))
  go_wp2
  go_ret
  refine ⟨w3.heap.size, ⟨g1, o1, c1, g2, o2, c2, nm, L'⟩, qs, rfl, r3, ⟨alloc_new (w := w3), ?_, ?_, ?_, ?_, ?_, r6⟩, Keeps.trans K3 (Keeps.alloc _ _) (by simp), ?_⟩
  · refine r1.same fun g hg => ?_
    have hl := r1.lt hg
    exact (((k2.trans k3 (by simp)).trans (Keeps.alloc w3 _) (by simp)) : Keeps [] w1 _).block g hl (by simp)
  · refine r2.same fun g hg => ?_
    exact ((k3.trans (Keeps.alloc w3 _) (by simp)) : Keeps [] w2 _).block g (r2.lt hg) (by simp)
  · exact r4.same ((Keeps.alloc w3 _).block _ r4.lt (by simp))
  · exact r5.same fun g hg => (Keeps.alloc w3 _).block _ (blks_lt r5 hg) (by simp)
  · have a1 : w.heap.size ≤ g1 := n1 g1 rfl
    have a2 := r1.lt (g := g1) rfl
    have a3 := n2 g2 rfl
    have a4 := r2.lt (g := g2) rfl
    have a5 := r4.lt
    have a6 := k3.size
    have hb : ∀ i ∈ blks L', w2.heap.size ≤ i ∧ i < w3.heap.size := fun i hi => ⟨n3 i (List.mem_cons_of_mem _ hi), blks_lt r5 hi⟩
    have hnm : w2.heap.size ≤ nm := n3 nm (by simp)
    simp only [Pl.foot, List.nodup_cons, List.mem_cons, not_or]
    rw [List.nodup_cons] at r7
    refine ⟨⟨by omega, by omega, by omega, fun hi => by have := hb _ hi; omega⟩, ⟨by omega, by omega, fun hi => by have := hb _ hi; omega⟩, ⟨by omega, fun hi => by have := hb _ hi; omega⟩, r7⟩
  · intro i hi
    simp only [Pl.foot, List.mem_cons] at hi
    have a0 := K1.size
    have a1 : w.heap.size ≤ g1 := n1 g1 rfl
    have a3 := n2 g2 rfl
    have a6 := K3.size
    have a7 := K2.size
    rcases hi with rfl | rfl | rfl | rfl | hi
    · omega
    · exact a1
    · omega
    · have := n3 i (by simp); omega
    · have := n3 i (List.mem_cons_of_mem _ hi); omega
end Go.Proofs.Ytfjjiohclokohaa.pm
