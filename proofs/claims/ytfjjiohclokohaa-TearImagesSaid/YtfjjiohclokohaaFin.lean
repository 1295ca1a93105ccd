/-
  PROVED HERE: what is left of a memory where its own block, its words and its map have been turned: put together. No condition.
-/
import Derived.Test.YtfjjiohclokohaaMemB
namespace Go.Proofs.Ytfjjiohclokohaa.pm
open Go.RowKit

section
variable {w W4 W5 : World} {b : Nat} {p : Pl} {M M' : Mod} {svb : Option Nat} {k : Int}

theorem fin_put {v : Value} {l : Line} (h : IsMem w b p M)
    (hk : Keeps ([b, p.vb, p.ib] ++ svb.toList) w W4) (hold : ∀ g, svb = some g → ∃ v0, get p.L k = some v0 ∧ blk v0 = some g)
    (hMW : MemAt W4 b (p.view M'.view.length) (p.image M'.image.length) p.mb M'.s0 M'.s1 M'.s2 M'.s3)
    (hvW : RowAt W4 28 1 (p.view M'.view.length) M'.view.length (M'.view.map (Value.int .u64)))
    (hiW : RowAt W4 28 1 (p.image M'.image.length) M'.image.length (M'.image.map (Value.int .u64)))
    (hl : M'.lines = put M.lines k l)
    (hv : LineAt W4 v l) (hnew : ∀ g, blk v = some g → svb = some g ∨ w.heap.size ≤ g)
    {es : Array MapEntry} {clock : Nat} {W4' : World} (h4 : Keeps [] W4 W4') (hW5 : W5 = putB W4' p.mb (.map es clock)) (hm5 : MapIs W5 p.mb (put p.L k v)) :
    ∃ p', IsMem W5 b p' M' ∧ Keeps (p.foot b) w W5 ∧ ∀ i ∈ p'.foot b, i ∈ p.foot b ∨ w.heap.size ≤ i := by
  have hsep := h.sep
  simp only [Pl.foot, List.nodup_cons, List.mem_cons, not_or] at hsep
  obtain ⟨⟨hbv, hbi, hbm, hbL⟩, ⟨hvi, hvm, hvL⟩, ⟨him, hiL⟩, hmL, hLL⟩ := hsep
  have hsv : ∀ g, svb = some g → g ∈ blks p.L := fun g hg => by
    obtain ⟨v0, h1, h2⟩ := hold g hg
    exact mem_blks.2 ⟨_, get_mem h1, h2⟩
  have k5 : ∀ i, i < W4.heap.size → i ≠ p.mb → W5.heap[i]? = W4.heap[i]? := fun i hlt hi => by rw [hW5]; exact (putB_other hi).trans (h4.block i hlt (by simp))
  have hlt := h.lt
  refine ⟨{ p with L := put p.L k v }, ⟨?_, ?_, ?_, hm5, ?_, ?_, uniq_put h.uniq k v⟩, ?_, ?_⟩
  · exact (k5 b (lt_of hMW) hbm).trans hMW
  · exact hvW.same fun g hg => by cases hg; exact k5 _ (hvW.lt rfl) hvm
  · exact hiW.same fun g hg => by cases hg; exact k5 _ (hiW.lt rfl) him
  · rw [hl]
    refine LinesAt.putIn h.lines h.uniq k (hv.same fun g hg => ?_) fun q hq hqk g hg => ?_
    · refine k5 g (hv.lt hg) fun e => ?_
      subst e
      rcases hnew _ hg with h1 | h1
      · exact hmL (hsv _ h1)
      · have := hlt p.mb (by simp [Pl.foot]); omega
    · have hm : g ∈ blks p.L := mem_blks.2 ⟨q, hq, hg⟩
      have hgl := hlt g (by simp [Pl.foot, hm])
      rw [k5 g (Nat.lt_of_lt_of_le hgl hk.size) (fun e => hmL (e ▸ hm))]
      refine hk.block _ hgl ?_
      simp only [List.mem_append, List.mem_cons, List.not_mem_nil, or_false, not_or, Option.mem_toList]
      refine ⟨⟨fun e => hbL (e ▸ hm), fun e => hvL (e ▸ hm), fun e => hiL (e ▸ hm)⟩, fun hs => ?_⟩
      obtain ⟨v0, h1, h2⟩ := hold g hs
      have := blks_inj hLL hq (get_mem h1) hg h2
      rw [this] at hqk
      exact hqk rfl
  · refine sep_put h.sep k v fun g hg => ?_
    rcases hnew g hg with h1 | h1
    · exact .inl (hold g h1)
    · exact .inr fun hm => by have := hlt g hm; omega
  · refine (hk.mono fun i hi => .inl ?_).trans ((h4.mono (G := p.foot b) (by simp)).trans (hW5 ▸ (Keeps.putB W4' p.mb _).mono (G := p.foot b) (fun i hi => .inl ?_)) (fun i hi => .inl hi)) (fun i hi => .inl hi)
    · simp only [List.mem_append, List.mem_cons, List.not_mem_nil, or_false, Option.mem_toList] at hi
      rcases hi with (rfl | rfl | rfl) | hi
      · simp [Pl.foot]
      · simp [Pl.foot]
      · simp [Pl.foot]
      · simp [Pl.foot, hsv _ hi]
    · simp only [List.mem_singleton] at hi; subst hi; simp [Pl.foot]
  · intro i hi
    simp only [Pl.foot, List.mem_cons] at hi ⊢
    rcases hi with h1 | h1 | h1 | h1 | h1
    · exact .inl (.inl h1)
    · exact .inl (.inr (.inl h1))
    · exact .inl (.inr (.inr (.inl h1)))
    · exact .inl (.inr (.inr (.inr (.inl h1))))
    · rcases mem_blks_put h1 with h2 | h2
      · exact .inl (.inr (.inr (.inr (.inr h2))))
      · rcases hnew _ h2 with h3 | h3
        · exact .inl (.inr (.inr (.inr (.inr (hsv _ h3)))))
        · exact .inr h3

theorem fin_del (h : IsMem w b p M) (hk : Keeps [b, p.vb, p.ib] w W4)
    (hMW : MemAt W4 b (p.view M'.view.length) (p.image M'.image.length) p.mb M'.s0 M'.s1 M'.s2 M'.s3)
    (hvW : RowAt W4 28 1 (p.view M'.view.length) M'.view.length (M'.view.map (Value.int .u64)))
    (hiW : RowAt W4 28 1 (p.image M'.image.length) M'.image.length (M'.image.map (Value.int .u64)))
    (hl : M'.lines = del M.lines k) {es : Array MapEntry} {clock : Nat} {W4' : World} (h4 : Keeps [] W4 W4') (hW5 : W5 = putB W4' p.mb (.map es clock)) (hm5 : MapIs W5 p.mb (del p.L k)) :
    ∃ p', IsMem W5 b p' M' ∧ Keeps (p.foot b) w W5 ∧ ∀ i ∈ p'.foot b, i ∈ p.foot b ∨ w.heap.size ≤ i := by
  have hsep := h.sep
  simp only [Pl.foot, List.nodup_cons, List.mem_cons, not_or] at hsep
  obtain ⟨⟨hbv, hbi, hbm, hbL⟩, ⟨hvi, hvm, hvL⟩, ⟨him, hiL⟩, hmL, hLL⟩ := hsep
  have k5 : ∀ i, i < W4.heap.size → i ≠ p.mb → W5.heap[i]? = W4.heap[i]? := fun i hlt hi => by rw [hW5]; exact (putB_other hi).trans (h4.block i hlt (by simp))
  have hlt := h.lt
  refine ⟨{ p with L := del p.L k }, ⟨?_, ?_, ?_, hm5, ?_, sep_del h.sep k, uniq_del h.uniq k⟩, ?_, ?_⟩
  · exact (k5 b (lt_of hMW) hbm).trans hMW
  · exact hvW.same fun g hg => by cases hg; exact k5 _ (hvW.lt rfl) hvm
  · exact hiW.same fun g hg => by cases hg; exact k5 _ (hiW.lt rfl) him
  · rw [hl]
    refine (h.lines.del k).same fun g hg => ?_
    have hm := mem_blks_del hg
    have hgl := hlt g (by simp [Pl.foot, hm])
    rw [k5 g (Nat.lt_of_lt_of_le hgl hk.size) (fun e => hmL (e ▸ hm))]
    refine hk.block _ hgl ?_
    simp only [List.mem_cons, List.not_mem_nil, or_false, not_or]
    exact ⟨fun e => hbL (e ▸ hm), fun e => hvL (e ▸ hm), fun e => hiL (e ▸ hm)⟩
  · refine (hk.mono fun i hi => .inl ?_).trans ((h4.mono (G := p.foot b) (by simp)).trans (hW5 ▸ (Keeps.putB W4' p.mb _).mono (G := p.foot b) (fun i hi => .inl ?_)) (fun i hi => .inl hi)) (fun i hi => .inl hi)
    · simp only [List.mem_cons, List.not_mem_nil, or_false] at hi
      rcases hi with rfl | rfl | rfl <;> simp [Pl.foot]
    · simp only [List.mem_singleton] at hi; subst hi; simp [Pl.foot]
  · intro i hi
    simp only [Pl.foot, List.mem_cons] at hi ⊢
    rcases hi with h1 | h1 | h1 | h1 | h1
    · exact .inl (.inl h1)
    · exact .inl (.inr (.inl h1))
    · exact .inl (.inr (.inr (.inl h1)))
    · exact .inl (.inr (.inr (.inr (.inl h1))))
    · exact .inl (.inr (.inr (.inr (.inr (mem_blks_del h1)))))
end
end Go.Proofs.Ytfjjiohclokohaa.pm
