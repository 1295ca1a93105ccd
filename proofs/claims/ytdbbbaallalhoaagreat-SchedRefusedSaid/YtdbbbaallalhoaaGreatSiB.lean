/-
  PROVED HERE: begin: no game, or one in new memory (its bytes, site, table, the reference's table); nothing that was there is turned. Conditions: the keys can be read.
-/
import Derived.Test.YtdbbbaallalhoaaGreatSiA
import Derived.Test.YtdbbbaallalhoaaGreatSlB
import Derived.Test.YtdbbbaallalhoaaGreatArG
import Derived.Test.YtdbbbaallalhoaaGreatSpOf
namespace Go.Proofs.YtdbbbaallalhoaaGreat.si
open Go.RowKit Go.Proofs.YtdbbbaallalhoaaGreat.pm Go.Proofs.YtdbbbaallalhoaaGreat.ar Go.Proofs.YtdbbbaallalhoaaGreat.bt Go.Proofs.YtdbbbaallalhoaaGreat.sl Go.Proofs.YtdbbbaallalhoaaGreat.rn
set_option linter.unusedVariables false
attribute [-go_sem] Builtin.append_ Instr.buildSlice Instr.build

/-- Where a game lies: its own block, its bytes, its site, memory, table, clients, the reference's table. -/
structure Gp where
  gb : Nat
  g : Nat
  n : Nat
  stb : Nat
  mb : Nat
  sb : Nat
  lb : Nat
  tb : Nat
  cb : Nat
  wb : Nat
def gmArr (p : Gp) : Array Value := #[.slice (some ⟨p.g, 0, none⟩) p.n p.n, .pointer (some ⟨p.stb, 0, none⟩), .pointer (some ⟨p.tb, 0, none⟩), .pointer (some ⟨p.wb, 0, none⟩)]
/-- A game as it begins. -/
structure Gm (w W : World) (p : Gp) (bs : List Int) (q : Pl) (m : Nat) (hv : Value) : Prop where
  blk : W.heap[p.gb]? = some (.cells (gmArr p) 38 (0, 0))
  bytes : RowAt W 5 1 (.slice (some ⟨p.g, 0, none⟩) p.n p.n) p.n (bs.map (Value.int .u8))
  isB : ∀ b ∈ bs, Byte b
  nm : p.n = 8 * m
  ms : m ≤ 131072
  m8 : 8 ≤ m
  site : W.heap[p.stb]? = some (.cells (siArr p.mb p.sb p.lb) 94 (0, 0))
  mem : IsMem W p.mb q ⟨wordsOf bs m, wordsOf bs m, [], 0, 0, 0, 0⟩
  tab : W.heap[p.tb]? = some (.cells (tbArr p.stb (.slice (some ⟨p.cb, 0, none⟩) 2 2) (.slice none 0 0) 0) 83 (0, 0))
  cl : W.heap[p.cb]? = some (.cells #[.nilIface, .int .i64 0, .nilIface, .int .i64 0] 80 (0, 0))
  rt : W.heap[p.wb]? = some (.cells (rtArr (.slice none 0 0) hv 0) 75 (0, 0))
  hrow : RowAt W 3 1 hv 2 [.int .i64 (-1), .int .i64 (-1)]
  keep : Keeps [] w W
  new : w.heap.size ≤ p.tb ∧ w.heap.size ≤ p.cb ∧ w.heap.size ≤ p.wb ∧ ∀ q, hv.ownBlock = some q → w.heap.size ≤ q
def BeginPost (w : World) (e : Ending) (w' : World) : Prop := (e = .returned (.pointer none) ∧ Keeps [] w w') ∨ ∃ p bs q m hv, e = .returned (.pointer (some ⟨p.gb, 0, none⟩)) ∧ Gm w w' p bs q m hv
set_option maxRecDepth 1000000 in
theorem built_game (g n stb tb wb : Nat) : Tryz.prog.built 38 [(0, .slice (some ⟨g, 0, none⟩) n n), (1, .pointer (some ⟨stb, 0, none⟩)), (2, .pointer (some ⟨tb, 0, none⟩)), (3, .pointer (some ⟨wb, 0, none⟩))] = some (gmArr ⟨0, g, n, stb, 0, 0, 0, tb, 0, wb⟩) := by kernel_rfl
def ldArr (S : Int) (kv : Value) (per lag : Int) : Array Value := #[.int .i64 S, kv, .int .i64 per, .int .i64 lag]
/-- What may be asked for. -/
def ldOk (S : Int) (n : Nat) (per lag : Int) : Prop := 1 ≤ S ∧ S ≤ 16 ∧ n ≤ 30 ∧ 2 ≤ per ∧ per ≤ 8 ∧ 0 ≤ lag ∧ lag ≤ 20
set_option maxRecDepth 100000 in
set_option maxHeartbeats 4000000 in
theorem begin_no {w : World} (S per lag : Int) {kv : Value} {ks : List Int} (hks : Reads w kv ks.length (ks.map (Value.int .u64))) (hkl : ks.length ≤ 9223372036854775807) (hno : ¬ ldOk S ks.length per lag) :
    Calls Tryz.prog 4 #[.agg (ldArr S kv per lag), .int .i64 (2 : Nat)] w (BeginPost w) := by
  obtain ⟨kao, kcp, rfl⟩ := reads_shape hks
  obtain ⟨n, hn⟩ : ∃ n, n = ks.length := ⟨_, rfl⟩
  rw [← hn] at hno ⊢
  clear hks hkl hn
  unfold ldOk at hno
  have hk := Keeps.alloc w (.cells (ldArr S (.slice kao n kcp) per lag) 24)
  have HK := Lib.hid hk; clear hk
  unfold ldArr at HK ⊢
  by_cases h1 : S < 1
  · clear hno
    go_enter Tryz.func4, Tryz.ntmps4
    go_wp2_with fail
    go_ret
    exact .inl ⟨rfl, HK.out⟩
  by_cases h2 : 16 < S
  · clear hno
    go_enter Tryz.func4, Tryz.ntmps4
    go_wp2_with fail
    go_ret
    exact .inl ⟨rfl, HK.out⟩
  by_cases h3 : (30 : Int) < (n : Int)
  · clear hno
    go_enter Tryz.func4, Tryz.ntmps4
    go_wp2_with fail
    go_ret
    exact .inl ⟨rfl, HK.out⟩
  by_cases h4 : per < 2
  · clear hno
    go_enter Tryz.func4, Tryz.ntmps4
    go_wp2_with fail
    go_ret
    exact .inl ⟨rfl, HK.out⟩
  by_cases h5 : 8 < per
  · clear hno
    go_enter Tryz.func4, Tryz.ntmps4
    go_wp2_with fail
    go_ret
    exact .inl ⟨rfl, HK.out⟩
  by_cases h6 : lag < 0
  · clear hno
    go_enter Tryz.func4, Tryz.ntmps4
    go_wp2_with fail
    go_ret
    exact .inl ⟨rfl, HK.out⟩
  by_cases h7 : 20 < lag
  · clear hno
    go_enter Tryz.func4, Tryz.ntmps4
    go_wp2_with fail
    go_ret
    exact .inl ⟨rfl, HK.out⟩
  exact absurd ⟨by omega, by omega, by omega, by omega, by omega, by omega, by omega⟩ hno

def BuildPost2 (w : World) (S : Nat) (e : Ending) (w' : World) : Prop := ∃ v, e = .returned v ∧ Keeps [] w w' ∧ (v = .pointer none ∨ ∃ (b : Nat) (A : Ar), v = .pointer (some ⟨b, 0, none⟩) ∧ ArAt w' b A ∧ A.S = S ∧ w.heap.size ≤ b ∧ w.heap.size ≤ A.g)
theorem BuildPost2.of {w w' : World} {S : Nat} {e : Ending} (h : BuildPost w S e w') : BuildPost2 w S e w' := by
  obtain ⟨hk, rfl | ⟨b, A, rfl, h2⟩⟩ := h
  · exact ⟨_, rfl, hk, .inl rfl⟩
  · exact ⟨_, rfl, hk, .inr ⟨b, A, rfl, h2⟩⟩
set_option maxRecDepth 100000 in
set_option maxHeartbeats 4000000 in
theorem begin_yes {w : World} (S per lag : Nat) {kv : Value} {ks : List Int} (hks : Reads w kv ks.length (ks.map (Value.int .u64))) (hku : ∀ k ∈ ks, U64 k) (h1 : 1 ≤ S) (h2 : S ≤ 16) (h3 : ks.length ≤ 30) (h4 : 2 ≤ per) (h5 : per ≤ 8) (h6 : lag ≤ 20) :
    Calls Tryz.prog 4 #[.agg (ldArr S kv per lag), .int .i64 (2 : Nat)] w (BeginPost w) := by
  obtain ⟨kao, kcp, rfl⟩ := reads_shape hks
  obtain ⟨W1, hW1⟩ : ∃ W1, W1 = w.alloc (.cells (ldArr S (.slice kao ks.length kcp) per lag) 24) := ⟨_, rfl⟩
  have hk1 : Keeps [] w W1 := by rw [hW1]; exact Keeps.alloc _ _
  have hb1 : W1.heap[w.heap.size]? = some (.cells (ldArr S (.slice kao ks.length kcp) per lag) 24 (0, 0)) := by rw [hW1]; exact alloc_new
  have hks1 := reads_keep hks hk1 (by simp)
  have HRs := Lib.hid (rising_any (reads_keep hks1 (Keeps.drew W1) (by simp)) hku (by omega))
  obtain ⟨n, hn⟩ : ∃ n, n = ks.length := ⟨_, rfl⟩
  rw [← hn] at hb1 h3 HRs ⊢
  have hcs : ∀ wx, Keeps [] W1 wx → wx.cell? ⟨w.heap.size, 0, none⟩ = some (.int .i64 S) ∧ wx.cell? ⟨w.heap.size, 1, none⟩ = some (.slice kao n kcp) ∧ wx.cell? ⟨w.heap.size, 2, none⟩ = some (.int .i64 per) ∧ wx.cell? ⟨w.heap.size, 3, none⟩ = some (.int .i64 lag) := fun wx hk => by
    have hb := (hk.block _ (lt_of hb1) (by simp)).trans hb1
    exact ⟨cell_of hb rfl, cell_of hb rfl, cell_of hb rfl, cell_of hb rfl⟩
  have hal : w.alloc (.cells (ldArr S (.slice kao n kcp) per lag) 24) = W1 := by rw [hW1, hn]
  unfold ldArr at hal ⊢
  obtain ⟨c0, c1, c2, c3⟩ := hcs W1 (Keeps.refl _ _)
  obtain ⟨d0, d1, d2, d3⟩ := hcs W1.drew (Keeps.drew _)
  have HC := Lib.hid (And.intro hcs hk1)
  clear hks hks1 hb1 hn hW1 hk1 hcs
  have n1 : ¬ (S : Int) < 1 := by omega
  have n2 : ¬ (16 : Int) < (S : Int) := by omega
  have n3 : ¬ (30 : Int) < (n : Int) := by omega
  have n4 : ¬ (per : Int) < 2 := by omega
  have n5 : ¬ (8 : Int) < (per : Int) := by omega
  have n6 : ¬ (lag : Int) < 0 := by omega
  have n7 : ¬ (20 : Int) < (lag : Int) := by omega
  go_enter Tryz.func4, Tryz.ntmps4
  go_upto_region 3 with fail
  go_cut [5] from 56 to 65 (fun s5 wx => ∃ v, s5 = v ∧ Keeps [] W1 wx ∧ (v = .pointer none ∨ ∃ (b : Nat) (A : Ar), v = .pointer (some ⟨b, 0, none⟩) ∧ ArAt wx b A ∧ A.S = S ∧ W1.heap.size ≤ b ∧ W1.heap.size ≤ A.g))
  case first =>
    --<S
    refine wp_normal ?_
    go_region_with (first
      | (go_at_call 15; refine HRs.out.mono ?_; rintro e w2 ⟨v2, os, rfl, hI⟩; obtain ⟨e0, e1, e2, e3⟩ := HC.out.1 w2 ((Keeps.drew W1).trans hI.keep (by simp)))
      | (go_at_call 14; refine (build_any S per lag (by omega) h4 h5 (by omega) (hI.row.reads) hI.u (by have := hI.le; omega)).mono ?_; intro e w3 hbp; obtain ⟨v3, rfl, hk3, hp3⟩ := BuildPost2.of hbp)
      | fail)
    all_goals
      simp only [onlyNormal]
      have hk2 : Keeps [] W1 w2 := (Keeps.drew W1).trans hI.keep (by simp)
      have hfin : ∃ v, v3 = v ∧ Keeps [] W1 w3 ∧ (v = .pointer none ∨ ∃ (b : Nat) (A : Ar), v = .pointer (some ⟨b, 0, none⟩) ∧ ArAt w3 b A ∧ A.S = S ∧ W1.heap.size ≤ b ∧ W1.heap.size ≤ A.g) := by
        refine ⟨v3, rfl, hk2.trans hk3 (by simp), ?_⟩
        rcases hp3 with e | ⟨b, A, e, q1, q2, q3, q4⟩
        · exact .inl e
        · exact .inr ⟨b, A, e, q1, q2, Nat.le_trans hk2.size q3, Nat.le_trans hk2.size q4⟩
      have HF := Lib.hid hfin
      clear hp3 hk3 hk2 hfin hI
      go_wp2_with fail
      go_meet
      exact HF.out
    --S>
  case rest =>
  obtain ⟨v, rfl, hk3, rfl | ⟨b, A, rfl, hA, hAS, hb, hg⟩⟩ := hcut
  · have HK3 := Lib.hid hk3; clear hk3
    go_wp2_with fail
    go_ret
    exact .inl ⟨rfl, HC.out.2.trans HK3.out (by simp)⟩
  · obtain ⟨bs, hbl, hby, hrb⟩ := hA.row
    have hsz := hA.size
    obtain ⟨g, hge⟩ : ∃ g, g = A.g := ⟨_, rfl⟩
    obtain ⟨nn, hnn⟩ : ∃ nn, nn = A.n := ⟨_, rfl⟩
    have hcb := hA.cells.1
    rw [← hge, ← hnn] at hcb hrb
    rw [← hnn] at hbl hsz
    rw [← hge] at hg
    rw [hAS] at hsz
    obtain ⟨m, hm⟩ : ∃ m, m = 128 * (S + 1) := ⟨_, rfl⟩
    have hnm : nn = 8 * m := by omega
    have hAb : wc.heap[b]? = some (.cells #[.slice (some ⟨A.g, 0, none⟩) A.n A.n, .int .i64 A.S, .int .i64 A.used, .int .i64 A.value, .int .i64 A.values, .int .i64 A.node, .int .i64 A.nodes, A.lv] 58 (0, 0)) := hA.blk
    have HOf := Lib.hid (of_any (w := wc) (g := g) (off := 0) (cap := nn) (m := m) (bs := bs) (by rw [← hnm]; exact hrb) hby (by omega) (by omega) (by omega) (by omega) (by unfold maxLen; omega))
    rw [← hnm] at HOf
    have HX := Lib.hid (And.intro hk3 (And.intro hby (And.intro hrb (And.intro hsz (And.intro hnm (And.intro hm (And.intro hb (And.intro hg (And.intro hAb hcb)))))))))
    clear hA hbl hby hrb hsz hge hnn hm hnm hk3 hb hg hAb hAS
    go_wp2_with fail
    refine HOf.out.mono ?_
    rintro e w4 ⟨mb, q, rfl, hM, hk4, hft⟩
    obtain ⟨hk3, hby, hrb, hsz, hnm, hm, hb, hg, hAb, hcb⟩ := HX.out
    have hrb4 : RowAt w4 5 1 (.slice (some ⟨g, 0, none⟩) nn nn) nn (bs.map (Value.int .u8)) := hrb.same fun r hr => hk4.block r (hrb.lt hr) (by simp)
    have hcb4 : w4.cell? ⟨b, 0, none⟩ = some (.slice (some ⟨g, 0, none⟩) nn nn) := by
      rw [World.cell?_of_block (hk4.block b (World.block_lt_of_cell? _ _ hcb) (by simp))]; exact hcb
    have HSl := Lib.hid (slabOf_calls hrb4 hby hsz h1 h2)
    have H4 := Lib.hid (And.intro hM (And.intro hk4 (And.intro hft hrb4)))
    clear hk3 hby hrb hsz hnm hm hb hg hAb hcb hM hk4 hft hrb4
    go_wp2_with fail
    refine HSl.out.mono ?_
    rintro e w5 ⟨hk5, rfl | ⟨sb, hbk, cs, rfl, hs1, hs2, hs3⟩⟩
    · have HK5 := Lib.hid hk5; clear hk5
      go_wp2_with fail
      go_ret
      exact .inl ⟨rfl, ((HC.out.2.trans HX.out.1 (by simp)).trans H4.out.2.1 (by simp)).trans HK5.out (by simp)⟩
    · obtain ⟨hM, hk4, hft, hrb4⟩ := H4.out
      have hwl : (wordsOf bs m).length = m := wordsOf_length bs m
      have hM5 := hM.keeps hk5 (by simp)
      have cv : w5.cell? ⟨mb, 0, none⟩ = some (.slice (some ⟨q.vb, q.voff, none⟩) m q.vcap) := by
        have := cell_of (i := 0) hM5.blkAt rfl
        simp only [Pl.view, hwl] at this
        exact this
      have cs5 : w5.cell? ⟨sb, 1, none⟩ = some (.slice (some ⟨hbk, 0, none⟩) (S + 1) (S + 1)) := cell_of hs1 hs2
      have HSt := Lib.hid (siteNew_any (w := w5) (c := 2) cv (by have := HX.out.2.2.2.2.2.1; omega) HX.out.2.2.2.2.1 cs5 h1 (by omega) HX.out.2.2.2.1 (by omega) (by omega))
      have H5 := Lib.hid (And.intro hM5 (And.intro hk5 hs3)); clear hM hk4 hft hrb4 hwl hM5 cv cs5 hs1 hs2 hs3 hk5
      go_wp2_with fail
      refine HSt.out.mono ?_
      rintro e w6 ⟨stb, lb, lcs, rfl, hst1, hl1, hl2, hk6, hst3, hl3⟩
      have HSc := Lib.hid (schedNew_any hst1 hl1 hl2)
      have H6 := Lib.hid (And.intro hst1 (And.intro hk6 hst3)); clear hst1 hl1 hl2 hk6 hst3 hl3
      go_wp2_with fail
      refine HSc.out.mono ?_
      rintro e w7 ⟨tb, cb, rfl, ht1, ht2, hk7, ht3, ht4⟩
      have hcb7 : ∀ wx, Keeps [] w7 wx → wx.cell? ⟨b, 0, none⟩ = some (.slice (some ⟨g, 0, none⟩) nn nn) := fun wx hk => by
        have hk := (((H4.out.2.1.trans H5.out.2.1 (by simp)).trans H6.out.2.1 (by simp)).trans hk7 (by simp)).trans hk (by simp)
        have hcb := HX.out.2.2.2.2.2.2.2.2.2
        rw [World.cell?_of_block (hk.block b (World.block_lt_of_cell? _ _ hcb) (by simp))]; exact hcb
      have HRf := Lib.hid (show Calls Tryz.prog 20 #[.int .i64 2] w7.drew (NewRef w7.drew) from refNew_any w7.drew)
      have hbd : ∀ wb wx, (Instr.build 38 #[(0, .slice (some ⟨g, 0, none⟩) nn nn), (1, .pointer (some ⟨stb, 0, none⟩)), (2, .pointer (some ⟨tb, 0, none⟩)), (3, .pointer (some ⟨wb, 0, none⟩))]).run Tryz.prog wx = .ok (.agg (gmArr ⟨0, g, nn, stb, 0, 0, 0, tb, 0, wb⟩)) wx := fun wb wx => run_build wx _ _ _ (built_game g nn stb tb wb)
      have f7 := hcb7 w7.drew (Keeps.drew _)
      have H7 := Lib.hid (And.intro ht1 (And.intro ht2 (And.intro hk7 (And.intro ht3 (And.intro ht4 hcb7))))); clear ht1 ht2 hk7 ht3 ht4 hcb7
      go_upto_region 16 with fail
      refine wp_normal ?_
      go_region_with (first
        | (go_at_call 20; refine HRf.out.mono ?_; rintro e w8 ⟨wb, hv, rfl, hr1, hr2, hk8, hr3, hr4⟩; have f8 := H7.out.2.2.2.2.2 w8 ((Keeps.drew w7).trans hk8 (by simp)))
        | fail)
      all_goals
        simp only [onlyNormal]
        have HR := Lib.hid (And.intro hr1 (And.intro hr2 (And.intro hk8 (And.intro hr3 hr4)))); clear hr1 hr2 hk8 hr3 hr4
        go_wp2_with fail
        go_ret
        obtain ⟨hk3, hby, hrb, hsz, hnm, hm, hb, hg, hAb, hcb⟩ := HX.out
        obtain ⟨hM, hk4, hft, hrb4⟩ := H4.out
        obtain ⟨hM5, hk5, hs3⟩ := H5.out
        obtain ⟨hst1, hk6, hst3⟩ := H6.out
        obtain ⟨ht1, ht2, hk7, ht3, ht4, hcb7⟩ := H7.out
        obtain ⟨hr1, hr2, hk8, hr3, hr4⟩ := HR.out
        have k9 := Keeps.alloc w8 (.cells (gmArr ⟨0, g, nn, stb, 0, 0, 0, tb, 0, wb⟩) 38)
        have k78 : Keeps [] w7 (w8.alloc (.cells (gmArr ⟨0, g, nn, stb, 0, 0, 0, tb, 0, wb⟩) 38)) := ((Keeps.drew w7).trans hk8 (by simp)).trans k9 (by simp)
        have k68 := hk7.trans k78 (by simp)
        have k58 := hk6.trans k68 (by simp)
        have k48 := hk5.trans k58 (by simp)
        have k04 := (HC.out.2.trans hk3 (by simp)).trans hk4 (by simp)
        have k08 := k04.trans k48 (by simp)
        have s4 := k04.size
        have s5 := hk5.size
        have s6 := hk6.size
        have s7 := hk7.size
        have s8 : w7.heap.size ≤ wb := hr3
        refine .inr ⟨⟨w8.heap.size, g, nn, stb, mb, sb, lb, tb, cb, wb⟩, bs, q, m, hv, rfl, ⟨alloc_new, hrb4.same fun r hr => k48.block r (hrb4.lt hr) (by simp), hby, hnm, by omega, by omega, (k68.block stb (lt_of hst1) (by simp)).trans hst1, hM5.keeps k58 (by simp), (k78.block tb (lt_of ht1) (by simp)).trans ht1, (k78.block cb (lt_of ht2) (by simp)).trans ht2, alloc_old hr1, hr2.same fun r hr => k9.block r (hr2.lt hr) (by simp), k08, (show w.heap.size ≤ tb by omega), (show w.heap.size ≤ cb by omega), (show w.heap.size ≤ wb by omega), fun r hr => ?_⟩⟩
        have : w7.heap.size ≤ r := hr4 r hr
        omega
end Go.Proofs.YtdbbbaallalhoaaGreat.si
