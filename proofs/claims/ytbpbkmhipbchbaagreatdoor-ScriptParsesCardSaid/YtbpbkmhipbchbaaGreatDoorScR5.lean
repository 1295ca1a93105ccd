/-
  PROVED HERE: the contract of the reference's Parse, at any text: it is parseP. Conditions: at most 100000 bytes.
-/
import Derived.Test.YtbpbkmhipbchbaaGreatDoorScRW
import Derived.Test.YtbpbkmhipbchbaaGreatDoorScR4
import Derived.Test.YtbpbkmhipbchbaaGreatDoorScQ8
import Derived.Deep.CutBlock
import Derived.StillTail
import Derived.StillTactics
import Derived.Test.YtbpbkmhipbchbaaGreatDoorScReads
namespace Go.Proofs.YtbpbkmhipbchbaaGreatDoor.sc
open Go Go.RowKit
set_option linter.unusedVariables false

def RParPost (w : World) (t : Bs) (e : Ending) (w' : World) : Prop :=
  Below w.heap.size w w' ∧ ∃ v, ActsR w' v (parseP t).1.acts ∧ e = .returned (.tuple #[.agg (scC (parseP t).1 v), .int .i64 (parseP t).2.1, .int .i64 (parseP t).2.2])
section
variable {w W Y : World} {s : Sc} {v kl : Value} {a : Ac} {t : Bs} {n e : Int}
theorem rpar_res (h : RB w s v a kl W) (hY : Y = ((W.setCell ⟨w.heap.size, 0, none⟩ (.int .i64 0)).setCell ⟨w.heap.size, 1, none⟩ (.int .i64 0)).setCell ⟨w.heap.size, 2, none⟩ (.slice none 0 0)) {tmps : Array Value}
    (h2 : tmps[2]? = some (.pointer (some ⟨w.heap.size, 0, none⟩))) (h3 : tmps[3]? = some (.int .i64 n)) (h4 : tmps[4]? = some (.int .i64 e)) :
    (results Tryz.f26 tmps).run Tryz.prog Y = .ok (.tuple #[.agg (scC Sc.zero (.slice none 0 0)), .int .i64 n, .int .i64 e]) Y := res_rParse (h.fin 0 0 (.slice none 0 0) hY).1 h2 h3 h4
theorem rpar_post (h : RB w s v a kl W) (hp : parseP t = (Sc.zero, n, e)) (hY : Y = ((W.setCell ⟨w.heap.size, 0, none⟩ (.int .i64 0)).setCell ⟨w.heap.size, 1, none⟩ (.int .i64 0)).setCell ⟨w.heap.size, 2, none⟩ (.slice none 0 0)) :
    RParPost w t (.returned (.tuple #[.agg (scC Sc.zero (.slice none 0 0)), .int .i64 n, .int .i64 e])) Y := by
  refine ⟨(h.fin 0 0 (.slice none 0 0) hY).2.1, .slice none 0 0, ?_, ?_⟩
  · rw [hp]; exact ActsR.nil _
  · rw [hp]
end

set_option maxHeartbeats 4000000 in
set_option maxRecDepth 100000 in
theorem rParse_any {w : World} (t : Bs) (ht : t.length ≤ 100000) : Calls Tryz.prog 26 #[.string (mk t)] w (RParPost w t) := by
  have hlen : (mk t).size = t.length := mk_size t
  obtain ⟨W, hW⟩ : ∃ W, W = ((w.alloc (.cells #[.int .i64 0, .int .i64 0, .slice none 0 0] 58)).alloc (.cells #[.int .i64 0, .int .i64 0, .slice none 0 0] 58)).alloc (.cells zCs 31) := ⟨_, rfl⟩
  have HS := Lib.hid (And.intro (show RB w Sc.zero (.slice none 0 0) Ac.zero (.slice none 0 0) W by rw [hW]; exact RB.start w) ht)
  have hW2 : W = ((w.alloc (.cells #[.int .i64 0, .int .i64 0, .slice none 0 0] 58)).alloc (.cells #[.int .i64 0, .int .i64 0, .slice none 0 0] 58)).alloc (.cells #[.int .i64 0, .int .i64 0, .int .i64 0, .int .u64 0, .int .u64 0, .int .i64 0, .string ⟨#[]⟩, .int .u64 0, .int .i64 0, .slice none 0 0] 31) := hW
  clear ht hW
  go_enter Tryz.func26, Tryz.ntmps26
  go_upto_region 3 with fail
  rw [← hW2]
  rw [show w.heap.size + 1 + 1 = w.heap.size + 2 from rfl]
  clear hW2
  go_upto_region 5 with fail
  go_loopw [7, 8] (fun s7 s8 wr => ∃ (k p : Nat) (st : Sc × Ac) (v kl : Value), s7 = .int .i64 k ∧ s8 = .int .i64 p ∧ PI t k p st ∧ st.1.acts.length ≤ 100000 ∧ k ≤ p ∧ (k = 0 → v = .slice none 0 0) ∧ RB w st.1 v st.2 kl wr ∧ st.2.keep.length ≤ 1000000) (fun _ s8 _ => t.length - (RowKit.intOf s8).toNat)
  case atStart => exact ⟨0, 0, _, _, _, rfl, rfl, PI.start t, by decide, Nat.le_refl _, fun _ => rfl, HS.out.1, by decide⟩
  case round =>
    obtain ⟨k, p, st, v, kl, rfl, rfl, hpi, hal, hkp, hv0, hrb, hkl⟩ := hrel
    have HR := Lib.hid (And.intro hpi (And.intro hal (And.intro hkp (And.intro hv0 (And.intro hrb hkl))))); clear hal hkp hv0 hrb hkl
    have hpt : p ≤ t.length := hpi.le
    clear hpi
    go_upto_region 5 with fail
    go_cut [26, 7, 8] (fun s26 s7 s8 wx => ∃ q : Bool, s26 = .bool q ∧ s7 = .int .i64 k ∧ s8 = .int .i64 p ∧ wx = wr ∧ (q = true ↔ p < t.length ∨ k = 0))
    case first =>
      by_cases hp : p < t.length
      · have e1 : (p : Int) < (t.length : Int) := by omega
        go_wp2_with fail
        go_meet
        exact ⟨true, rfl, rfl, rfl, rfl, fun _ => .inl hp, fun _ => rfl⟩
      · obtain rfl : p = t.length := by omega
        by_cases hk : k = 0
        · subst hk
          go_wp2_with fail
          go_meet
          exact ⟨true, rfl, rfl, rfl, rfl, fun _ => .inr (by first | trivial | rfl), fun _ => rfl⟩
        · have ek : ((k : Int) == 0) = false := by simp; omega
          have HK := Lib.hid hk; clear hk hp
          go_wp2_with fail
          go_meet
          exact ⟨false, rfl, rfl, rfl, rfl, fun h => (by cases h), fun h => (by rcases h with h | h; omega; exact absurd h HK.out)⟩
    case rest =>
      obtain ⟨q, rfl, rfl, rfl, rfl, hq⟩ := hcut
      cases q with
      | false =>
        have hq0 : ¬ (p < t.length ∨ k = 0) := fun h => by have := hq.2 h; cases this
        have HQ := Lib.hid (show p = t.length ∧ k ≠ 0 from ⟨by omega, by omega⟩)
        clear hq hq0
        have HRB := Lib.hid HR.out.2.2.2.2.1
        obtain ⟨s, a⟩ := st
        obtain ⟨slabs, clients, acts⟩ := s
        have c0 := HRB.out.bs.cell 0; have c1 := HRB.out.bs.cell 1; have c2 := HRB.out.bs.cell 2
        have r0 := HRB.out.r2.cell 0; have r1 := HRB.out.r2.cell 1; have r2 := HRB.out.r2.cell 2
        have z0 := HRB.out.r2.frozen 0; have z1 := HRB.out.r2.frozen 1; have z2 := HRB.out.r2.frozen 2
        simp [scC] at c0 c1 c2 r0 r1 r2
        obtain ⟨A, ca, rfl⟩ := HRB.out.ao.acts.len
        go_wp2_with fail
        obtain ⟨h5, h6, h7⟩ := HRB.out.fin slabs clients (.slice A acts.length ca) rfl
        refine bodyPost_ret (res_rParse h5 rfl rfl rfl) rfl ⟨h6, .slice A acts.length ca, ?_, ?_⟩
        · have hp := HR.out.1
          rw [HQ.out.1] at hp
          rw [hp.done HQ.out.2]; exact h7
        · have hp := HR.out.1
          rw [HQ.out.1] at hp
          rw [hp.done HQ.out.2]; rfl
      | true =>
        have HQ := Lib.hid (hq.1 rfl); clear hq
        obtain ⟨n, hn⟩ : ∃ n, n = (k : Int) + 1 := ⟨_, rfl⟩
        have hwn : IntKind.i64.wrap ((k : Int) + 1) = n := by rw [hn]; exact IntWalk.i64_in _ (by have := HR.out.2.2.1; have := HS.out.2; omega)
        have HN := Lib.hid hn; clear hn
        go_upto_region 8 with fail
        clear hwn
        go_loopw [9] (fun s9 wi => ∃ j : Nat, s9 = .int .i64 j ∧ p ≤ j ∧ j ≤ t.length ∧ (∀ i, p ≤ i → i < j → ∃ b, t[i]? = some b ∧ b ≠ 10) ∧ RB w st.1 v st.2 kl wi) (fun s9 _ => t.length - (RowKit.intOf s9).toNat)
        case atStart => exact ⟨p, rfl, Nat.le_refl _, hpt, fun i h1 h2 => by omega, HR.out.2.2.2.2.1⟩
        case round =>
          obtain ⟨j, rfl, hpj, hjt, hno, hrbj⟩ := hrel
          have HJ := Lib.hid hno; clear hno
          have HRJ := Lib.hid hrbj; clear hrbj
          go_upto_region 8 with fail
          go_cut [39, 9] (fun s39 s9 wx => ∃ q : Bool, s39 = .bool q ∧ s9 = .int .i64 j ∧ RB w st.1 v st.2 kl wx ∧ (q = true → j < t.length ∧ ∃ b, t[j]? = some b ∧ b ≠ 10) ∧ (q = false → j = t.length ∨ t[j]? = some 10))
          case first =>
            by_cases hlt : j < t.length
            · obtain ⟨b, hb⟩ : ∃ b, t[j]? = some b := ⟨_, List.getElem?_eq_getElem hlt⟩
              have hbk : (mk t)[j]'(by rw [mk_size]; exact hlt) = b := mk_get' hb
              have e1 : (j : Int) < (t.length : Int) := by omega
              by_cases h10 : b = 10
              · have HB := Lib.hid (show t[j]? = some 10 by rw [← h10]; exact hb)
                have e32 : (b.toNat == 10) = true := by rw [h10]; rfl
                have e33 : ((b.toNat : Int) != 10) = false := by rw [h10]; rfl
                clear h10 hb
                go_wp2_with fail
                go_meet
                exact ⟨false, rfl, rfl, HRJ.out, fun h => (by cases h), fun _ => .inr HB.out⟩
              · have e32 : (b.toNat == 10) = false := by rw [beq_eq_false_iff_ne]; intro e; apply h10; exact UInt8.toNat_inj.1 e
                have e33 : ((b.toNat : Int) != 10) = true := by
                  have : ¬ ((b.toNat : Int) = 10) := fun e => h10 (UInt8.toNat_inj.1 (show b.toNat = 10 by omega))
                  simpa using this
                have HB := Lib.hid (And.intro hb h10); clear h10 hb
                go_wp2_with fail
                go_meet
                exact ⟨true, rfl, rfl, HRJ.out, fun _ => ⟨hlt, b, HB.out⟩, fun h => (by cases h)⟩
            · obtain rfl : j = t.length := by omega
              go_wp2_with fail
              go_meet
              exact ⟨false, rfl, rfl, HRJ.out, fun h => (by cases h), fun _ => .inl (by first | trivial | rfl)⟩
          case rest =>
            obtain ⟨q, rfl, rfl, hrbc, hq1, hq2⟩ := hcut
            have HRB := Lib.hid hrbc; clear hrbc
            cases q with
            | true =>
              have HQ1 := Lib.hid (hq1 rfl); clear hq1 hq2
              have hw5 : IntKind.i64.wrap ((j : Int) + 1) = (j : Int) + 1 := IntWalk.i64_in _ (by have := HS.out.2; omega)
              go_wp2_with fail
              go_roundw
              case rel =>
                refine ⟨j + 1, by first | rfl | go_num, by omega, by have := HQ1.out.1; omega, fun i h1 h2 => ?_, HRB.out⟩
                by_cases h3 : i < j
                · exact HJ.out i h1 h3
                · obtain rfl : i = j := by omega
                  exact HQ1.out.2
              case measure =>
                have := HQ1.out.1
                simp [RowKit.intOf]; omega
            | false =>
              have HE := Lib.hid (hq2 rfl); clear hq1 hq2
              have hw5 : IntKind.i64.wrap ((j : Int) + 1) = (j : Int) + 1 := IntWalk.i64_in _ (by have := HS.out.2; omega)
              have i1 : (p : Int) ≤ (j : Int) := by omega
              have i2 : (j : Int) ≤ (t.length : Int) := by omega
              have i3 : (0 : Int) ≤ (p : Int) := by omega
              have i4 : (0 : Int) ≤ (j : Int) := by omega
              go_upto_region 11 with fail
              rw [mk_extract]
              obtain ⟨line, hline⟩ : ∃ x, x = (t.take j).drop p := ⟨_, rfl⟩
              rw [← hline]
              have hll : line.length = j - p := by rw [hline, List.length_drop, List.length_take]; omega
              have hl10 : ∀ b ∈ line, b ≠ 10 := by
                intro b hb
                rw [hline, List.mem_iff_getElem?] at hb
                obtain ⟨i, hi⟩ := hb
                rw [List.getElem?_drop, List.getElem?_take] at hi
                split at hi
                · obtain ⟨c, hc, hne⟩ := HJ.out (p + i) (by omega) (by omega)
                  rw [hc] at hi; injection hi with hi; rw [← hi]; exact hne
                · cases hi
              have hlE : j = t.length → t.drop p = line := fun e => by rw [hline, e, List.take_length]
              have hlN : t[j]? = some 10 → t.drop p = line ++ 10 :: t.drop (j + 1) := fun e => by
                have hlt : j < t.length := (List.getElem?_eq_some_iff.1 e).1
                have h3 : t.drop j = 10 :: t.drop (j + 1) := by
                  rw [List.drop_eq_getElem_cons hlt]
                  congr 1
                  rw [List.getElem?_eq_getElem hlt] at e; injection e
                have h4 : line = (t.drop p).take (j - p) := by rw [hline, List.drop_take]
                have h5 : (t.drop p).drop (j - p) = t.drop j := by rw [List.drop_drop]; congr 1; omega
                rw [h4, ← h3, ← h5, List.take_append_drop]
              have HLL := Lib.hid (And.intro hl10 (And.intro hlE (And.intro hlN hll))); clear hl10 hlE hlN hline hll
              have HLB := Lib.hid (show line.length ≤ 100000 by have := HLL.out.2.2.2; have := HS.out.2; omega)
              clear i1 i3
              by_cases hk : k = 0
              · --the first line
                have en : (n == 1) = true := by rw [HN.out, hk]; rfl
                have hn1 : n = 1 := by rw [HN.out, hk]; rfl
                subst hn1
                subst hk
                obtain ⟨rfl, hst⟩ := HR.out.1.z rfl
                subst hst
                have hv := HR.out.2.2.2.1 rfl
                subst hv
                by_cases he : j < t.length
                · have e1 : (j : Int) < (t.length : Int) := by omega
                  have HE1 := Lib.hid (HE.out.resolve_left (by omega))
                  go_wp2_with fail
                  refine (rWords_any line (by have := HLB.out; omega)).mono ?_; rintro e w1 ⟨v1, rfl, ho1, hb1⟩
                  have H1 := Lib.hid (And.intro ho1 hb1); clear ho1 hb1
                  go_wp2_with (at_builtin; refine wpList_app_strs rfl _ _ rfl wc.heap.size v1 _ _ rfl (H1.out.1.alloc _) (.slice (some ⟨w1.heap.size, 0, none⟩) 2 2) [[], []] rfl (lit_strs w1 [[], []] (by simp)) ?few ?base ?_)
                  case few => have := splitC_few 32 line; have := HLB.out; simp; omega
                  case base => have := H1.out.2.size; simp; omega
                  intro v2 w2 o2 g2
                  obtain ⟨L2, hL2⟩ : ∃ x, x = splitC 32 line ++ [[], []] := ⟨_, rfl⟩
                  obtain ⟨N2, hN2⟩ : ∃ x, x = (splitC 32 line).length + 2 := ⟨_, rfl⟩
                  have o3 : w2.ownsRow wc.heap.size 9 1 v2 N2 (strs L2) := by rw [hL2, hN2]; exact o2
                  have hs0 : 0 < (splitC 32 line).length := List.length_pos_iff.2 (splitC_ne 32 line)
                  have hn3 : 3 ≤ N2 := by omega
                  obtain ⟨gb, cap, rfl, hg, hgl⟩ := o3.form (by omega)
                  have hb2 := (H1.out.2.alloc H1.out.2.size _).trans (g2.below.mono (Nat.le_refl _))
                  have hwd : ∀ i, i < 3 → w2.cell? ⟨gb, i, none⟩ = some (.string (mk (wd line i))) := fun i hi => by
                    rw [o3.cellAt i (by omega), hL2, strs, List.getElem?_map, List.getElem?_append, wd, List.getD]
                    by_cases hlt : i < (splitC 32 line).length
                    · rw [if_pos hlt, List.getElem?_eq_getElem hlt]; rfl
                    · rw [if_neg hlt, List.getElem?_eq_none (by omega : (splitC 32 line).length ≤ i)]
                      have h6 : i - (splitC 32 line).length < 2 := by omega
                      generalize i - (splitC 32 line).length = q at h6
                      have : ∀ q, q < 2 → ([[], []] : List Bs)[q]? = some [] := by decide
                      rw [this q h6]; rfl
                  have hsz := HRB.out.size
                  have H2 := Lib.hid (HRB.out.next hb2)
                  have m1 := hwd 1 (by omega)
                  have m2 := hwd 2 (by omega)
                  obtain ⟨x1, hx1⟩ : ∃ x, x = wd line 1 := ⟨_, rfl⟩
                  obtain ⟨x2, hx2⟩ : ∃ x, x = wd line 2 := ⟨_, rfl⟩
                  rw [← hx1] at m1
                  rw [← hx2] at m2
                  have HX := Lib.hid (And.intro hx1 (And.intro hx2 (show x1.length ≤ 1000000 ∧ x2.length ≤ 1000000 from by rw [hx1, hx2]; exact ⟨wd_le line 1 HLB.out, wd_le line 2 HLB.out⟩)))
                  have gne : gb ≠ w.heap.size + 1 := by omega
                  have gne2 : w.heap.size + 1 ≠ gb := by omega
                  have j1 : (1 : Int) < (N2 : Int) := by omega
                  have j2 : (2 : Int) < (N2 : Int) := by omega
                  have k1 : 1 < N2 := by omega
                  have k2 : 2 < N2 := by omega
                  clear hb2 hg hgl o2 o3 g2 hL2 hN2 hs0 hn3 hwd hx1 hx2 hsz
                  have y0 : w2.cell? ⟨w.heap.size + 1, 0, none⟩ = some (.int .i64 0) := H2.out.bs.cell 0
                  have y1 : w2.cell? ⟨w.heap.size + 1, 1, none⟩ = some (.int .i64 0) := H2.out.bs.cell 1
                  have z0 := H2.out.bs.frozen 0; have z1 := H2.out.bs.frozen 1
                  go_upto_region 15 with fail
                  refine wp_region_still_tail 9 (by kernel_rfl) (by kernel_rfl) ?_
                  simp only [List.take_succ_cons, List.take_zero, List.drop_succ_cons, List.drop_zero]
                  still_step
                  still_step
                  still_step
                  still_call (rSmall_any x1 HX.out.2.2.1)
                  still_step
                  still_step
                  still_step
                  still_call (rSmall_any x2 HX.out.2.2.2)
                  still_step
                  refine wpStill_nil ?_
                  have hdrew : ({ w2 with drawn := w2.drawn + 1 } : World) = w2.drew := rfl
                  rw [hdrew]
                  clear hdrew
                  go_upto_region 16 with fail
                  obtain ⟨Z, hZ⟩ : ∃ Z, Z = ((w2.setCell ⟨w.heap.size + 1, 0, none⟩ (.int .i64 (smallR x1))).setCell ⟨w.heap.size + 1, 1, none⟩ (.int .i64 (smallR x2))).drew := ⟨_, rfl⟩
                  have HZ := Lib.hid (show RB w ⟨smallR x1, smallR x2, []⟩ (.slice none 0 0) Ac.zero kl Z by rw [hZ]; exact (H2.out.first _ _).next (Below.refl _ _).drew)
                  rw [← hZ]
                  clear hZ y0 y1 z0 z1 m1 m2 gne gne2 j1 j2 k1 k2
                  have c0 : _ = some (Value.int .i64 (smallR x1)) := HZ.out.bs.cell 0
                  have c1 : _ = some (Value.int .i64 (smallR x2)) := HZ.out.bs.cell 1
                  have c2 : _ = some (Value.slice none 0 0) := HZ.out.bs.cell 2
                  go_wp2_with fail
                  refine (rMayS_any ⟨smallR x1, smallR x2, []⟩ (.slice none 0 0) (ActsR.nil _) (by simp) (by simp)).mono ?_
                  rintro e w4 ⟨he4, hb4⟩
                  obtain ⟨q, hq⟩ : ∃ q, q = mayR ⟨smallR x1, smallR x2, []⟩ := ⟨_, rfl⟩
                  rw [← hq] at he4
                  obtain rfl := he4
                  have HQ2 := Lib.hid hq; clear hq
                  have H4 := Lib.hid (HZ.out.next hb4); clear hb4 c0 c1 c2
                  cases q with
                  | false =>
                    have r0 : _ = some (Value.int .i64 0) := H4.out.r2.cell 0
                    have r1 : _ = some (Value.int .i64 0) := H4.out.r2.cell 1
                    have r2 : _ = some (Value.slice none 0 0) := H4.out.r2.cell 2
                    have q0 := H4.out.r2.frozen 0; have q1 := H4.out.r2.frozen 1; have q2 := H4.out.r2.frozen 2
                    go_wp2_with fail
                    have hP : parseP t = (Sc.zero, 1, 11) := HR.out.1.err (HLL.out.2.2.1 HE1.out) HLL.out.1 (step0_bad (first_no (by rw [← HX.out.1, ← HX.out.2.1]; exact .inl HQ2.out.symm)))
                    exact bodyPost_ret (rpar_res H4.out rfl rfl rfl rfl) rfl (rpar_post H4.out hP rfl)
                  | true =>
                    have HM := Lib.hid (show (1 ≤ smallR x1 ∧ smallR x1 ≤ 64) ∧ 1 ≤ smallR x2 ∧ smallR x2 ≤ 64 from by
                      have hM := HQ2.out.symm
                      unfold mayR at hM
                      simp only [Bool.and_eq_true, decide_eq_true_eq] at hM
                      obtain ⟨⟨⟨⟨⟨h1, h2⟩, h3⟩, h4⟩, _⟩, _⟩ := hM
                      exact ⟨⟨h1, h2⟩, h3, h4⟩)
                    have c0 : _ = some (Value.int .i64 (smallR x1)) := H4.out.bs.cell 0
                    have c1 : _ = some (Value.int .i64 (smallR x2)) := H4.out.bs.cell 1
                    have c2 : _ = some (Value.slice none 0 0) := H4.out.bs.cell 2
                    go_wp2_with fail
                    refine (rText_any ⟨smallR x1, smallR x2, []⟩ (.slice none 0 0) (ActsR.nil _) (by simp) (by simp) (by simp) (by simp) ⟨by have := HM.out.1.1; simp only; omega, HM.out.1.2⟩ ⟨by have := HM.out.2.1; simp only; omega, HM.out.2.2⟩).mono ?_
                    rintro e w5 ⟨rfl, hb5⟩
                    have H5 := Lib.hid (H4.out.next hb5); clear hb5 c0 c1 c2
                    obtain ⟨tx, htx⟩ : ∃ x, x = textL ⟨smallR x1, smallR x2, []⟩ := ⟨_, rfl⟩
                    rw [← htx]
                    obtain ⟨ln, hln⟩ : ∃ x, x = line ++ [10] := ⟨_, rfl⟩
                    have hcat : mk line ++ ({ data := #[10] } : ByteArray) = mk ln := by rw [hln, show ({ data := #[10] } : ByteArray) = mk [10] from rfl, mk_append]
                    have hc1 : ¬ 9223372036854775807 < line.length + 1 := by have := HLB.out; omega
                    have HT := Lib.hid (And.intro htx hln); clear htx hln
                    by_cases hte : tx = ln
                    · have v1 : (tx == ln) = true := by simpa using hte
                      have v2 : (tx != ln) = false := by simpa using hte
                      have HTE := Lib.hid hte; clear hte
                      go_wp2_with fail
                      go_roundw
                      case rel =>
                        refine ⟨1, j + 1, (⟨smallR x1, smallR x2, []⟩, Ac.zero), .slice none 0 0, kl, rfl, by first | rfl | go_num, ?_, by simp, by omega, fun h => absurd h (by decide), H5.out, Nat.zero_le _⟩
                        have h := HR.out.1.go (HLL.out.2.2.1 HE1.out) HLL.out.1 (st' := (⟨smallR x1, smallR x2, []⟩, Ac.zero)) (step0_ok (first_yes HQ2.out.symm (by rw [← HT.out.1, ← HT.out.2]; exact HTE.out))) (fun _ => rfl)
                        rw [show 0 + line.length + 1 = j + 1 by have := HLL.out.2.2.2; omega] at h
                        exact h
                      case measure =>
                        have := hpt
                        simp [RowKit.intOf]; omega
                    · have v1 : (tx == ln) = false := by simpa using hte
                      have v2 : (tx != ln) = true := by simpa using hte
                      have HTE := Lib.hid hte; clear hte
                      have r0 : _ = some (Value.int .i64 0) := H5.out.r2.cell 0
                      have r1 : _ = some (Value.int .i64 0) := H5.out.r2.cell 1
                      have r2 : _ = some (Value.slice none 0 0) := H5.out.r2.cell 2
                      have q0 := H5.out.r2.frozen 0; have q1 := H5.out.r2.frozen 1; have q2 := H5.out.r2.frozen 2
                      go_wp2_with fail
                      have hP : parseP t = (Sc.zero, 1, 11) := HR.out.1.err (HLL.out.2.2.1 HE1.out) HLL.out.1 (step0_bad (first_no (by rw [← HX.out.1, ← HX.out.2.1]; exact .inr (by rw [← HT.out.1, ← HT.out.2]; exact HTE.out))))
                      exact bodyPost_ret (rpar_res H5.out rfl rfl rfl rfl) rfl (rpar_post H5.out hP rfl)
                · obtain rfl : j = t.length := by omega
                  go_wp2_with fail
                  refine (rWords_any line (by have := HLB.out; omega)).mono ?_; rintro e w1 ⟨v1, rfl, ho1, hb1⟩
                  have H1 := Lib.hid (And.intro ho1 hb1); clear ho1 hb1
                  go_wp2_with (at_builtin; refine wpList_app_strs rfl _ _ rfl wc.heap.size v1 _ _ rfl (H1.out.1.alloc _) (.slice (some ⟨w1.heap.size, 0, none⟩) 2 2) [[], []] rfl (lit_strs w1 [[], []] (by simp)) ?few ?base ?_)
                  case few => have := splitC_few 32 line; have := HLB.out; simp; omega
                  case base => have := H1.out.2.size; simp; omega
                  intro v2 w2 o2 g2
                  obtain ⟨L2, hL2⟩ : ∃ x, x = splitC 32 line ++ [[], []] := ⟨_, rfl⟩
                  obtain ⟨N2, hN2⟩ : ∃ x, x = (splitC 32 line).length + 2 := ⟨_, rfl⟩
                  have o3 : w2.ownsRow wc.heap.size 9 1 v2 N2 (strs L2) := by rw [hL2, hN2]; exact o2
                  have hs0 : 0 < (splitC 32 line).length := List.length_pos_iff.2 (splitC_ne 32 line)
                  have hn3 : 3 ≤ N2 := by omega
                  obtain ⟨gb, cap, rfl, hg, hgl⟩ := o3.form (by omega)
                  have hb2 := (H1.out.2.alloc H1.out.2.size _).trans (g2.below.mono (Nat.le_refl _))
                  have hwd : ∀ i, i < 3 → w2.cell? ⟨gb, i, none⟩ = some (.string (mk (wd line i))) := fun i hi => by
                    rw [o3.cellAt i (by omega), hL2, strs, List.getElem?_map, List.getElem?_append, wd, List.getD]
                    by_cases hlt : i < (splitC 32 line).length
                    · rw [if_pos hlt, List.getElem?_eq_getElem hlt]; rfl
                    · rw [if_neg hlt, List.getElem?_eq_none (by omega : (splitC 32 line).length ≤ i)]
                      have h6 : i - (splitC 32 line).length < 2 := by omega
                      generalize i - (splitC 32 line).length = q at h6
                      have : ∀ q, q < 2 → ([[], []] : List Bs)[q]? = some [] := by decide
                      rw [this q h6]; rfl
                  have hsz := HRB.out.size
                  have H2 := Lib.hid (HRB.out.next hb2)
                  have m1 := hwd 1 (by omega)
                  have m2 := hwd 2 (by omega)
                  obtain ⟨x1, hx1⟩ : ∃ x, x = wd line 1 := ⟨_, rfl⟩
                  obtain ⟨x2, hx2⟩ : ∃ x, x = wd line 2 := ⟨_, rfl⟩
                  rw [← hx1] at m1
                  rw [← hx2] at m2
                  have HX := Lib.hid (And.intro hx1 (And.intro hx2 (show x1.length ≤ 1000000 ∧ x2.length ≤ 1000000 from by rw [hx1, hx2]; exact ⟨wd_le line 1 HLB.out, wd_le line 2 HLB.out⟩)))
                  have gne : gb ≠ w.heap.size + 1 := by omega
                  have gne2 : w.heap.size + 1 ≠ gb := by omega
                  have j1 : (1 : Int) < (N2 : Int) := by omega
                  have j2 : (2 : Int) < (N2 : Int) := by omega
                  have k1 : 1 < N2 := by omega
                  have k2 : 2 < N2 := by omega
                  clear hb2 hg hgl o2 o3 g2 hL2 hN2 hs0 hn3 hwd hx1 hx2 hsz
                  have y0 : w2.cell? ⟨w.heap.size + 1, 0, none⟩ = some (.int .i64 0) := H2.out.bs.cell 0
                  have y1 : w2.cell? ⟨w.heap.size + 1, 1, none⟩ = some (.int .i64 0) := H2.out.bs.cell 1
                  have z0 := H2.out.bs.frozen 0; have z1 := H2.out.bs.frozen 1
                  go_upto_region 15 with fail
                  refine wp_region_still_tail 9 (by kernel_rfl) (by kernel_rfl) ?_
                  simp only [List.take_succ_cons, List.take_zero, List.drop_succ_cons, List.drop_zero]
                  still_step
                  still_step
                  still_step
                  still_call (rSmall_any x1 HX.out.2.2.1)
                  still_step
                  still_step
                  still_step
                  still_call (rSmall_any x2 HX.out.2.2.2)
                  still_step
                  refine wpStill_nil ?_
                  have hdrew : ({ w2 with drawn := w2.drawn + 1 } : World) = w2.drew := rfl
                  rw [hdrew]
                  clear hdrew
                  go_upto_region 16 with fail
                  obtain ⟨Z, hZ⟩ : ∃ Z, Z = ((w2.setCell ⟨w.heap.size + 1, 0, none⟩ (.int .i64 (smallR x1))).setCell ⟨w.heap.size + 1, 1, none⟩ (.int .i64 (smallR x2))).drew := ⟨_, rfl⟩
                  have HZ := Lib.hid (show RB w ⟨smallR x1, smallR x2, []⟩ (.slice none 0 0) Ac.zero kl Z by rw [hZ]; exact (H2.out.first _ _).next (Below.refl _ _).drew)
                  rw [← hZ]
                  clear hZ y0 y1 z0 z1 m1 m2 gne gne2 j1 j2 k1 k2
                  have r0 : _ = some (Value.int .i64 0) := HZ.out.r2.cell 0
                  have r1 : _ = some (Value.int .i64 0) := HZ.out.r2.cell 1
                  have r2 : _ = some (Value.slice none 0 0) := HZ.out.r2.cell 2
                  have q0 := HZ.out.r2.frozen 0; have q1 := HZ.out.r2.frozen 1; have q2 := HZ.out.r2.frozen 2
                  go_wp2_with fail
                  have hP : parseP t = (Sc.zero, 1, 11) := HR.out.1.cut (by rw [HLL.out.2.1 (by first | trivial | rfl)]; exact HLL.out.1) (.inr rfl)
                  exact bodyPost_ret (rpar_res HZ.out rfl rfl rfl rfl) rfl (rpar_post HZ.out hP rfl)
              · --another line
                have en : (n == 1) = false := by rw [HN.out]; simp; omega
                have HK := Lib.hid hk; clear hk
                by_cases he : j < t.length
                · have e1 : (j : Int) < (t.length : Int) := by omega
                  have HE1 := Lib.hid (HE.out.resolve_left (by omega))
                  go_wp2_with fail
                  refine (rOfLine_any line HLB.out).mono ?_; rintro e w8 ⟨hb8, he8⟩
                  rw [refOf_eq] at he8
                  have H8 := Lib.hid (And.intro (HRB.out.next hb8) hb8); clear hb8
                  cases hf : lineOf line with
                  | none =>
                    rw [hf] at he8
                    dsimp only at he8
                    obtain rfl := he8
                    have HF := Lib.hid hf; clear hf
                    obtain ⟨X, hX⟩ : ∃ X, X = w8.alloc (.cells (acC Ac.zero (.slice none 0 0)) 31) := ⟨_, rfl⟩
                    have HX := Lib.hid (show RB w st.1 v st.2 kl X by rw [hX]; exact H8.out.1.next ((Below.refl _ _).alloc (Nat.le_refl _) _))
                    unfold acC at hX
                    unfold acC
                    go_upto_region 19 with fail
                    rw [← hX]
                    clear hX
                    have r0 : _ = some (Value.int .i64 0) := HX.out.r2.cell 0
                    have r1 : _ = some (Value.int .i64 0) := HX.out.r2.cell 1
                    have r2 : _ = some (Value.slice none 0 0) := HX.out.r2.cell 2
                    have q0 := HX.out.r2.frozen 0; have q1 := HX.out.r2.frozen 1; have q2 := HX.out.r2.frozen 2
                    go_wp2_with fail
                    have hP : parseP t = (Sc.zero, n, 11) := by rw [HN.out]; exact HR.out.1.err (HLL.out.2.2.1 HE1.out) HLL.out.1 (stepP_none HK.out (trim_nl _).symm HF.out)
                    exact bodyPost_ret (rpar_res HX.out rfl rfl rfl rfl) rfl (rpar_post HX.out hP rfl)
                  | some q =>
                    obtain ⟨a, nn⟩ := q
                    rw [hf] at he8
                    dsimp only at he8
                    obtain ⟨kv, rfl, hr8, hnew⟩ := he8
                    obtain ⟨hma, hta, hti, hli⟩ := lineOf_some hf
                    obtain ⟨m, rfl⟩ : ∃ m : Nat, nn = m := ⟨nn.toNat, by have := hti.1; omega⟩
                    obtain ⟨kA, kc, rfl⟩ := hr8.len
                    have HF := Lib.hid (And.intro hf (show 1 ≤ m ∧ m ≤ 100000 from by have := hti.1; have := hti.2.1; omega)); clear hf hma hta hti hli
                    have hkf := lineOf_few HF.out.1
                    obtain ⟨X, hX⟩ : ∃ X, X = w8.alloc (.cells (acC a (.slice kA a.keep.length kc)) 31) := ⟨_, rfl⟩
                    have HX := Lib.hid (show RB w st.1 v st.2 kl X ∧ Blk X w8.heap.size 31 (acC a (.slice kA a.keep.length kc)) ∧ KR X (w.heap.size + 3) v (.slice kA a.keep.length kc) a.keep ∧ w.heap.size + 3 ≤ w8.heap.size ∧ v.ownBlock ≠ some w8.heap.size ∧ a.keep.length ≤ 1000000 by
                      have hbX : Below w8.heap.size w8 X := by rw [hX]; exact (Below.refl _ _).alloc (Nat.le_refl _) _
                      have hs1 := HRB.out.size
                      have hs2 := H8.out.2.size
                      obtain ⟨xs, ho, _⟩ := HRB.out.ao
                      refine ⟨H8.out.1.next hbX, by rw [hX]; exact Blk.new _ _ _, ⟨hr8.next hbX, fun hn r e => ⟨by have := hnew r e; omega, fun e2 => ?_⟩⟩, by omega, fun e2 => ?_, by have := HLB.out; omega⟩
                      · have := (ho.lt r e2).2; have := hnew r e; omega
                      · have := (ho.lt _ e2).2; omega)
                    obtain ⟨g, hg⟩ : ∃ g, g = w8.heap.size := ⟨_, rfl⟩
                    rw [← hg] at HX
                    clear hr8 hnew hkf
                    unfold acC at hX
                    unfold acC
                    go_upto_region 19 with fail
                    rw [← hX, ← hg]
                    clear hX hg
                    obtain ⟨la, hla⟩ : ∃ la, la = st.2 := ⟨_, rfl⟩
                    obtain ⟨sc, hsc⟩ : ∃ sc, sc = st.1 := ⟨_, rfl⟩
                    rw [← hla, ← hsc] at HX
                    have HLA := Lib.hid (And.intro hla hsc); clear hla hsc
                    go_cut [103] (fun s103 wx => ∃ q : Bool, s103 = .bool q ∧ (RB w sc v la kl wx ∧ Blk wx g 31 (acC a (.slice kA a.keep.length kc)) ∧ KR wx (w.heap.size + 3) v (.slice kA a.keep.length kc) a.keep) ∧ (q = true → again a = true ∧ a = la) ∧ (q = false → ¬ (again a = true ∧ a = la)))
                    case first =>
                      obtain ⟨d0, d1, d2, d3, d4, d5, d6, d7, d8, d9⟩ := acCells HX.out.2.1
                      try dsimp only at d0 d1 d2 d3 d4 d5 d6 d7 d8 d9
                      go_wp2_with fail
                      refine (rAgain_any a kA a.keep.length kc).mono ?_
                      rintro e w9 ⟨he9, hb9⟩
                      obtain ⟨q, hq⟩ : ∃ q, q = again a := ⟨_, rfl⟩
                      rw [← hq] at he9
                      obtain rfl := he9
                      have HQ2 := Lib.hid hq; clear hq
                      have H9 := Lib.hid (show RB w sc v la kl w9 ∧ Blk w9 g 31 (acC a (.slice kA a.keep.length kc)) ∧ KR w9 (w.heap.size + 3) v (.slice kA a.keep.length kc) a.keep from
                        ⟨HX.out.1.next hb9, HX.out.2.1.below hb9 HX.out.2.1.lt, HX.out.2.2.1.turn (Below.grown0 hb9) (fun r e => by cases e)⟩)
                      clear hb9 d0 d1 d2 d3 d4 d5 d6 d7 d8 d9
                      cases q with
                      | false =>
                        go_wp2_with fail
                        go_meet
                        exact ⟨false, rfl, H9.out, fun h => (by cases h), fun _ h => by rw [← HQ2.out] at h; cases h.1⟩
                      | true =>
                        obtain ⟨d0, d1, d2, d3, d4, d5, d6, d7, d8, d9⟩ := acCells H9.out.2.1
                        obtain ⟨lA, lc, rfl⟩ := H9.out.1.kr.1.len
                        obtain ⟨f0, f1, f2, f3, f4, f5, f6, f7, f8, f9⟩ := acCells H9.out.1.bl
                        try dsimp only at d0 d1 d2 d3 d4 d5 d6 d7 d8 d9 f0 f1 f2 f3 f4 f5 f6 f7 f8 f9
                        go_wp2_with fail
                        refine (rSame_any a la _ _ H9.out.2.2.1 H9.out.1.kr.1 (by have := HX.out.2.2.2.2.2; omega)).mono ?_
                        rintro e w10 ⟨he10, hb10⟩
                        obtain ⟨s, hs⟩ : ∃ s, s = decide (a = la) := ⟨_, rfl⟩
                        rw [← hs] at he10
                        obtain rfl := he10
                        have HS2 := Lib.hid hs; clear hs
                        have H10 := Lib.hid (show RB w sc v la (.slice lA la.keep.length lc) w10 ∧ Blk w10 g 31 (acC a (.slice kA a.keep.length kc)) ∧ KR w10 (w.heap.size + 3) v (.slice kA a.keep.length kc) a.keep from
                          ⟨H9.out.1.next hb10, H9.out.2.1.below hb10 H9.out.2.1.lt, H9.out.2.2.turn (Below.grown0 hb10) (fun r e => by cases e)⟩)
                        clear hb10 d0 d1 d2 d3 d4 d5 d6 d7 d8 d9 f0 f1 f2 f3 f4 f5 f6 f7 f8 f9
                        go_wp2_with fail
                        go_meet
                        refine ⟨s, rfl, H10.out, fun h => ⟨HQ2.out.symm, ?_⟩, fun h hh => ?_⟩
                        · have := HS2.out; rw [h] at this; exact of_decide_eq_true this.symm
                        · have := HS2.out; rw [h] at this; exact of_decide_eq_false this.symm hh.2
                    case rest =>
                      obtain ⟨q, rfl, h10, hqt, hqf⟩ := hcut
                      have H10 := Lib.hid h10; clear h10
                      cases q with
                      | true =>
                        have HQ3 := Lib.hid (hqt rfl); clear hqt hqf
                        have HXR := Lib.hid H10.out.1
                        have r0 : _ = some (Value.int .i64 0) := HXR.out.r2.cell 0
                        have r1 : _ = some (Value.int .i64 0) := HXR.out.r2.cell 1
                        have r2 : _ = some (Value.slice none 0 0) := HXR.out.r2.cell 2
                        have q0 := HXR.out.r2.frozen 0; have q1 := HXR.out.r2.frozen 1; have q2 := HXR.out.r2.frozen 2
                        go_wp2_with fail
                        have hP : parseP t = (Sc.zero, n, 11) := by
                          rw [HN.out]
                          exact HR.out.1.err (HLL.out.2.2.1 HE1.out) HLL.out.1 (stepP_same HK.out (trim_nl _).symm HF.out.1 (.inr ⟨HR.out.1.two HK.out HF.out.1 (by rw [← HLA.out.1]; exact HQ3.out.2), HQ3.out.1, by rw [← HLA.out.1]; exact HQ3.out.2⟩))
                        exact bodyPost_ret (rpar_res HXR.out rfl rfl rfl rfl) rfl (rpar_post HXR.out hP rfl)
                      | false =>
                        have HQ3 := Lib.hid (hqf rfl); clear hqt hqf
                        obtain ⟨slabs, clients, acts⟩ := sc
                        obtain ⟨vA, vc, rfl⟩ := H10.out.1.ao.acts.len
                        have c2 : _ = some (Value.slice vA acts.length vc) := H10.out.1.bs.cell 2
                        have hlen2 : acts.length ≤ 100000 := by have := HR.out.2.1; rw [← HLA.out.2] at this; exact this
                        have hm2 := HF.out.2
                        have hw6 : IntKind.i64.wrap ((acts.length : Int) + (m : Int)) = (acts.length : Int) + (m : Int) := IntWalk.i64_in _ (by omega)
                        have HST := Lib.hid (show ¬ (Go.Lib.hasSuffix (line ++ [10]) [10] = false ∨ (2 ≤ k ∧ again a = true ∧ a = st.2)) from by
                          rw [has_nl]
                          rintro (h | ⟨_, h2, h3⟩)
                          · cases h
                          · exact HQ3.out ⟨h2, by rw [HLA.out.1]; exact h3⟩)
                        by_cases hbig : 100000 < acts.length + m
                        · have hbI : (100000 : Int) < (acts.length : Int) + (m : Int) := by omega
                          have HBG := Lib.hid hbig; clear hbig hlen2 hm2
                          have HXR := Lib.hid H10.out.1
                          have r0 : _ = some (Value.int .i64 0) := HXR.out.r2.cell 0
                          have r1 : _ = some (Value.int .i64 0) := HXR.out.r2.cell 1
                          have r2 : _ = some (Value.slice none 0 0) := HXR.out.r2.cell 2
                          have q0 := HXR.out.r2.frozen 0; have q1 := HXR.out.r2.frozen 1; have q2 := HXR.out.r2.frozen 2
                          go_wp2_with fail
                          have hP : parseP t = (Sc.zero, n, 10) := by
                            rw [HN.out]
                            exact HR.out.1.err (HLL.out.2.2.1 HE1.out) HLL.out.1 (stepP_many HK.out (trim_nl _).symm HF.out.1 HST.out (by rw [← HLA.out.2]; have := HBG.out; simp only; omega))
                          exact bodyPost_ret (rpar_res HXR.out rfl rfl rfl rfl) rfl (rpar_post HXR.out hP rfl)
                        · have HBG := Lib.hid (show acts.length + m ≤ 100000 by omega)
                          have hbI : (acts.length : Int) + (m : Int) ≤ 100000 := by omega
                          clear hbig hlen2 hm2
                          go_upto_region 23 with fail
                          clear c2 hw6 hbI
                          obtain ⟨d0, d1, d2, d3, d4, d5, d6, d7, d8, d9⟩ := acCells H10.out.2.1
                          try dsimp only at d0 d1 d2 d3 d4 d5 d6 d7 d8 d9
                          obtain ⟨lA, lc, rfl⟩ := H10.out.1.kr.1.len
                          obtain ⟨f0, f1, f2, f3, f4, f5, f6, f7, f8, f9⟩ := acCells H10.out.1.bl
                          try dsimp only at f0 f1 f2 f3 f4 f5 f6 f7 f8 f9
                          have z0 := H10.out.1.bl.frozen 0; have z1 := H10.out.1.bl.frozen 1; have z2 := H10.out.1.bl.frozen 2; have z3 := H10.out.1.bl.frozen 3; have z4 := H10.out.1.bl.frozen 4
                          have z5 := H10.out.1.bl.frozen 5; have z6 := H10.out.1.bl.frozen 6; have z7 := H10.out.1.bl.frozen 7; have z8 := H10.out.1.bl.frozen 8; have z9 := H10.out.1.bl.frozen 9
                          have gz : g ≠ w.heap.size + 2 := by rintro rfl; have := HX.out.2.2.2.1; omega
                          obtain ⟨Y, hY⟩ : ∃ Y, Y = put10 wc (w.heap.size + 2) a (.slice kA a.keep.length kc) := ⟨_, rfl⟩
                          have HY := Lib.hid (show RB w ⟨slabs, clients, acts⟩ (.slice vA acts.length vc) a (.slice kA a.keep.length kc) Y ∧ Blk Y g 31 (acC a (.slice kA a.keep.length kc)) by
                            rw [hY]
                            exact ⟨H10.out.1.setLast a _ H10.out.2.2, H10.out.2.1.grown (grown_put10 _ _ _ _) (fun e => by injection e with e; exact gz e)⟩)
                          unfold put10 at hY
                          go_upto_region 24 with fail
                          rw [← hY]
                          clear hY d0 d1 d2 d3 d4 d5 d6 d7 d8 d9 f0 f1 f2 f3 f4 f5 f6 f7 f8 f9 z0 z1 z2 z3 z4 z5 z6 z7 z8 z9 gz
                          go_upto_region 25 with fail
                          go_loopw [16] (fun s16 wi => ∃ (i : Nat) (v' : Value), s16 = .int .i64 i ∧ i ≤ m ∧ RB w ⟨slabs, clients, acts ++ List.replicate i a⟩ v' a (.slice kA a.keep.length kc) wi ∧ Blk wi g 31 (acC a (.slice kA a.keep.length kc)) ∧ v'.ownBlock ≠ some g) (fun s16 _ => m - (RowKit.intOf s16).toNat)
                          case atStart => exact ⟨0, .slice vA acts.length vc, rfl, Nat.zero_le _, by rw [List.replicate_zero, List.append_nil]; exact HY.out.1, HY.out.2, HX.out.2.2.2.2.1⟩
                          case round =>
                            obtain ⟨i, v', rfl, him, hrb3, hblk3, hvg⟩ := hrel
                            have HI := Lib.hid (And.intro him (And.intro hrb3 (And.intro hblk3 hvg))); clear him hrb3 hblk3 hvg
                            by_cases hlt : i < m
                            · have hltI : (i : Int) < (m : Int) := by omega
                              have hbA : Below wr.heap.size wr (wr.alloc (.cells (acC a (.slice kA a.keep.length kc)) 31)) := (Below.refl _ _).alloc (Nat.le_refl _) _
                              have HRA := Lib.hid (HI.out.2.1.next hbA); clear hbA
                              obtain ⟨xs, ho, hrows⟩ := HRA.out.ao
                              have HRO := Lib.hid (And.intro ho hrows); clear ho hrows
                              obtain ⟨N, hN⟩ : ∃ N, N = (acts ++ List.replicate i a).length := ⟨_, rfl⟩
                              have hNb : N ≤ 100000 := by rw [hN]; simp; have := HBG.out; omega
                              have HNN := Lib.hid (And.intro hN hNb)
                              have c2 : wr.cell? ⟨w.heap.size + 1, 2, none⟩ = some v' := HI.out.2.1.bs.cell 2
                              obtain ⟨d0, d1, d2, d3, d4, d5, d6, d7, d8, d9⟩ := acCells HI.out.2.2.1
                              try dsimp only at d0 d1 d2 d3 d4 d5 d6 d7 d8 d9
                              have hbl : Blk (wr.alloc (.cells (acC a (.slice kA a.keep.length kc)) 31)) wr.heap.size 31 (acC a (.slice kA a.keep.length kc)) := Blk.new _ _ _
                              have HBL := Lib.hid hbl; clear hbl hN hNb
                              have hown := HRO.out.1
                              dsimp only at hown
                              rw [← HNN.out.1] at hown
                              have HOW := Lib.hid hown; clear hown
                              have hw7 : IntKind.i64.wrap ((i : Int) + 1) = (i : Int) + 1 := IntWalk.i64_in _ (by have := HF.out.2; omega)
                              have hsz := HI.out.2.1.size
                              have HSZ := Lib.hid hsz; clear hsz
                              go_wp2_with (at_builtin; refine wpList_app_act rfl _ _ rfl (w.heap.size + 3) v' N xs rfl HOW.out wr.heap.size a (.slice kA a.keep.length kc) rfl rfl HBL.out HNN.out.2 ?base ?_)
                              case base => have := HSZ.out; simp; omega
                              intro v2 w2 o2 g2 hv2
                              obtain ⟨gv, vcap, rfl, hgv1, hgv2⟩ := o2.form (Nat.succ_pos _)
                              clear hgv1 hgv2
                              have hlo : ∀ r, v'.ownBlock = some r → w.heap.size + 3 ≤ r := fun r e => (HOW.out.lt r e).1
                              have hbs := HRA.out.bs.grown g2 (fun e => by have := hlo _ e.symm; omega)
                              have y2 : w2.cell? ⟨w.heap.size + 1, 2, none⟩ = some v' := hbs.cell 2
                              have z2 := hbs.frozen 2
                              have o4 : w2.ownsRow (w.heap.size + 3) 31 10 (.slice (some ⟨gv, 0, none⟩) (N + 1) vcap) ((acts ++ List.replicate i a).length + 1) (xs ++ (acC a (.slice kA a.keep.length kc)).toList) := by rw [← HNN.out.1]; exact o2
                              have HPU := Lib.hid (HRA.out.push (b := a) (kv := .slice kA a.keep.length kc) HRO.out.1 HRO.out.2 HRA.out.kr o4 g2 (by rw [World.size_alloc]; exact hv2))
                              have hbg2 := (((HI.out.2.2.1.alloc (.cells (acC a (.slice kA a.keep.length kc)) 31)).grown g2 (fun e => HI.out.2.2.2 e.symm)).far (p := ⟨w.heap.size + 1, 2, none⟩) (show g ≠ w.heap.size + 1 by have := HX.out.2.2.2.1; omega) (.slice (some ⟨gv, 0, none⟩) (N + 1) vcap))
                              have HBG2 := Lib.hid (And.intro hbg2 (show (Value.slice (some ⟨gv, 0, none⟩) (N + 1) vcap).ownBlock ≠ some g from by
                                rcases hv2 with h | h
                                · rw [h]; exact HI.out.2.2.2
                                · rw [h]; have := HI.out.2.2.1.lt; intro e; injection e with e; omega))
                              clear hbg2 hbs o2 o4 g2 hv2 hlo d0 d1 d2 d3 d4 d5 d6 d7 d8 d9 c2
                              go_wp2_with fail
                              go_roundw
                              case rel =>
                                refine ⟨i + 1, .slice (some ⟨gv, 0, none⟩) (N + 1) vcap, by first | rfl | go_num, by omega, ?_, HBG2.out.1, HBG2.out.2⟩
                                rw [List.replicate_succ', ← List.append_assoc]
                                exact HPU.out.1
                              case measure => simp [RowKit.intOf]; omega
                            · obtain rfl : i = m := by have := HI.out.1; omega
                              have hiI : (i : Int) ≤ (i : Int) := Int.le_refl _
                              go_wp2_with fail
                              go_roundw
                              case rel =>
                                refine ⟨k + 1, j + 1, (⟨slabs, clients, acts ++ List.replicate i a⟩, a), v', .slice kA a.keep.length kc, by rw [HN.out]; rfl, by first | rfl | go_num, ?_, ?_, ?_, fun h => absurd h (by omega), HI.out.2.1, HX.out.2.2.2.2.2⟩
                                · have h := HR.out.1.go (HLL.out.2.2.1 HE1.out) HLL.out.1 (stepP_go HK.out (trim_nl _).symm HF.out.1 HST.out (by rw [← HLA.out.2]; have := HBG.out; simp only; omega)) (fun h => absurd h HK.out)
                                  rw [← HLA.out.2, Int.toNat_natCast, show p + line.length + 1 = j + 1 by have := HLL.out.2.2.2; omega] at h
                                  exact h
                                · simp; exact HBG.out
                                · have := HR.out.2.2.1; omega
                              case measure =>
                                simp [RowKit.intOf]; omega
                · obtain rfl : j = t.length := by omega
                  have HCUT := Lib.hid (show p < t.length from by
                    have h := HQ.out
                    rcases h with h | h
                    · exact h
                    · exact absurd h HK.out)
                  go_wp2_with fail
                  refine (rOfLine_any line HLB.out).mono ?_; rintro e w8 ⟨hb8, he8⟩
                  rw [refOf_eq] at he8
                  have H8 := Lib.hid (And.intro (HRB.out.next hb8) hb8); clear hb8
                  cases hf : lineOf line with
                  | none =>
                    rw [hf] at he8
                    dsimp only at he8
                    obtain rfl := he8
                    have HF := Lib.hid hf; clear hf
                    obtain ⟨X, hX⟩ : ∃ X, X = w8.alloc (.cells (acC Ac.zero (.slice none 0 0)) 31) := ⟨_, rfl⟩
                    have HX := Lib.hid (show RB w st.1 v st.2 kl X by rw [hX]; exact H8.out.1.next ((Below.refl _ _).alloc (Nat.le_refl _) _))
                    unfold acC at hX
                    unfold acC
                    go_upto_region 19 with fail
                    rw [← hX]
                    clear hX
                    have r0 : _ = some (Value.int .i64 0) := HX.out.r2.cell 0
                    have r1 : _ = some (Value.int .i64 0) := HX.out.r2.cell 1
                    have r2 : _ = some (Value.slice none 0 0) := HX.out.r2.cell 2
                    have q0 := HX.out.r2.frozen 0; have q1 := HX.out.r2.frozen 1; have q2 := HX.out.r2.frozen 2
                    go_wp2_with fail
                    have hP : parseP t = (Sc.zero, n, 11) := by rw [HN.out]; exact HR.out.1.cut (by rw [HLL.out.2.1 (by first | trivial | rfl)]; exact HLL.out.1) (.inl HCUT.out)
                    exact bodyPost_ret (rpar_res HX.out rfl rfl rfl rfl) rfl (rpar_post HX.out hP rfl)
                  | some q =>
                    obtain ⟨a, nn⟩ := q
                    rw [hf] at he8
                    dsimp only at he8
                    obtain ⟨kv, rfl, hr8, hnew⟩ := he8
                    obtain ⟨hma, hta, hti, hli⟩ := lineOf_some hf
                    obtain ⟨m, rfl⟩ : ∃ m : Nat, nn = m := ⟨nn.toNat, by have := hti.1; omega⟩
                    obtain ⟨kA, kc, rfl⟩ := hr8.len
                    have HF := Lib.hid (And.intro hf (show 1 ≤ m ∧ m ≤ 100000 from by have := hti.1; have := hti.2.1; omega)); clear hf hma hta hti hli
                    have hkf := lineOf_few HF.out.1
                    obtain ⟨X, hX⟩ : ∃ X, X = w8.alloc (.cells (acC a (.slice kA a.keep.length kc)) 31) := ⟨_, rfl⟩
                    have HX := Lib.hid (show RB w st.1 v st.2 kl X ∧ Blk X w8.heap.size 31 (acC a (.slice kA a.keep.length kc)) ∧ KR X (w.heap.size + 3) v (.slice kA a.keep.length kc) a.keep ∧ w.heap.size + 3 ≤ w8.heap.size ∧ v.ownBlock ≠ some w8.heap.size ∧ a.keep.length ≤ 1000000 by
                      have hbX : Below w8.heap.size w8 X := by rw [hX]; exact (Below.refl _ _).alloc (Nat.le_refl _) _
                      have hs1 := HRB.out.size
                      have hs2 := H8.out.2.size
                      obtain ⟨xs, ho, _⟩ := HRB.out.ao
                      refine ⟨H8.out.1.next hbX, by rw [hX]; exact Blk.new _ _ _, ⟨hr8.next hbX, fun hn r e => ⟨by have := hnew r e; omega, fun e2 => ?_⟩⟩, by omega, fun e2 => ?_, by have := HLB.out; omega⟩
                      · have := (ho.lt r e2).2; have := hnew r e; omega
                      · have := (ho.lt _ e2).2; omega)
                    obtain ⟨g, hg⟩ : ∃ g, g = w8.heap.size := ⟨_, rfl⟩
                    rw [← hg] at HX
                    clear hr8 hnew hkf
                    unfold acC at hX
                    unfold acC
                    go_upto_region 19 with fail
                    rw [← hX, ← hg]
                    clear hX hg
                    have HXR := Lib.hid HX.out.1
                    have r0 : _ = some (Value.int .i64 0) := HXR.out.r2.cell 0
                    have r1 : _ = some (Value.int .i64 0) := HXR.out.r2.cell 1
                    have r2 : _ = some (Value.slice none 0 0) := HXR.out.r2.cell 2
                    have q0 := HXR.out.r2.frozen 0; have q1 := HXR.out.r2.frozen 1; have q2 := HXR.out.r2.frozen 2
                    go_wp2_with fail
                    have hP : parseP t = (Sc.zero, n, 11) := by rw [HN.out]; exact HR.out.1.cut (by rw [HLL.out.2.1 (by first | trivial | rfl)]; exact HLL.out.1) (.inl HCUT.out)
                    exact bodyPost_ret (rpar_res HXR.out rfl rfl rfl rfl) rfl (rpar_post HXR.out hP rfl)
end Go.Proofs.YtbpbkmhipbchbaaGreatDoor.sc
