/-
  PROVED HERE: tear.Image's contract: the image of a tear, or that it is none. Conditions: the receiver is a memory of few lines and few stores; the tear's numbers are read.
-/
import Derived.Test.YtfjjiohclokohaaTIP
import Derived.Test.YtfjjiohclokohaaCopy
namespace Go.Proofs.Ytfjjiohclokohaa.pm
open Go.RowKit Go.Proofs.Ytfjjiohclokohaa.tp
set_option linter.unusedVariables false

theorem Few.of_perm {M : Mod} {qs : List (Int × Line)} {c : Nat} (h : ∀ q ∈ M.lines, q.2.puts.length ≤ c) (hp : qs.Perm M.lines) : ∀ q ∈ qs, q.2.puts.length ≤ c := fun q hq => h q (hp.mem_iff.1 hq)

def ImgPost (w : World) (M : Mod) (ks : List Int) (e : Ending) (W' : World) : Prop :=
  Keeps [] w W' ∧ ((Good M ks ∧ ∃ v, e = .returned (.tuple #[v, .int .i64 0]) ∧ RowAt W' 5 1 v (8 * M.image.length) ((bytesOf (timg M ks)).map (Value.int .u8)) ∧ ∀ g, v.ownBlock = some g → w.heap.size ≤ g) ∨
    (¬ Good M ks ∧ e = .returned (.tuple #[.slice none 0 0, .int .i64 2])))

theorem Mod.crashN_image : ∀ (l : List (Nat × Int)) (M : Mod) (ks : List Int), (M.crashN ks l).image.length = M.image.length
  | [], _, _ => rfl
  | x :: l, M, ks => by
    show (Mod.crashN (M.crashStep ks x) ks l).image.length = _
    rw [Mod.crashN_image l]
    unfold Mod.crashStep
    split
    · rfl
    · simp [Mod.last, lasts_length]
theorem WF.crash {M : Mod} (h : WF M) (ks : List Int) : WF (M.crash ks) := by
  have h2 := WF.crashN (M.keys.mapIdx Prod.mk) ks h
  refine ⟨rfl, ?_, ?_, fun q hq => ?_, h2.image, h2.image⟩
  · show 0 < (M.crashN ks _).image.length
    rw [h2.len]; exact h2.pos
  · show (M.crashN ks _).image.length ≤ _
    rw [h2.len]; exact h2.small
  · simp [Mod.crash] at hq

set_option maxRecDepth 100000 in
set_option maxHeartbeats 4000000 in
theorem tearImage_any {w : World} {b : Nat} {p : Pl} {M : Mod} (h : IsMem w b p M) (hw : WF M) (hN : M.lines.length ≤ 1000) (hf : ∀ q ∈ M.lines, q.2.puts.length ≤ 1000)
    {kv : Value} {ks : List Int} (hk : KeepAt w kv ks) (hku : ∀ k ∈ ks, -9223372036854775808 ≤ k ∧ k ≤ 9223372036854775807) (hkl : ks.length ≤ 1000000) (hka : ∀ g, kv.ownBlock = some g → g < w.heap.size) :
    Calls Try.prog 14 #[.pointer (some ⟨b, 0, none⟩), kv] w (ImgPost w M ks) := by
  have hkeys := M.keys_length
  have HL := Lib.hid (lines_any h hw (by omega))
  have HTh := Lib.hid (tthere_any h.blkAt hw.pos hw.small)
  obtain ⟨ao', cp', rfl, hkr⟩ := hk
  obtain ⟨L, hL⟩ : ∃ L, L = M.lines.length := ⟨_, rfl⟩
  obtain ⟨T, hT⟩ : ∃ T, T = ks.length := ⟨_, rfl⟩
  rw [← hL] at HL hN hkeys
  rw [← hT] at hkr hkl hka ⊢
  have HM := Lib.hid (And.intro h (And.intro hw (And.intro hf (And.intro hL hkeys))))
  have HK := Lib.hid (And.intro hkr (And.intro hku (And.intro hka hT)))
  clear h hw hf hL hkeys hkr hku hka hT
  go_enter Try.func14, Try.ntmps14
  go_wp2_with fail
  refine HTh.out.mono ?_
  rintro e w1 ⟨rfl, rfl⟩
  go_wp2_with fail
  refine HL.out.mono ?_
  rintro e w1 ⟨v, rfl, hrow, hk1, hg1⟩
  obtain ⟨ao, cp, rfl⟩ := reads_shape hrow.reads
  have HR := Lib.hid (And.intro hrow (And.intro hk1 hg1)); clear hrow hk1 hg1
  by_cases hlen : T = L
  · subst hlen
    go_wp2_with fail
    go_loopw [22] (fun s22 wr => ∃ j : Nat, j ≤ T ∧ s22 = .int .i64 j ∧ Keeps [] w1 wr ∧ ∀ (i : Nat) (k t : Int), i < j → M.keys[i]? = some k → ks[i]? = some t → 0 ≤ t ∧ t ≤ M.pendK k) (fun s22 _ => T - (intOf s22).toNat)
    case atStart => exact ⟨0, Nat.zero_le _, rfl, Keeps.refl _ _, fun i k t hi => absurd hi (by omega)⟩
    case round =>
      obtain ⟨j, hj, rfl, hk, hgood⟩ := hrel
      by_cases hlt : j < T
      · obtain ⟨h, hw, hf, hL, hkeys⟩ := HM.out
        obtain ⟨hkr, hku, hka, hT⟩ := HK.out
        obtain ⟨hr1, hk1, hg1⟩ := HR.out
        obtain ⟨k, hkj⟩ : ∃ k, M.keys[j]? = some k := ⟨_, List.getElem?_eq_getElem (by omega)⟩
        obtain ⟨t, htj⟩ : ∃ t, ks[j]? = some t := ⟨_, List.getElem?_eq_getElem (by omega)⟩
        obtain ⟨b2, of2, rfl, c1⟩ := reads_cell (wr := wr) hr1.reads (fun q _ hq => hk.block q hq (by simp)) (j := j) (u := .int .u64 k) (by simp [hkj])
        obtain ⟨b3, of3, rfl, c2⟩ := reads_cell (wr := wr) hkr (fun q hq hq2 => (hk1.trans hk (by simp)).block q hq2 (by simp)) (j := j) (u := .int .i64 t) (by simp [htj])
        obtain ⟨hk0, hk8, hkm, hpe⟩ := key_facts hw (List.mem_of_getElem? hkj)
        have hIr : ∀ n, IsMem (wr.drewN n) b p M := fun n => h.keeps ((hk1.trans hk (by simp)).trans (Keeps.drewBy wr n) (by simp)) (by simp)
        obtain ⟨u, hu⟩ : ∃ u, u = M.pendK k := ⟨_, rfl⟩
        have HP : ∀ n, Calls Try.prog 24 #[.pointer (some ⟨b, 0, none⟩), .int .u64 k] (wr.drewN n) fun e w' => e = .returned (.int .i64 (u : Nat)) ∧ ∃ m, w' = (wr.drewN n).drewN m := fun n => by
          have := pending_any (hIr n) hw.pos hw.small k hk0 hk8 hkm
          rw [hpe, ← hu] at this
          exact this.mono fun e w' ⟨h1, h2⟩ => ⟨h1, 1, h2⟩
        have htb := hku t (List.mem_of_getElem? htj)
        have hjL : (j : Int) < (T : Int) := by omega
        have hGi : ¬ (0 ≤ t ∧ t ≤ (u : Int)) → ¬ Good M ks := fun hn hg => hn (by rw [hu]; exact hg.2 j k t hkj htj)
        have HX := Lib.hid (And.intro hk (And.intro hgood (And.intro hu (And.intro hkj (And.intro htj hGi)))))
        have HPh := Lib.hid HP
        clear h hw hf hL hkeys hkr hku hka hT hr1 hk1 hg1 hkj hk0 hk8 hkm hpe hIr hu htj hk hgood HP hGi
        by_cases hneg : t < 0
        · go_wp2_with fail
          go_quiet (fail)
          go_wp2_with fail
          go_ret2
          exact ⟨(HR.out.2.1.trans HX.out.1 (by simp)).trans (Keeps.drewBy wr nq) (by simp), .inr ⟨HX.out.2.2.2.2.2 (by omega), rfl⟩⟩
        · have hnb : decide (t < (0 : Int)) = false := decide_eq_false hneg
          by_cases hgt : (u : Int) < t
          · go_wp2_with fail
            go_quiet (first | (go_at_call 24; refine Calls.quiet_of (HPh.out _)))
            go_wp2_with fail
            go_ret2
            exact ⟨(HR.out.2.1.trans HX.out.1 (by simp)).trans (Keeps.drewBy wr nq) (by simp), .inr ⟨HX.out.2.2.2.2.2 (by omega), rfl⟩⟩
          · have hle : t ≤ (u : Int) := by omega
            go_wp2_with fail
            go_quiet (first | (go_at_call 24; refine Calls.quiet_of (HPh.out _)))
            go_wp2_with fail
            go_roundw
            case rel =>
              obtain ⟨hk, hgood, hu, hkj, htj, _⟩ := HX.out
              refine ⟨j + 1, by omega, by go_num, hk.trans (Keeps.drewBy wr nq) (by simp), fun i k' t' hi h1 h2 => ?_⟩
              by_cases hij : i = j
              · subst hij
                rw [hkj] at h1; rw [htj] at h2
                cases h1; cases h2
                rw [← hu]; omega
              · exact hgood i k' t' (by omega) h1 h2
            case measure => simp [intOf]; omega
      · obtain rfl : j = T := by omega
        obtain ⟨h, hw, hf, hL, hkeys⟩ := HM.out
        obtain ⟨hkr, hku, hka, hT⟩ := HK.out
        obtain ⟨hr1, hk1, hg1⟩ := HR.out
        have hwr := hk1.trans hk (by simp)
        have hG : Good M ks := ⟨by omega, fun i k t h1 h2 => hgood i k t (by have := (List.getElem?_eq_some_iff.1 h2).1; omega) h1 h2⟩
        have HC := Lib.hid (copy_any (h.keeps hwr (by simp)) hw (fun q hq => Nat.le_trans (hf q hq) (by omega)))
        have HX := Lib.hid (And.intro hwr (And.intro hG h.uniqM))
        clear h hw hf hL hkeys hkr hku hka hT hr1 hk1 hg1 hk hgood hwr hG
        go_wp2_with fail
        refine HC.out.mono ?_
        rintro e w2 ⟨b2, p2, qs, rfl, hperm, hI2, hk2, hfoot⟩
        obtain ⟨h, hw, hf, hL, hkeys⟩ := HM.out
        obtain ⟨hkr, hku, hka, hT⟩ := HK.out
        obtain ⟨hwr, hG, hu⟩ := HX.out
        have hw2 := hw.of_perm hperm
        have hka2 : KeepAt w2 (.slice ao' j cp') ks := ⟨ao', cp', by rw [← hT], by rw [← hT]; exact hkr.keeps (hwr.trans hk2 (by simp)) (by simp)⟩
        have HCr := Lib.hid (crash_any hI2 hw2 (by show qs.length ≤ _; rw [hperm.length_eq]; omega) (fun q hq => Nat.le_trans (Few.of_perm hf hperm q hq) (by omega)) _ ks hka2 hku (by omega)
          (fun g hg => ⟨Nat.lt_of_lt_of_le (hka g hg) (Nat.le_trans hwr.size hk2.size), fun hi => by have := hfoot g hi; have := hka g hg; have := hwr.size; omega⟩))
        have HY := Lib.hid (And.intro hperm (And.intro hw2 (And.intro hk2 hfoot)))
        clear h hw hf hL hkeys hkr hku hka hT hwr hG hu hw2 hka2 hperm hI2 hk2 hfoot
        go_wp2_with fail
        refine HCr.out.mono ?_
        rintro e w3 ⟨rfl, p3, hI3, hk3, hf3⟩
        have HIm := Lib.hid (image_any hI3 (HY.out.2.1.crash ks))
        have HZ := Lib.hid (And.intro hk3 hf3)
        clear hI3 hk3 hf3
        go_wp2_with fail
        refine HIm.out.mono ?_
        rintro e w4 ⟨v4, rfl, hr4, hk4, hg4⟩
        have HV := Lib.hid (And.intro hr4 (And.intro hk4 hg4)); clear hr4 hk4 hg4
        go_wp2_with fail
        go_ret2
        obtain ⟨hwr, hG, hu⟩ := HX.out
        obtain ⟨hperm, hw2, hk2, hfoot⟩ := HY.out
        obtain ⟨hk3, hf3⟩ := HZ.out
        obtain ⟨hr4, hk4, hg4⟩ := HV.out
        have hal : Alike M { M with lines := qs } := Alike.of_perm hperm
        have himg : (Mod.crash { M with lines := qs } ks).image = timg M ks := by rw [(hal.good hu hG).crash (hal.uniq hu)]; exact hal.timg hu ks
        have hil : (Mod.crash { M with lines := qs } ks).image.length = M.image.length := by
          show (Mod.crashN _ _ _).image.length = _
          rw [Mod.crashN_image]
        rw [hil, himg] at hr4
        have hk3' : Keeps [] wr w3 := by
          refine hk2.trans hk3 fun i hi => .inr (hfoot i hi)
        refine ⟨(hwr.trans hk3' (by simp)).trans hk4 (by simp), .inl ⟨hG, v4, rfl, hr4, fun g hg => ?_⟩⟩
        have := hg4 g hg; have := hwr.size; have := hk3'.size; omega
  · have hle : ¬ ((T : Int) = (L : Int)) := by omega
    go_wp2_with fail
    go_ret2
    obtain ⟨h, hw, hf, hL, hkeys⟩ := HM.out
    obtain ⟨hkr, hku, hka, hT⟩ := HK.out
    exact ⟨HR.out.2.1, .inr ⟨fun hg => hlen (by have := hg.1; omega), rfl⟩⟩
end Go.Proofs.Ytfjjiohclokohaa.pm
