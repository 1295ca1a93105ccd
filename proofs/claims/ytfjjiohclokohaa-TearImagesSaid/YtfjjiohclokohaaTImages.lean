/-
  PROVED HERE: TearImages returns true, in every memory. Conditions: the stores and the tear are read; each a store.
-/
import Derived.Test.YtfjjiohclokohaaTImg
import Derived.Test.YtfjjiohclokohaaTLaid
import Derived.Test.YtfjjiohclokohaaEvict
import Derived.Test.YtfjjiohclokohaaKB
import Derived.Laws.IdiomStrings
import Derived.Deep.CutBlock
namespace Go.Proofs.Ytfjjiohclokohaa.pm
open Go.RowKit Go.Proofs.Ytfjjiohclokohaa.tp
set_option linter.unusedVariables false

/-- A row of bytes turned into a string. -/
theorem conv_row {w : World} {ao : Option Addr} {n cp : Nat} {xs : List Int} (h : Reads w (.slice ao n cp) n (xs.map (Value.int .u8))) (hl : xs.length = n) (hb : ∀ x ∈ xs, 0 ≤ x ∧ x ≤ 255) :
    (convert 39 9 (.slice ao n cp)).run Try.prog w = .ok (.string ⟨(xs.map fun x => UInt8.ofNat x.toNat).toArray⟩) w := by
  rcases h with ⟨e, h2, h3⟩ | ⟨a, cap, e, ha, hc⟩
  · have hx : xs = [] := List.map_eq_nil_iff.1 h3
    subst hx
    rw [e]
    simp [convert, go_sem]
    rfl
  · obtain ⟨b, off, sp⟩ := a
    cases ha
    cases e
    have := run_convert_bytes_back (P := Try.prog) w 39 9 5 ⟨b, off, none⟩ cp (xs.map fun x => UInt8.ofNat x.toNat) Try.underlying39 Try.underlying5 Try.underlying9 (fun j hj => by
      rw [List.length_map] at hj
      have hx := hb xs[j] (List.getElem_mem _)
      have h1 := hc j (.int .u8 xs[j]) (by rw [List.getElem?_map, List.getElem?_eq_getElem hj]; rfl)
      rw [show (⟨b, off, none⟩ : Addr).add j = ⟨b, off + j, none⟩ from by simp [addr_add], h1]
      rw [List.getElem_map]
      have h2 : ((UInt8.ofNat xs[j].toNat).toNat : Int) = xs[j] := by
        rw [UInt8.toNat_ofNat']
        omega
      rw [h2])
    rw [List.length_map, hl] at this
    exact this
theorem leB_byte : ∀ (k : Nat) (x : Int), ∀ y ∈ leB k x, 0 ≤ y ∧ y ≤ 255
  | 0, _, y, h => by simp [leB] at h
  | k + 1, x, y, h => by
    simp only [leB, List.mem_cons] at h
    rcases h with rfl | h
    · omega
    · exact leB_byte k _ y h
theorem bytesOf_byte : ∀ (l : List Int), ∀ y ∈ bytesOf l, 0 ≤ y ∧ y ≤ 255
  | [], y, h => by simp [bytesOf] at h
  | x :: r, y, h => by
    simp only [bytesOf, List.mem_append] at h
    rcases h with h | h
    · exact leB_byte 8 x y h
    · exact bytesOf_byte r y h

set_option maxRecDepth 100000 in
set_option maxHeartbeats 4000000 in
theorem images_any {w : World} (ln at_ : Int) (hnb : -9223372036854775808 ≤ ln ∧ ln ≤ 9223372036854775807) {v : Value} {ps : List (Int × Int)} (h : Reads w v ps.length (flat ps)) (hp : ∀ p ∈ ps, U64 p.1 ∧ U64 p.2) (hlen : ps.length ≤ 9223372036854775807)
    {tv : Value} {ks : List Int} (hk : Reads w tv ks.length (ks.map (Value.int .i64))) (hku : ∀ k ∈ ks, -9223372036854775808 ≤ k ∧ k ≤ 9223372036854775807)
    (hkn : ∀ w, Calls Try.prog 6 #[] w fun e w' => e = .returned (.bool true) ∧ KB w w') :
    Calls Try.prog 4 #[.int .i64 ln, v, .int .i64 at_, tv] w fun e W' => e = .returned (.bool true) ∧ KB w W' := by
  obtain ⟨ao, cp, rfl⟩ := reads_shape h
  obtain ⟨ao', cp', rfl⟩ := reads_shape hk
  obtain ⟨T, hT⟩ : ∃ T, T = ks.length := ⟨_, rfl⟩
  rw [← hT] at hk ⊢
  have HLd := Lib.hid (laid_any (w := w) ln hnb h hp hlen at_)
  have HK := Lib.hid (And.intro hk (And.intro hku hT)); clear hk hku hT h hp
  have HKn := Lib.hid hkn; clear hkn
  go_enter Try.func4, Try.ntmps4
  go_wp2_with fail
  refine HLd.out.mono ?_
  rintro e w1 ⟨hk1, rfl | ⟨b, p, M, rfl, i1, i2, hI, hG, hf⟩⟩
  · have H1 := Lib.hid hk1; clear hk1
    go_wp2_with fail
    refine (HKn.out _).mono ?_
    rintro e w2 ⟨rfl, hk2⟩
    have H2 := Lib.hid hk2; clear hk2
    go_wp2_with fail
    go_ret
    exact ⟨rfl, (KB.of_keeps H1.out).trans H2.out⟩
  · have H1 := Lib.hid hk1; clear hk1
    have hn40 : M.lines.length ≤ 40 := hG.lines
    have hp40 : ∀ q ∈ M.lines, q.2.puts.length ≤ 1000 := fun q hq => Nat.le_trans (hG.puts q hq) (by omega)
    have HTop := Lib.hid (tearTop_any hI hG.wf (by omega) hp40)
    have HI := Lib.hid (And.intro hI (And.intro hG (And.intro hf hp40)))
    obtain ⟨L, hL⟩ : ∃ L, L = M.lines.length := ⟨_, rfl⟩
    rw [← hL] at hn40
    have HLl := Lib.hid hL
    clear hI hG hf hp40 hL
    by_cases hbig : 40 < T
    · have hbI : (40 : Int) < (T : Int) := by omega
      go_wp2_with fail
      refine (HKn.out _).mono ?_
      rintro e w2 ⟨rfl, hk2⟩
      have H2 := Lib.hid hk2; clear hk2
      go_wp2_with fail
      go_ret
      exact ⟨rfl, (KB.of_keeps H1.out).trans H2.out⟩
    have hbI : (T : Int) ≤ (40 : Int) := by omega
    clear hbig
    go_wp2_with fail
    refine HTop.out.mono ?_
    rintro e w2 ⟨v2, rfl, hr2, hk2, hg2⟩
    rw [← HLl.out] at hr2
    obtain ⟨ao2, cp2, rfl⟩ := reads_shape hr2.reads
    have H2 := Lib.hid (And.intro hr2 (And.intro hk2 hg2)); clear hr2 hk2 hg2
    go_upto_block 0 with fail
    go_cut [11] from 40 to 64 (fun s11 wx => ∃ g : Bool, s11 = .bool g ∧ Keeps [] w2 wx ∧ (g = true → Good M ks) ∧ (g = false → ¬ Good M ks))
    case first =>
      go_wp2_with fail
      go_loopw [11, 12] (fun s11 s12 wr => ∃ (j : Nat) (g : Bool), j ≤ T ∧ s11 = .bool g ∧ s12 = .int .i64 j ∧ Keeps [] w2 wr ∧ (g = true → T = L ∧ ∀ (i : Nat) (k t : Int), i < j → M.keys[i]? = some k → ks[i]? = some t → 0 ≤ t ∧ t ≤ M.pendK k) ∧ (g = false → ¬ Good M ks)) (fun _ s12 _ => T - (intOf s12).toNat)
      case atStart =>
        refine ⟨0, _, Nat.zero_le _, rfl, rfl, Keeps.refl _ _, fun hg => ⟨?_, fun i k t hi => absurd hi (by omega)⟩, fun hg hgood => ?_⟩
        · have : (T : Int) = (L : Int) := by simpa using hg
          omega
        · have h1 := hgood.1
          rw [M.keys_length, ← HLl.out, ← HK.out.2.2] at h1
          subst h1; simp at hg
      case round =>
        obtain ⟨j, g, hj, rfl, rfl, hk, hgt, hgf⟩ := hrel
        by_cases hlt : j < T
        · have hjT : (j : Int) < (T : Int) := by omega
          cases g with
          | true =>
            obtain ⟨hTL, hall⟩ := hgt rfl
            obtain ⟨hkr, hku, hT⟩ := HK.out
            obtain ⟨hr2, hk2, hg2⟩ := H2.out
            obtain ⟨k, hkj⟩ : ∃ k, M.keys[j]? = some k := ⟨_, List.getElem?_eq_getElem (by have := M.keys_length; have := HLl.out; omega)⟩
            obtain ⟨t, htj⟩ : ∃ t, ks[j]? = some t := ⟨_, List.getElem?_eq_getElem (by omega)⟩
            obtain ⟨u, hu⟩ : ∃ u, u = M.pendK k := ⟨_, rfl⟩
            have htop : M.tops[j]? = some u := by unfold Mod.tops; rw [List.getElem?_map, hkj, hu]; rfl
            obtain ⟨b2, of2, rfl, c2⟩ := reads_cell (wr := wr) hr2.reads (fun q _ hq => hk.block q hq (by simp)) (j := j) (u := .int .i64 (u : Nat)) (by rw [List.getElem?_map, htop]; rfl)
            obtain ⟨b3, of3, rfl, c3⟩ := reads_cell (wr := wr) hkr (fun q hq hq2 => ((H1.out.trans hk2 (by simp)).trans hk (by simp)).block q hq2 (by simp)) (j := j) (u := .int .i64 t) (by simp [htj])
            have hjL : (j : Int) < (L : Int) := by omega
            have hGi : ¬ (0 ≤ t ∧ t ≤ (u : Int)) → ¬ Good M ks := fun hn hg => hn (by rw [hu]; exact hg.2 j k t hkj htj)
            have HX := Lib.hid (And.intro hk (And.intro hall (And.intro hu (And.intro hkj (And.intro htj (And.intro hGi hTL))))))
            clear hkr hku hT hr2 hk2 hg2 hkj hu htj hk hall hGi hTL hgt hgf htop
            by_cases hneg : t < 0
            · have hnb2 : decide ((0 : Int) ≤ t) = false := decide_eq_false (by omega)
              go_wp2_with fail
              go_quiet (fail)
              go_wp2_with fail
              go_roundw
              case rel => exact ⟨j + 1, false, by omega, rfl, by go_num, HX.out.1.trans (Keeps.drewBy wr nq) (by simp), fun e => (nomatch e), fun _ => HX.out.2.2.2.2.2.1 (by omega)⟩
              case measure => simp [intOf]; omega
            · have h0t : (0 : Int) ≤ t := by omega
              by_cases hle : t ≤ (u : Int)
              · go_wp2_with fail
                go_quiet (fail)
                go_wp2_with fail
                go_roundw
                case rel =>
                  obtain ⟨hk, hall, hu, hkj, htj, _, hTL⟩ := HX.out
                  refine ⟨j + 1, true, by omega, by simp, by go_num, hk.trans (Keeps.drewBy wr nq) (by simp), fun _ => ⟨hTL, fun i k' t' hi h1 h2 => ?_⟩, fun e => (nomatch e)⟩
                  by_cases hij : i = j
                  · subst hij
                    rw [hkj] at h1; rw [htj] at h2
                    cases h1; cases h2
                    rw [← hu]; omega
                  · exact hall i k' t' (by omega) h1 h2
                case measure => simp [intOf]; omega
              · have hgt2 : (u : Int) < t := by omega
                go_wp2_with fail
                go_quiet (fail)
                go_wp2_with fail
                go_roundw
                case rel => exact ⟨j + 1, false, by omega, by simp; omega, by go_num, HX.out.1.trans (Keeps.drewBy wr nq) (by simp), fun e => (nomatch e), fun _ => HX.out.2.2.2.2.2.1 (by omega)⟩
                case measure => simp [intOf]; omega
          | false =>
            have hng := hgf rfl
            have HX := Lib.hid (And.intro hk hng); clear hk hng hgt hgf
            go_wp2_with fail
            go_meet
            exact ⟨false, rfl, HX.out.1, fun e => (nomatch e), fun _ => HX.out.2⟩
        · obtain rfl : j = T := by omega
          have HX := Lib.hid (And.intro hk (And.intro hgt hgf)); clear hk hgt hgf
          go_wp2_with fail
          go_meet
          obtain ⟨hk, hgt, hgf⟩ := HX.out
          refine ⟨g, rfl, hk, fun e => ⟨?_, fun i k t h1 h2 => ?_⟩, hgf⟩
          · have := (hgt e).1; rw [M.keys_length, ← HLl.out, ← HK.out.2.2]; omega
          · exact (hgt e).2 i k t (by have := (List.getElem?_eq_some_iff.1 h2).1; have := HK.out.2.2; omega) h1 h2
    case rest =>
      obtain ⟨g, rfl, hkc, hgt, hgf⟩ := hcut
      obtain ⟨hI, hG, hf, hp40⟩ := HI.out
      obtain ⟨hr2, hk2, hg2⟩ := H2.out
      obtain ⟨hkr, hku, hT⟩ := HK.out
      have k1c : Keeps [] w1 wc := hk2.trans hkc (by simp)
      have HC := Lib.hid (copy_any (hI.keeps k1c (by simp)) hG.wf (fun q hq => Nat.le_trans (hp40 q hq) (by omega)))
      have HX := Lib.hid (And.intro k1c (And.intro hgt hgf))
      obtain ⟨i0, hi0, hz0, hz1, hz2⟩ := info_parts intInfo
      clear hI hG hf hp40 hr2 hk2 hg2 hkr hku hT hkc hgt hgf k1c
      go_wp2_with fail
      refine HC.out.mono ?_
      rintro e w3 ⟨bo, po, qs, rfl, hperm, hIo, hk3, hfo⟩
      have HO := Lib.hid (And.intro hperm (And.intro hIo (And.intro hk3 hfo)))
      have hkr3 : Reads w3 (.slice ao' T cp') T (ks.map (Value.int .i64)) := HK.out.1.keeps ((H1.out.trans HX.out.1 (by simp)).trans hk3 (by simp)) (by simp)
      have HR3 := Lib.hid hkr3
      clear hperm hIo hk3 hfo hkr3
      go_wp2_with (at_builtin; refine wpList_append_row _ rfl _ _ 26 rfl 3 i0 (.int .i64 0) 1 8 Try.underlying26 hi0 hz0 hz1 hz2 rfl _ (.slice ao' T cp') rfl rfl 0 [] (RowAt.nil _ _ _) T (ks.map (Value.int .i64)) HR3.out ?hl ?ho ?hm ?hby ?_)
      case hl => rw [List.length_map, ← HK.out.2.2, Nat.mul_one]
      case ho => intro u hu; obtain ⟨x, _, rfl⟩ := List.mem_map.1 hu; rfl
      case hm => unfold maxLen; omega
      case hby => omega
      intro v' w4 hrow' hgrow hblk' _
      try rw [List.nil_append] at hrow'
      obtain ⟨ao4, cp4, rfl⟩ := reads_shape hrow'.reads
      have hk34 : Keeps [] w3 w4 := (Keeps.grown hgrow).mono (by simp [Value.ownBlock])
      obtain ⟨hperm, hIo, hk3, hfo⟩ := HO.out
      obtain ⟨hI, hG, hf, hp40⟩ := HI.out
      have k14 : Keeps [] w1 w4 := (HX.out.1.trans hk3 (by simp)).trans hk34 (by simp)
      have hT := HK.out.2.2
      have HImg := Lib.hid (tearImage_any (hI.keeps k14 (by simp)) hG.wf (Nat.le_trans hG.lines (by omega)) hp40 (kv := .slice ao4 T cp4) (ks := ks) ⟨ao4, cp4, by rw [← hT], by rw [← hT]; exact hrow'.reads⟩ HK.out.2.1 (by omega) (fun g hg => hrow'.lt hg))
      have H4 := Lib.hid (And.intro hrow' (And.intro hk34 k14))
      clear hrow' hgrow hblk' hk34 hperm hIo hk3 hfo hI hG hf hp40 k14 hT
      go_wp2_with fail
      refine HImg.out.mono ?_
      rintro e w5 ⟨hk5, hpost⟩
      obtain ⟨hrow', hk34, k14⟩ := H4.out
      obtain ⟨hperm, hIo, hk3, hfo⟩ := HO.out
      obtain ⟨hI, hG, hf, hp40⟩ := HI.out
      have k15 : Keeps [] w1 w5 := k14.trans hk5 (by simp)
      have k35 : Keeps [] w3 w5 := hk34.trans hk5 (by simp)
      have hal : Alike M { M with lines := qs } := Alike.of_perm hperm
      have HSame := Lib.hid (same_any (hIo.keeps k35 (by simp)) (hI.keeps k15 (by simp)) (hG.wf.of_perm hperm) hG.wf ⟨rfl, rfl, hperm⟩ (fun q hq => Nat.le_trans (Few.of_perm hp40 hperm q hq) (by omega)))
      have hro : Reads w5 (.slice ao4 T cp4) T (ks.map (Value.int .i64)) := hrow'.reads.keeps hk5 (by simp)
      have hrt : Reads w5 (.slice ao' T cp') T (ks.map (Value.int .i64)) := HR3.out.keeps k35 (by simp)
      have HRs : Hid (∀ wx, Keeps [] w5 wx → Calls Try.prog 11 #[.slice ao4 T cp4, .slice ao' T cp'] wx fun e w' => e = .returned (.bool true) ∧ Keeps [] wx w') := Lib.hid fun wx hk => by
        have hT := HK.out.2.2
        have h1 : Reads wx (.slice ao4 T cp4) ks.length (ks.map (Value.int .i64)) := by rw [← hT]; exact hro.keeps hk (by simp)
        have h2 : Reads wx (.slice ao' T cp') ks.length (ks.map (Value.int .i64)) := by rw [← hT]; exact hrt.keeps hk (by simp)
        exact (refSame_any h1 h2 (by unfold maxLen; omega) (by unfold maxLen; omega)).mono fun e w' ⟨a, b, _⟩ => ⟨by rw [a]; simp, b⟩
      have H5 := Lib.hid (And.intro hk5 (And.intro k15 k35))
      have HPost := Lib.hid hpost
      clear hrow' hk34 k14 hperm hIo hk3 hfo hI hG hf hp40 k15 k35 hal hro hrt hk5
      obtain ⟨hgt, hgf⟩ := HX.out.2
      cases g with
      | false =>
        rcases hpost with ⟨hg, _⟩ | ⟨hng, rfl⟩
        · exact absurd hg (hgf rfl)
        clear hng hgt hgf
        go_wp2_with fail
        refine HSame.out.mono ?_
        rintro e w6 ⟨rfl, hk6⟩
        have HRs2 := Lib.hid (HRs.out _ hk6)
        have H6 := Lib.hid hk6; clear hk6
        go_wp2_with fail
        refine HRs2.out.mono ?_
        rintro e w7 ⟨rfl, hk7⟩
        have H7 := Lib.hid hk7; clear hk7
        go_wp2_with fail
        refine (HKn.out _).mono ?_
        rintro e w8 ⟨rfl, hk8⟩
        have H8 := Lib.hid hk8; clear hk8
        go_wp2_with fail
        go_ret
        exact ⟨rfl, (KB.of_keeps (((H1.out.trans H5.out.2.1 (by simp)).trans H6.out (by simp)).trans H7.out (by simp))).trans H8.out⟩
      | true =>
        rcases hpost with ⟨hg, v5, rfl, hr5, hg5⟩ | ⟨hng, _⟩
        case inr => exact absurd (hgt rfl) hng
        clear hgt hgf
        have HV := Lib.hid (And.intro hg (And.intro hr5 hg5)); clear hg hr5 hg5
        go_wp2_with fail
        refine HSame.out.mono ?_
        rintro e w6 ⟨rfl, hk6⟩
        have HRs2 := Lib.hid (HRs.out _ hk6)
        have H6 := Lib.hid hk6; clear hk6
        go_wp2_with fail
        refine HRs2.out.mono ?_
        rintro e w7 ⟨rfl, hk7⟩
        have H7 := Lib.hid hk7; clear hk7
        have HL := Lib.hid (lines_any (HI.out.1.keeps ((H5.out.2.1.trans H6.out (by simp)).trans H7.out (by simp)) (by simp)) HI.out.2.1.wf (Nat.le_trans HI.out.2.1.lines (by omega)))
        go_wp2_with fail
        refine HL.out.mono ?_
        rintro e w8 ⟨v8, rfl, hr8, hk8, hg8⟩
        rw [← HLl.out] at hr8
        obtain ⟨ao8, cp8, rfl⟩ := reads_shape hr8.reads
        have H8 := Lib.hid (And.intro hr8 (And.intro hk8 hg8)); clear hr8 hk8 hg8
        go_wp2_with fail
        obtain ⟨hg, hr5, hg5⟩ := HV.out
        obtain ⟨ts, hts, htl, htt⟩ := hg.nat
        obtain ⟨hperm, hIo, hk3, hfo⟩ := HO.out
        obtain ⟨hrow', hk34, k14⟩ := H4.out
        obtain ⟨hk5, k15, k35⟩ := H5.out
        obtain ⟨hr8, hk8, hg8⟩ := H8.out
        have k38 : Keeps [] w3 w8 := ((k35.trans H6.out (by simp)).trans H7.out (by simp)).trans hk8 (by simp)
        have hIo8 : IsMem w8 bo po { M with lines := qs } := hIo.keeps k38 (by simp)
        have hLk : M.keys.length = L := by rw [M.keys_length, ← HLl.out]
        have hal : Alike M { M with lines := qs } := Alike.of_perm hperm
        have huM : Uniq M.lines := HI.out.1.uniqM
        have hkn0 : M.keys.Nodup := keys_nodup huM
        obtain ⟨Z, hZ⟩ : ∃ Z, Z = M.keys.zip ts := ⟨_, rfl⟩
        have hZl : Z.length = L := by rw [hZ, List.length_zip]; omega
        have hZk : Z.map (·.1) = M.keys := by rw [hZ]; exact List.map_fst_zip (by omega)
        have HZ := Lib.hid (And.intro hts (And.intro htl (And.intro htt (And.intro hal (And.intro huM (And.intro hkn0 (And.intro hZ (And.intro hZl (And.intro hZk (And.intro k38 hLk))))))))))
        clear hg hr5 hg5 hts htl htt hperm hIo hk3 hfo hrow' hk34 k14 hk5 k15 k35 hr8 hk8 hg8 k38 hLk hal huM hkn0 hZ hZl hZk
        go_loopw [18] (fun s18 wr => ∃ (j : Nat) (p' : Pl), j ≤ L ∧ s18 = .int .i64 j ∧ IsMem wr bo p' (evN { M with lines := qs } (Z.take j)) ∧ Keeps (po.foot bo) w8 wr ∧ ∀ i ∈ p'.foot bo, i ∈ po.foot bo ∨ w8.heap.size ≤ i) (fun s18 _ => L - (intOf s18).toNat)
        case atStart => exact ⟨0, po, Nat.zero_le _, rfl, hIo8, Keeps.refl _ _, fun i hi => .inl hi⟩
        case round =>
          obtain ⟨j, p', hj, rfl, hIp, hkw, hfp⟩ := hrel
          by_cases hlt : j < L
          · obtain ⟨hts, htl, htt, hal, huM, hkn0, hZ, hZl, hZk, k38, hLk⟩ := HZ.out
            obtain ⟨hkr, hku, hT⟩ := HK.out
            obtain ⟨hr8, hk8, hg8⟩ := H8.out
            obtain ⟨hperm, hIo, hk3, hfo⟩ := HO.out
            obtain ⟨hI, hG, hf, hp40⟩ := HI.out
            obtain ⟨k, hkj⟩ : ∃ k, M.keys[j]? = some k := ⟨_, List.getElem?_eq_getElem (by omega)⟩
            obtain ⟨t, htj⟩ : ∃ t, ts[j]? = some t := ⟨_, List.getElem?_eq_getElem (by omega)⟩
            have hkst : ks[j]? = some (t : Int) := by rw [hts, List.getElem?_map, htj]; rfl
            have hTL : T = L := by have := htl; rw [hT, hts, List.length_map]; omega
            have hZj : Z[j]? = some (k, t) := by rw [hZ, List.getElem?_zip_eq_some]; exact ⟨hkj, htj⟩
            have s1 := H1.out.size
            have s2 := HX.out.1.size
            have s3 := hk3.size
            have s4 := (H4.out.2.1).size
            obtain ⟨b8, of8, rfl, c8⟩ := reads_cell (wr := wr) hr8.reads (fun q hq hq2 => hkw.block q hq2 (fun hi => by have h1 := hIo.lt q hi; have h2 := hg8 q hq; have h3 := HZ.out.2.2.2.2.2.2.2.2.2.1.size; have h4 := H7.out.size; have h5 := H6.out.size; have h6 := H5.out.1.size; omega)) (j := j) (u := .int .u64 k) (by simp [hkj])
            obtain ⟨b3, of3, rfl, c3⟩ := reads_cell (wr := wr) hkr (fun q hq hq2 => by
              rw [hkw.block q (by have := k38.size; omega) (fun hi => by have := hfo q hi; omega), k38.block q (by omega) (by simp), hk3.block q (by omega) (by simp), HX.out.1.block q (by omega) (by simp), H1.out.block q hq2 (by simp)]) (j := j) (u := .int .i64 (t : Int)) (by simp [hkst])
            have hlen1 := hG.wf.lines
            obtain ⟨hk0, hk8', hkm, hpe⟩ := key_facts hG.wf (List.mem_of_getElem? hkj)
            have hk64 : k % 64 = 0 := by
              obtain ⟨q, hq, hqe⟩ := List.mem_map.1 ((ksort_perm _).mem_iff.1 (List.mem_of_getElem? hkj))
              have := (hG.wf.lines q hq).2.1
              rw [hqe] at this; exact this
            have hnk : k ∉ (Z.take j).map (·.1) := by
              rw [List.map_take, hZk]
              intro hm
              obtain ⟨i, hi, hie⟩ := List.getElem_of_mem hm
              rw [List.getElem_take] at hie
              rw [List.length_take] at hi
              have h1 : M.keys[i]'(by omega) = M.keys[j]'(by omega) := by rw [hie]; exact (List.getElem?_eq_some_iff.1 hkj).2.symm
              exact (List.pairwise_iff_getElem.1 hkn0 i j (by omega) (by omega) (by omega)) h1
            have hpk : (evN { M with lines := qs } (Z.take j)).pendK (k - k % 64) = M.pendK k := by
              rw [hk64, Int.sub_zero, Mod.pendK_eq, evN_other _ _ _ hnk, hal.pn huM, ← Mod.pendK_eq]
            have htk := htt j k t hkj htj
            have hpb : M.pendK k ≤ 1000 := by
              have := hG.get k
              unfold Mod.pendK; omega
            have hjL : (j : Int) < (L : Int) := by omega
            have hjT : (j : Int) < (T : Int) := by omega
            have HE : Hid (∀ n, Calls Try.prog 17 #[.pointer (some ⟨bo, 0, none⟩), .int .u64 k, .int .i64 t] (wr.drewN n) fun e w' => e = .returned (.tuple #[.int .i64 t, .int .i64 0]) ∧ ∃ p2, IsMem w' bo p2 (evN { M with lines := qs } (Z.take (j + 1))) ∧ Keeps (po.foot bo) w8 w' ∧ ∀ i ∈ p2.foot bo, i ∈ po.foot bo ∨ w8.heap.size ≤ i) := Lib.hid fun n => by
              have hE := evict_any (w := wr.drewN n) (hIp.keeps (Keeps.drewBy wr n) (by simp)) ((hG.wf.of_perm hperm).evN (Z.take j)) k hk0 (by rw [evN_view]; exact hk8') hkm t (by omega)
              rw [hpk, Nat.min_eq_left htk, hk64, Int.sub_zero] at hE
              refine hE.mono fun e w' ⟨he, p2, h1, h2, h3⟩ => ⟨he, p2, ?_, (hkw.trans (Keeps.drewBy wr n) (by simp)).trans h2 (fun i hi => ?_), fun i hi => ?_⟩
              · rw [List.take_add_one, hZj, Option.toList_some, evN_snoc]; exact h1
              · rcases hfp i hi with h4 | h4
                · exact .inl h4
                · exact .inr h4
              · rcases h3 i hi with h4 | h4
                · exact hfp i h4
                · exact .inr (by have := hkw.size; exact Nat.le_trans this h4)
            clear hTL hts htl htt hal huM hkn0 hZ hZl hZk k38 hLk hkr hku hT hr8 hk8 hg8 hperm hIo hk3 hfo hI hG hf hp40 hkj htj hkst hZj s1 s2 s3 s4 hlen1 hk0 hk8' hkm hpe hk64 hnk hpk htk hpb hIp hkw hfp
            go_wp2_with fail
            go_region_with (first
              | (go_at_call 17; refine (HE.out 1).mono ?_; rintro e w9 ⟨rfl, p2, h1, h2, h3⟩)
              | fail)
            all_goals
              have H9 := Lib.hid (And.intro h1 (And.intro h2 h3)); clear h1 h2 h3
              go_wp2_with fail
              go_roundw
              case rel =>
                have hgo : ∃ (j' : Nat) (p' : Pl), j' ≤ L ∧ Value.int .i64 ((j : Int) + 1) = .int .i64 j' ∧ IsMem w9 bo p' (evN { M with lines := qs } (Z.take j')) ∧ Keeps (po.foot bo) w8 w9 ∧ ∀ i ∈ p'.foot bo, i ∈ po.foot bo ∨ w8.heap.size ≤ i := ⟨j + 1, p2, by omega, by go_num, H9.out.1, H9.out.2.1, H9.out.2.2⟩
                first | exact hgo | ((repeat apply Exists.intro); exact ⟨hgo, rfl⟩)
              case measure => simp [intOf]; omega
          · obtain rfl : j = L := by omega
            obtain ⟨hts, htl, htt, hal, huM, hkn0, hZ, hZl, hZk, k38, hLk⟩ := HZ.out
            obtain ⟨hg, hr5, hg5⟩ := HV.out
            obtain ⟨hperm, hIo, hk3, hfo⟩ := HO.out
            obtain ⟨hI, hG, hf, hp40⟩ := HI.out
            rw [List.take_of_length_le (by omega), hZ] at hIp
            have himg : (evN { M with lines := qs } (M.keys.zip ts)).image = timg M ks := by
              have h1 := hal.good huM hg
              rw [hts] at h1
              have h2 := h1.ev (hal.uniq huM)
              rw [hal.keys] at h2
              rw [h2, hts]; exact hal.timg huM _
            have hwE : WF (evN { M with lines := qs } (M.keys.zip ts)) := (hG.wf.of_perm hperm).evN _
            have hil : (timg M ks).length = M.image.length := by rw [← himg, hwE.len, evN_view, hG.wf.len]
            obtain ⟨ao5, cp5, rfl⟩ := reads_shape hr5.reads
            have hg5w : ∀ g, (Value.slice ao5 (8 * M.image.length) cp5).ownBlock = some g → wr.heap[g]? = w5.heap[g]? := fun g hgo => by
              have h1 := hr5.lt hgo
              have h2 := (H6.out.trans H7.out (by simp)).trans H8.out.2.1 (by simp)
              have h3 := h2.size
              rw [hkw.block g (by omega) (fun hi => by have := hIo.lt g hi; have := hg5 g hgo; have := H4.out.2.1.size; omega), h2.block g h1 (by simp)]
            have hr5w := hr5.same hg5w
            obtain ⟨S, hS⟩ : ∃ S : ByteArray, S = ⟨((bytesOf (timg M ks)).map fun x => UInt8.ofNat x.toNat).toArray⟩ := ⟨_, rfl⟩
            have hcv : ∀ wx, Keeps [] wr wx → (convert 39 9 (.slice ao5 (8 * M.image.length) cp5)).run Try.prog wx = .ok (.string S) wx := fun wx hk => by
              rw [hS]
              exact conv_row (hr5w.reads.keeps hk (by simp)) (by rw [bytesOf_length, hil]) (bytesOf_byte _)
            have HIm : Hid (Calls Try.prog 18 #[.pointer (some ⟨bo, 0, none⟩)] wr.drew fun e w' => ∃ ao9 cp9, e = .returned (.slice ao9 (8 * M.image.length) cp9) ∧ (convert 39 9 (.slice ao9 (8 * M.image.length) cp9)).run Try.prog w' = .ok (.string S) w' ∧ (convert 39 9 (.slice ao5 (8 * M.image.length) cp5)).run Try.prog w' = .ok (.string S) w' ∧ Keeps [] wr w') := Lib.hid <| by
              have := image_any (w := wr.drew) (hIp.keeps (Keeps.drew wr) (by simp)) hwE
              refine this.mono fun e w' ⟨v, he, h1, h2, h3⟩ => ?_
              rw [himg, hil] at h1
              obtain ⟨ao9, cp9, rfl⟩ := reads_shape h1.reads
              have hk := (Keeps.drew wr).trans h2 (by simp)
              exact ⟨ao9, cp9, he, by rw [hS]; exact conv_row h1.reads (by rw [bytesOf_length, hil]) (bytesOf_byte _), hcv w' hk, hk⟩
            have hcv5 := hcv _ (Keeps.drew wr)
            have hkw' : Keeps [] w1 wr := by
              have h1 : Keeps [] w1 w3 := HX.out.1.trans hk3 (by simp)
              have h2 := (h1.trans k38 (by simp)).trans hkw (G := po.foot bo) (fun i hi => .inr (by have := hfo i hi; have := HX.out.1.size; omega))
              exact h2
            have HW := Lib.hid hkw'
            clear hts htl htt hal huM hkn0 hZ hZl hZk k38 hLk hg hr5 hg5 hperm hIo hk3 hfo hI hG hf hp40 himg hwE hil hg5w hr5w hS hcv hkw' hIp hkw hfp
            go_wp2_with fail
            go_region_with (first
              | (go_at_call 18; refine HIm.out.mono ?_; rintro e w9 ⟨ao9, cp9, rfl, q1, q2, q3⟩)
              | (go_at_call 6; refine (HKn.out _).mono ?_; rintro e w10 ⟨rfl, q4⟩)
              | fail)
            all_goals
              have H9 := Lib.hid (And.intro q3 q4); clear q1 q2 q3 q4 hcv5
              go_wp2_with fail
              go_ret
              exact ⟨rfl, (KB.of_keeps (H1.out.trans HW.out (by simp))).trans ((KB.of_keeps H9.out.1).trans H9.out.2)⟩
end Go.Proofs.Ytfjjiohclokohaa.pm
