/-
  PROVED HERE: the contract of script's of, for crash: any number of numbers; and of at any words. Conditions: as ScOf. (Printed by a program of mine.)
-/
import Derived.Test.YtnnahodajiolmaaGreatDoorScOf2
import Derived.Deep.RegionLaw
namespace Go.Proofs.YtnnahodajiolmaaGreatDoor.sc
open Go.RowKit
set_option linter.unusedVariables false

theorem ofL_crash (f : List Bs) : ofL (sCrash :: f) = (keeps f).map fun t => (⟨4, 0, Cl.zero, 0, 0, t⟩, 1) := by
  unfold ofL
  simp [show idx sCrash kindsL 0 = 4 by decide]
theorem keeps_bad {x : Bs} (h : whole x 0 1099511627776 = none) : ∀ l : List Bs, x ∈ l → keeps l = none
  | [], hx => by cases hx
  | y :: r, hx => by
    rw [keeps]
    rcases List.mem_cons.1 hx with rfl | hx
    · rw [show whole x 0 big = none from h]
    · rw [keeps_bad h r hx]
      cases whole y 0 big <;> rfl
theorem keeps_snoc (x : Bs) (v : Int) (h : whole x 0 1099511627776 = some v) : ∀ (l : List Bs) (t : List Int), keeps l = some t → keeps (l ++ [x]) = some (t ++ [v])
  | [], t, ht => by
    simp only [keeps, Option.some.injEq] at ht
    subst ht
    rw [List.nil_append, keeps, show whole x 0 big = some v from h, keeps]
    rfl
  | y :: r, t, ht => by
    rw [keeps] at ht
    cases hy : whole y 0 big with
    | none => rw [hy] at ht; cases ht
    | some k =>
      cases hr : keeps r with
      | none => rw [hy, hr] at ht; cases ht
      | some t' =>
        rw [hy, hr] at ht
        simp only [Option.some.injEq] at ht
        subst ht
        rw [List.cons_append, keeps, hy, keeps_snoc x v h r t' hr]
        rfl
theorem keeps_length : ∀ (l : List Bs) (t : List Int), keeps l = some t → t.length = l.length
  | [], t, ht => by simp only [keeps, Option.some.injEq] at ht; subst ht; rfl
  | y :: r, t, ht => by
    rw [keeps] at ht
    cases hy : whole y 0 big with
    | none => rw [hy] at ht; cases ht
    | some k =>
      cases hr : keeps r with
      | none => rw [hy, hr] at ht; cases ht
      | some t' =>
        rw [hy, hr] at ht
        simp only [Option.some.injEq] at ht
        subst ht
        rw [List.length_cons, List.length_cons, keeps_length r t' hr]

/-! ### Rows of integers -/
def ints (l : List Int) : List Value := l.map (Value.int .i64)
theorem ints_length (l : List Int) : (ints l).length = l.length := by simp [ints]
theorem ints_append (a b : List Int) : ints (a ++ b) = ints a ++ ints b := by simp [ints]
theorem ints_one (l : List Int) : ∀ u ∈ ints l, u.oneCell' = true := by
  intro u hu
  obtain ⟨x, _, rfl⟩ := List.mem_map.1 hu
  rfl
theorem intInfo : (Tryz.prog.info? 3).map (fun i => (i.zero, i.size, i.bytes)) = some (some (.int .i64 0), 1, 8) := by kernel_rfl
theorem RowR.reads {w : World} {A : Option Addr} {n c : Nat} {cs : List Value} (h : RowR w (.slice A n c) n 1 cs) : Reads w w.heap.size 1 A n cs := by
  obtain ⟨A', c', e, _, hl, h3⟩ := h
  cases e
  refine ⟨hl, fun hn => ?_⟩
  obtain ⟨b, o, e, hlt, hc⟩ := h3 hn
  refine ⟨_, e, hlt, fun j u hj => ?_⟩
  rw [add_plain]; exact hc j u hj
theorem RowR.one (w : World) (T : TypeId) (x : Int) : RowR (w.alloc (.cells #[.int .i64 x] T)) (.slice (some ⟨w.heap.size, 0, none⟩) 1 1) 1 1 (ints [x]) :=
  ⟨_, _, rfl, Nat.le_refl _, rfl, fun _ => ⟨_, _, rfl, by simp, fun j u hj => by
    rw [Nat.zero_add, World.cell?_alloc_new]
    rw [← Array.getElem?_toList]; exact hj⟩⟩

theorem step_app_ints {w : World} {ops : Array Oper} {o : Oper} {a : Act} {K : Act → World → Prop} {Q : Exit → Act → World → Prop} {E : Prop} (hgd : o.guard = none) (s x : Operand)
    (ho : o.op = .call { callee := .builtin .append, args := #[s, x], argTypes := #[38, 38] })
    (base : Nat) (v : Value) (n : Nat) (l : List Int) (hs : a.eval s = v) (hown : w.ownsRow base 3 1 v n (ints l))
    (vx : Value) (m : List Int) (hx : a.eval x = vx) (hr : RowR w vx m.length 1 (ints m)) (hfew : n + m.length ≤ 1000000000) (hbase : base ≤ w.heap.size)
    (h : ∀ v' w', w'.ownsRow base 3 1 v' (n + m.length) (ints (l ++ m)) → Grew base v w v' w' → K (a.put o.dst v') w') :
    if Region.wanted o (yielded ops a.tmps) = true then Oper.wp Tryz.prog o a w K Q else E := by
  obtain ⟨A, c, rfl⟩ := hr.len
  have hr2 := hr.reads
  obtain ⟨i0, hi0, hz0, hz1, hz2⟩ := info_parts intInfo
  refine step_append_any w hgd s x 38 ho base 3 i0 _ 1 8 Tryz.underlying38 hi0 hz0 hz1 hz2 rfl (by omega) v n _ hs hown _ A m.length c _ hx hr2 (ints_one m) (by unfold maxLen; omega) (by omega) hbase fun v' w' h2 h3 h4 => h v' w' ?_ ?_
  · rw [ints_append]; exact h2
  · exact Grew.of hown h3 h4 hbase
theorem step_absurd {w : World} {ops : Array Oper} {o : Oper} {a : Act} {K : Act → World → Prop} {Q : Exit → Act → World → Prop} {E : Prop} (hF : Hid False) (v0 : Value) (_h : K (a.put o.dst v0) w) :
    if Region.wanted o (yielded ops a.tmps) = true then Oper.wp Tryz.prog o a w K Q else E := hF.out.elim
theorem upon_absurd {o : Oper} {a : Act} {K : Act → World → Prop} {Q : Exit → Act → World → Prop} {r : Result Next} (hF : Hid False) (v0 : Value) (w : World) (_h : K (a.put o.dst v0) w) : Oper.upon Tryz.prog o a K Q r := hF.out.elim
theorem own_far {w : World} {g i n : Nat} {T : TypeId} {size : Nat} {v u : Value} {xs : List Value} (h : w.ownsRow (g + 1) T size v n xs) : (w.setCell ⟨g, i, none⟩ u).ownsRow (g + 1) T size v n xs := by
  refine ⟨h.1, ?_⟩
  rcases h.2 with h2 | ⟨gb, cap, cur, h1, h2, h3, h4⟩
  · exact .inl h2
  · exact .inr ⟨gb, cap, cur, h1, h2, by rw [Below.heap_setCell w ⟨g, i, none⟩ u gb (show gb ≠ g by omega)]; exact h3, h4⟩
theorem own_put10 {w : World} {g n : Nat} {T : TypeId} {size : Nat} {v : Value} {xs : List Value} (h : w.ownsRow (g + 1) T size v n xs) (a : Ac) (kv : Value) : (put10 w g a kv).ownsRow (g + 1) T size v n xs :=
  own_far (own_far (own_far (own_far (own_far (own_far (own_far (own_far (own_far (own_far h)))))))))

set_option maxHeartbeats 4000000 in
set_option maxRecDepth 100000 in
theorem of_crash {w : World}  (f : List Bs) (A : Option Addr) (c : Nat) (hv : StrsAt w (.slice A (f.length + 1) c) (sCrash :: f)) (hl : ∀ x ∈ f, x.length ≤ 1000000) (hN : f.length ≤ 1000000) (E : Env w) :
    Calls Tryz.prog 25 #[.slice A (f.length + 1) c] w (OfPost w (sCrash :: f)) := by
  obtain ⟨lb, lo, rfl, _, c0⟩ := hv.cell (k := 0) (x := sCrash) rfl
  obtain ⟨W0, hW0⟩ : ∃ W, W = w.alloc (.cells zCs 40) := ⟨_, rfl⟩
  have hc0 : W0.cell? ⟨lb, lo, none⟩ = some (.string (mk sCrash)) := by
    rw [hW0, World.cell?_alloc_lt _ _ _ (lt_of_cell c0)]; exact c0
  have hcl := lt_of_cell hc0
  have hz0 : Blk W0 w.heap.size 40 zCs := by rw [hW0]; exact Blk.new _ _ _
  have hb0 : Below w.heap.size w W0 := by rw [hW0]; exact (Below.refl _ _).alloc (Nat.le_refl _) _
  obtain ⟨W2, W3, W4, W5, W6, r2, r3, r4, r5, r6, hb6, hlk⟩ := want_any W0
  have hlk6 := hlk sCrash
  rw [show getS wantL sCrash = none from rfl] at hlk6
  have hcap : f.length + 1 ≤ c := by
    obtain ⟨A', c', e, h2, _⟩ := hv
    cases e; exact h2
  have hc6 : W6.cell? ⟨lb, lo, none⟩ = some (.string (mk sCrash)) := by
    rw [hb6.cell (p := ⟨lb, lo, none⟩) hcl]; exact hc0
  have hmm := @run_makeMap Tryz.prog
  obtain ⟨len, hlen⟩ : ∃ n, n = f.length + 1 := ⟨_, rfl⟩
  obtain ⟨m, hm⟩ : ∃ m, m = f.length := ⟨_, rfl⟩
  obtain ⟨A2, hA2⟩ : ∃ A2, (if c = 1 then some (⟨lb, lo, none⟩ : Addr) else some ⟨lb, lo + 1, none⟩) = A2 := ⟨_, rfl⟩
  obtain ⟨c2, hc2⟩ : ∃ c2, c - 1 = c2 := ⟨_, rfl⟩
  have hf0 : StrsAt w (.slice A2 m c2) f := by rw [← hA2, ← hc2, hm]; exact tail_at hv hcap
  have hml : len - 1 = m := by omega
  have hbd6 : Below w.heap.size w W6 := hb0.trans (hb6.mono hb0.size)
  have HI := Lib.hid (And.intro hb6 (And.intro hbd6 (And.intro (hz0.below hb6 hz0.lt) (And.intro hf0 (And.intro E (And.intro hl (And.intro hm (And.intro hN (And.intro hz0 hc6)))))))))
  rw [← hlen] at hv hcap ⊢
  have hi1 : (1 : Int) ≤ (len : Int) := by omega
  have hi0 : 0 < len := by omega
  clear hlen hlk hv hl hb0 hz0 hf0 hbd6 E hm hN c0 hc0 hcl hcap
  go_enter Tryz.func25, Tryz.ntmps25
  go_upto_region 1 with fail
  rw [← hW0]
  clear hW0
  go_upto_region 2 with fail
  clear hA2 hml hc2 hi1
  go_wp2_with fail
  refine (kinds_any _).mono ?_; rintro e w4 ⟨rfl, hb4⟩
  go_upto_region 8 with fail
  obtain ⟨W, hW⟩ : ∃ W, W = w4.alloc (.cells #[.string (mk sNone), .string (mk sInvoke), .string (mk sPick), .string (mk sEvict), .string (mk sCrash), .string (mk sOpen), .string (mk sScavenge), .string (mk sBoot)] 92) := ⟨_, rfl⟩
  have HK := Lib.hid (of_kinds hW hb4 HI.out.2.1 HI.out.2.2.1 HI.out.2.2.2.1 HI.out.2.2.2.2.1)
  have hcW : W.cell? ⟨lb, lo, none⟩ = some (.string (mk sCrash)) := by
    have hlt := lt_of_cell HI.out.2.2.2.2.2.2.2.2.2
    rw [hW, World.cell?_alloc_lt _ _ _ (Nat.lt_of_lt_of_le hlt hb4.size), hb4.cell (p := ⟨lb, lo, none⟩) hlt]; exact HI.out.2.2.2.2.2.2.2.2.2
  have hz := HK.out.2.1.cell 0
  have hzf := HK.out.2.1.frozen 0
  have hix : idx sCrash kindsL 0 = 4 := by decide
  rw [← hW]
  clear hW hb4 hc6
  go_region_with (first | (go_at_call 48; refine (index_any (l := kindsL) sCrash (kinds_row HK.out.1.drew) (by decide)).mono ?_; rintro e w5 ⟨rfl, rfl⟩; rw [hix]))
  obtain ⟨X, hX⟩ : ∃ X, X = (W.setCell ⟨w.heap.size, 0, none⟩ (.int .i64 4)).drew := ⟨_, rfl⟩
  have HX := Lib.hid (of_stored hX HK.out.2.1 HI.out.2.2.2.1 HI.out.2.2.2.2.1 HK.out.2.2.2.2.1)
  rw [← hX]
  clear hX hz hzf hcW hix
  obtain ⟨d0, d1, d2, d3, d4, d5, d6, d7, d8, d9⟩ := acCells HX.out.1
  have z0 := HX.out.1.frozen 0
  have z1 := HX.out.1.frozen 1
  have z2 := HX.out.1.frozen 2
  have z3 := HX.out.1.frozen 3
  have z4 := HX.out.1.frozen 4
  have z5 := HX.out.1.frozen 5
  have z6 := HX.out.1.frozen 6
  have z7 := HX.out.1.frozen 7
  have z8 := HX.out.1.frozen 8
  have z9 := HX.out.1.frozen 9
  go_upto_region 19 with fail
  clear d0 d1 d2 d3 d4 d5 d6 d7 d8 d9 z0 z1 z2 z3 z4 z5 z6 z7 z8 z9
  have HLm := Lib.hid (show m ≤ 1000000 by have := HI.out.2.2.2.2.2.2.1; have := HI.out.2.2.2.2.2.2.2.1; omega)
  go_upto_region 20 with fail
  go_loopw [81] (fun s81 wr => ∃ (k : Nat) (t : List Int) (u : Value), k ≤ m ∧ s81 = .int .i64 k ∧ keeps (f.take k) = some t ∧ wr.ownsRow (w.heap.size + 1) 3 1 u k (ints t) ∧ Blk wr w.heap.size 40 (acC ⟨4, 0, Cl.zero, 0, 0, []⟩ u) ∧ Below w.heap.size w wr) (fun s81 _ => m - (RowKit.intOf s81).toNat)
  case atStart => exact ⟨0, [], .slice none 0 0, Nat.zero_le _, rfl, by simp [keeps], World.ownsRow_nil _ _ _ _, HX.out.1, HX.out.2.2.2⟩
  case round =>
    obtain ⟨k, t, u, hk, rfl, hkt, hown, hblk, hbel⟩ := hrel
    have HKT := Lib.hid hkt; clear hkt
    by_cases hlt : k < m
    · have hlt2 : (k : Int) < (m : Int) := by omega
      obtain ⟨x, hx⟩ : ∃ x, f[k]? = some x := ⟨_, List.getElem?_eq_getElem (by have := HI.out.2.2.2.2.2.2.1; omega)⟩
      obtain ⟨xb, xo, rfl, hmq, cx⟩ := (HI.out.2.2.2.1.next hbel).cell hx
      clear hmq
      have HXX := Lib.hid hx; clear hx
      have HR := Lib.hid (And.intro hown (And.intro hblk hbel)); clear hown hblk hbel
      go_upto_region 22 with fail
      clear cx
      have hq0 : Below w.heap.size w wr.drew := HR.out.2.2.drew
      have hqb : Blk wr.drew w.heap.size 40 (acC ⟨4, 0, Cl.zero, 0, 0, []⟩ u) := HR.out.2.1.drew
      have hqo : wr.drew.ownsRow (w.heap.size + 1) 3 1 u k (ints t) := HR.out.1
      cases hax : whole x 0 1099511627776 with
      | none =>
        have HA := Lib.hid hax; clear hax
        have HQ := Lib.hid (show ofL (sCrash :: f) = none by rw [ofL_crash, keeps_bad HA.out f (List.mem_of_getElem? HXX.out)]; rfl)
        have q9 : wr.cell? ⟨w.heap.size, 9, none⟩ = some u := HR.out.2.1.cell 9
        have p9 := HR.out.2.1.frozen 9
        go_region_with (first
          | (with_reducible refine upon_absurd hF (.slice none 0 0) wr.drew ?_)
          | (go_at_call 23
             refine calls_panics (.int .i64 0) (whole_any x (HI.out.2.2.2.2.2.1 x (List.mem_of_getElem? HXX.out)) 0 1099511627776 (by decide) (by decide) (by decide) (by decide) (HI.out.2.2.2.2.1.next hq0)) ?_ (fun hF => ?_)
             · rintro e w6 ⟨hb6, he⟩
               rw [show whole x 0 1099511627776 = none from HA.out] at he
               obtain rfl := he
               refine ⟨_, rfl, rfl, hq0.trans (hb6.mono hq0.size), ?_⟩
               rw [HQ.out]))
        all_goals exact hF.out.elim
      | some v1 =>
        have HA := Lib.hid hax; clear hax
        have q9 : wr.cell? ⟨w.heap.size, 9, none⟩ = some u := HR.out.2.1.cell 9
        have p9 := HR.out.2.1.frozen 9
        have hkb : k < 1000000 := by have := HLm.out; omega
        go_region_law (first
          | ((with_reducible refine step_app_ints rfl _ _ rfl (w.heap.size + 1) u k t ?_ ?_ (.slice (some ⟨w6.heap.size, 0, none⟩) 1 1) [v1] ?_ ?_ ?_ ?_ ?_)
             · rfl
             · exact own_next O6 (Below.alloc (Below.refl _ _) (Nat.le_refl _) _)
             · rfl
             · exact RowR.one w6 _ v1
             · have := HLm.out; simp; omega
             · have := K6.size; have := B6.lt; simp; omega
             intro v9 w9 o9 G9
             obtain ⟨g9, cp9, rfl, _, _⟩ := o9.form (by simp)
             have B9 := (B6.alloc (.cells #[.int .i64 v1] 3)).below G9.below (Nat.lt_succ_self _)
             have K9 : Below w.heap.size w w9 := (K6.alloc K6.size _).trans (G9.below.mono (Nat.le_succ _))
             have q8 : w9.cell? ⟨w.heap.size, 9, none⟩ = some u := B9.cell 9
             have p8 := B9.frozen 9)
          | (go_simp
             refine (whole_any x (HI.out.2.2.2.2.2.1 x (List.mem_of_getElem? HXX.out)) 0 1099511627776 (by decide) (by decide) (by decide) (by decide) (HI.out.2.2.2.2.1.next hq0)).mono ?_
             rintro e w6 ⟨hb6, he⟩
             rw [show whole x 0 1099511627776 = some v1 from HA.out] at he
             obtain rfl := he
             have K6 : Below w.heap.size w w6 := Below.trans hq0 (hb6.mono hq0.size)
             have B6 := hqb.below hb6 hqb.lt
             have O6 := own_next hqo hb6
             have q6 : w6.cell? ⟨w.heap.size, 9, none⟩ = some u := B6.cell 9
             have q6a : ∀ ob, (w6.alloc ob).cell? ⟨w.heap.size, 9, none⟩ = some u := fun ob => (B6.alloc ob).cell 9))
        all_goals
          have H9 := Lib.hid (And.intro (own_far (i := 9) (u := .slice (some ⟨g9, 0, none⟩) (k + 1) cp9) o9) (And.intro (show Blk _ w.heap.size 40 (acC ⟨4, 0, Cl.zero, 0, 0, []⟩ (.slice (some ⟨g9, 0, none⟩) (k + 1) cp9)) from B9.set_ 9 _) (K9.setCell (p := ⟨w.heap.size, 9, none⟩) (Nat.le_refl _) (.slice (some ⟨g9, 0, none⟩) (k + 1) cp9))))
          clear o9 G9 B9 K9 q8 p8 q6 q6a O6 B6 K6 hb6
          go_wp2_with fail
          go_roundw
          case rel =>
            refine ⟨k + 1, t ++ [v1], _, by omega, by go_num, ?_, H9.out.1, H9.out.2.1, H9.out.2.2⟩
            rw [List.take_add_one, HXX.out]
            exact keeps_snoc x v1 HA.out _ _ HKT.out
          case measure => simp [RowKit.intOf]; omega
    · obtain rfl : k = m := by omega
      obtain ⟨uA, uc, rfl⟩ := (RowR.of_own hown).len
      have hkf : keeps f = some t := by have h := HKT.out; rw [HI.out.2.2.2.2.2.2.1, List.take_length] at h; exact h
      have HQ := Lib.hid (show ofL (sCrash :: f) = some (⟨4, 0, Cl.zero, 0, 0, t⟩, 1) by rw [ofL_crash, hkf]; rfl)
      have HN := Lib.hid (show t.length = k by rw [keeps_length f t hkf, HI.out.2.2.2.2.2.2.1])
      clear hkf
      have HR := Lib.hid (And.intro hown (And.intro hblk hbel)); clear hown hblk hbel
      obtain ⟨d0, d1, d2, d3, d4, d5, d6, d7, d8, d9⟩ := acCells HR.out.2.1
      have z0 := HR.out.2.1.frozen 0
      have z1 := HR.out.2.1.frozen 1
      have z2 := HR.out.2.1.frozen 2
      have z3 := HR.out.2.1.frozen 3
      have z4 := HR.out.2.1.frozen 4
      have z5 := HR.out.2.1.frozen 5
      have z6 := HR.out.2.1.frozen 6
      have z7 := HR.out.2.1.frozen 7
      have z8 := HR.out.2.1.frozen 8
      have z9 := HR.out.2.1.frozen 9
      go_wp2_with fail
      refine bodyPost_ret (res_of (a := ⟨4, 0, Cl.zero, 0, 0, t⟩) (put10_blk HR.out.2.1 rfl ⟨4, 0, Cl.zero, 0, 0, t⟩ _) rfl rfl) rfl ⟨put10_below HR.out.2.2 (Nat.le_refl _) ⟨4, 0, Cl.zero, 0, 0, t⟩ _, ?_⟩
      rw [HQ.out]
      refine ⟨_, rfl, ?_, (Fresh.of_own HR.out.1).mono (Nat.le_succ _)⟩
      show RowR _ _ t.length 1 _
      rw [HN.out]
      exact RowR.of_own (own_put10 HR.out.1 ⟨4, 0, Cl.zero, 0, 0, t⟩ (.slice uA k uc))

theorem kind_other (o : Bs) : o = sInvoke ∨ o = sPick ∨ o = sEvict ∨ o = sCrash ∨ o = sOpen ∨ o = sScavenge ∨ o = sBoot ∨ (idx o kindsL 0 = 0 ∨ idx o kindsL 0 = -1) := by
  simp only [kindsL, idx]
  by_cases h0 : sNone = o
  · rw [if_pos h0]; simp
  · rw [if_neg h0]
    by_cases h1 : sInvoke = o
    · exact .inl h1.symm
    · rw [if_neg h1]
      by_cases h2 : sPick = o
      · exact .inr (.inl h2.symm)
      · rw [if_neg h2]
        by_cases h3 : sEvict = o
        · exact .inr (.inr (.inl h3.symm))
        · rw [if_neg h3]
          by_cases h4 : sCrash = o
          · exact .inr (.inr (.inr (.inl h4.symm)))
          · rw [if_neg h4]
            by_cases h5 : sOpen = o
            · exact .inr (.inr (.inr (.inr (.inl h5.symm))))
            · rw [if_neg h5]
              by_cases h6 : sScavenge = o
              · exact .inr (.inr (.inr (.inr (.inr (.inl h6.symm)))))
              · rw [if_neg h6]
                by_cases h7 : sBoot = o
                · exact .inr (.inr (.inr (.inr (.inr (.inr (.inl h7.symm))))))
                · rw [if_neg h7]; simp

theorem of_any {w : World} (l : List Bs) (v : Value) (hne : l ≠ []) (hv : StrsAt w v l) (hl : ∀ x ∈ l, x.length ≤ 1000000) (hN : l.length ≤ 1000000) (E : Env w) :
    Calls Tryz.prog 25 #[v] w (OfPost w l) := by
  obtain ⟨A, c, rfl⟩ := hv.len
  match l, hne with
  | o :: f, _ =>
    have hl' : ∀ x ∈ f, x.length ≤ 1000000 := fun x hx => hl x (List.mem_cons_of_mem _ hx)
    have hN' : f.length ≤ 1000000 := by simp at hN; omega
    rcases kind_other o with rfl | rfl | rfl | rfl | rfl | rfl | rfl | hk
    · exact of_invoke f A c hv hl' hN' E
    · exact of_pick f A c hv hl' hN' E
    · exact of_evict f A c hv hl' hN' E
    · exact of_crash f A c hv hl' hN' E
    · exact of_open f A c hv hl' hN' E
    · exact of_scavenge f A c hv hl' hN' E
    · exact of_boot f A c hv hl' hN' E
    · exact of_other hk f A c hv hl' hN' E

end Go.Proofs.YtnnahodajiolmaaGreatDoor.sc
