/-
  PROVED HERE: the law SchedRefused answers true, where known does. Conditions: the slice of keys reads as integers of 64 bits.
-/
import Derived.Test.YtdbbbaallalhoaaGreatSiB
import Derived.Test.YtdbbbaallalhoaaGreatSiK
import Derived.Test.YtdbbbaallalhoaaGreatSiI
import Derived.Test.YtdbbbaallalhoaaGreatSiM
namespace Go.Proofs.YtdbbbaallalhoaaGreat.si
open Go.RowKit Go.Proofs.YtdbbbaallalhoaaGreat.pm Go.Proofs.YtdbbbaallalhoaaGreat.ar Go.Proofs.YtdbbbaallalhoaaGreat.bt Go.Proofs.YtdbbbaallalhoaaGreat.sl Go.Proofs.YtdbbbaallalhoaaGreat.rn
set_option linter.unusedVariables false
attribute [-go_sem] Builtin.append_ Instr.buildSlice Instr.build

theorem begin_any {w : World} (S per lag : Int) {kv : Value} {ks : List Int} (hks : Reads w kv ks.length (ks.map (Value.int .u64))) (hku : ∀ k ∈ ks, U64 k) (hkl : ks.length ≤ 9223372036854775807) :
    Calls Tryz.prog 4 #[.agg (ldArr S kv per lag), .int .i64 2] w (BeginPost w) := by
  by_cases h : ldOk S ks.length per lag
  · obtain ⟨h1, h2, h3, h4, h5, h6, h7⟩ := h
    obtain ⟨S', rfl⟩ := Int.eq_ofNat_of_zero_le (show 0 ≤ S by omega)
    obtain ⟨per', rfl⟩ := Int.eq_ofNat_of_zero_le (show 0 ≤ per by omega)
    obtain ⟨lag', rfl⟩ := Int.eq_ofNat_of_zero_le (show 0 ≤ lag by omega)
    exact begin_yes S' per' lag' hks hku (by omega) (by omega) h3 (by omega) (by omega) (by omega)
  · exact begin_no S per lag hks hkl h
set_option maxRecDepth 1000000 in
theorem built_get26 : Tryz.prog.built 28 [(0, .int .i64 2), (1, .int .u64 1)] = some (caArr 2 1 0 0 ByteArray.empty) := by kernel_rfl
theorem may_get : mayE 2 1 0 0 ByteArray.empty = 0 := by decide
/-- The game behind the first call: client 0 has a call, in both tables. -/
structure St (w W : World) (p : Gp) (bs : List Int) (q : Pl) (m : Nat) (T : TypeId) (b : Nat) (hv lv iv : Value) : Prop where
  blk : W.heap[p.gb]? = some (.cells (gmArr p) 38 (0, 0))
  bytes : RowAt W 5 1 (.slice (some ⟨p.g, 0, none⟩) p.n p.n) p.n (bs.map (Value.int .u8))
  isB : ∀ b ∈ bs, Byte b
  nm : p.n = 8 * m
  ms : m ≤ 131072
  m8 : 8 ≤ m
  site : W.heap[p.stb]? = some (.cells (siArr p.mb p.sb p.lb) 94 (0, 0))
  mem : IsMem W p.mb q ⟨wordsOf bs m, wordsOf bs m, [], 0, 0, 0, 0⟩
  tab : Tab W p.tb p.stb p.cb (.iface T (.pointer (some ⟨b, 0, none⟩))) .nilIface (0 : Nat) 0 hv 1 (dnL (0 : Nat) 2 1 0 0 ByteArray.empty (0 : Nat))
  rt : RTab W p.wb lv iv 1 (dnL (0 : Nat) 2 1 0 0 ByteArray.empty (0 : Nat)) [.int .i64 (0 : Nat), .int .i64 (-1)]
  keep : Keeps [] w W
  sep : ∀ g, hv.ownBlock = some g → lv.ownBlock ≠ some g
  new : ∀ i ∈ p.tb :: p.cb :: p.wb :: (hv.ownBlock.toList ++ (iv.ownBlock.toList ++ lv.ownBlock.toList)), w.heap.size ≤ i
/-- The blocks that the two calls turn. -/
def turned (p : Gp) (hv : Value) : List Nat := p.tb :: p.cb :: p.wb :: hv.ownBlock.toList
theorem Gm.out {w W : World} {p : Gp} {bs : List Int} {q : Pl} {m : Nat} {hv : Value} (h : Gm w W p bs q m hv) {i : Nat} (hi : ∀ C T s, W.heap[i]? = some (.cells C T s) → T ≠ 83 ∧ T ≠ 80 ∧ T ≠ 75 ∧ T ≠ 3) : i ∉ turned p hv := by
  intro hm
  simp only [turned, List.mem_cons, Option.mem_toList] at hm
  rcases hm with rfl | rfl | rfl | hm
  · exact (hi _ _ _ h.tab).1 rfl
  · exact (hi _ _ _ h.cl).2.1 rfl
  · exact (hi _ _ _ h.rt).2.2.1 rfl
  · rcases h.hrow.2 with ⟨rfl, _⟩ | ⟨g, off, cap, cur, rfl, hg, _⟩
    · cases hm
    · cases hm; exact (hi _ _ _ hg).2.2.2 rfl
theorem row_type {w : World} {T U : TypeId} {sz n i : Nat} {v : Value} {xs : List Value} {C : Array Value} {s : Nat × Nat} (h : RowAt w T sz v n xs) (hv : v.ownBlock = some i) (hc : w.heap[i]? = some (.cells C U s)) : U = T := by
  rcases h.2 with ⟨rfl, _⟩ | ⟨g, off, cap, cur, rfl, hg, _⟩
  · cases hv
  · cases hv
    rw [hg] at hc
    cases hc; rfl
theorem foot_type {W : World} {b : Nat} {q : Pl} {M : Mod} (h : IsMem W b q M) (hl : M.lines = []) {i : Nat} (hi : i ∈ q.foot b) {C : Array Value} {T : TypeId} {s : Nat × Nat} (hc : W.heap[i]? = some (.cells C T s)) : T = 100 ∨ T = 26 := by
  simp only [Pl.foot, List.mem_cons] at hi
  rcases hi with rfl | rfl | rfl | rfl | hi
  · have h1 := h.blkAt; unfold MemAt at h1; rw [hc] at h1; cases h1; exact .inl rfl
  · exact .inr (row_type h.view rfl hc)
  · exact .inr (row_type h.image rfl hc)
  · obtain ⟨es, cl, hm, _⟩ := h.map; rw [hm] at hc; cases hc
  · have h0 := h.lines.1; rw [hl] at h0
    have h1 : q.L = [] := List.eq_nil_of_length_eq_zero h0
    rw [h1] at hi; cases hi
theorem Gm.start {w W W4 W5 : World} {p : Gp} {bs : List Int} {q : Pl} {m : Nat} {hv : Value} (h : Gm w W p bs q m hv) {T : TypeId} {b : Nat} {hv4 lv5 : Value}
    (ht4 : W4.heap[p.tb]? = some (.cells (tbArr p.stb (.slice (some ⟨p.cb, 0, none⟩) 2 2) hv4 (1 : Nat)) 83 (0, 0))) (hc4 : W4.heap[p.cb]? = some (.cells #[.iface T (.pointer (some ⟨b, 0, none⟩)), .int .i64 (0 : Nat), .nilIface, .int .i64 0] 80 (0, 0)))
    (hr4 : RowAt W4 72 11 hv4 1 (dnL (0 : Nat) 2 1 0 0 ByteArray.empty (0 : Nat))) (hk4 : Keeps [p.tb, p.cb] W W4)
    (hw5 : W5.heap[p.wb]? = some (.cells (rtArr lv5 hv (1 : Nat)) 75 (0, 0))) (hh5 : RowAt W5 72 11 lv5 1 (dnL (0 : Nat) 2 1 0 0 ByteArray.empty (0 : Nat))) (hi5 : RowAt W5 3 1 hv 2 [.int .i64 (0 : Nat), .int .i64 (-1)])
    (hk5 : Keeps (p.wb :: hv.ownBlock.toList) W4 W5) (ho5 : ∀ g, lv5.ownBlock = some g → W4.heap.size ≤ g) (ho4 : ∀ g, hv4.ownBlock = some g → W.heap.size ≤ g) : St w W5 p bs q m T b hv4 lv5 hv := by
  have kk : Keeps (turned p hv) W W5 := (hk4.mono (G := turned p hv) (fun i hi => .inl (by simp only [List.mem_cons, List.not_mem_nil, or_false] at hi; rcases hi with rfl | rfl <;> simp [turned]))).trans hk5 (fun i hi => .inl (List.mem_cons_of_mem _ (List.mem_cons_of_mem _ hi)))
  have ne1 : ∀ {i : Nat} {C : Array Value} {U : TypeId}, W4.heap[i]? = some (.cells C U (0, 0)) → U ≠ 75 → U ≠ 3 → i ∉ p.wb :: hv.ownBlock.toList := fun {i C U} hi n1 n2 hm => by
    have hw4 := (hk4.block p.wb (lt_of h.rt) (fun hm => by
      simp only [List.mem_cons, List.not_mem_nil, or_false] at hm
      rcases hm with e | e
      · have h1 := h.tab; rw [← e, h.rt] at h1; cases h1
      · have h1 := h.cl; rw [← e, h.rt] at h1; cases h1)).trans h.rt
    have hv4 : RowAt W4 3 1 hv 2 _ := h.hrow.same fun g hg => hk4.block g (h.hrow.lt hg) (fun hm => by
      simp only [List.mem_cons, List.not_mem_nil, or_false] at hm
      rcases hm with rfl | rfl
      · exact row_apart_blk h.hrow h.tab (by decide) hg
      · exact row_apart_blk h.hrow h.cl (by decide) hg)
    simp only [List.mem_cons, Option.mem_toList] at hm
    rcases hm with rfl | hm
    · rw [hw4] at hi; cases hi; exact n1 rfl
    · exact n2 (row_type hv4 hm hi)
  refine ⟨(kk.block _ (lt_of h.blk) (h.out fun C U s hc => ?_)).trans h.blk, h.bytes.same fun g hg => kk.block g (h.bytes.lt hg) (h.out fun C U s hc => ?_), h.isB, h.nm, h.ms, h.m8, (kk.block _ (lt_of h.site) (h.out fun C U s hc => ?_)).trans h.site, h.mem.keeps kk fun i hi => h.out fun C U s hc => ?_, ⟨?_, ?_, ?_, by omega⟩, ⟨hw5, hh5, hi5, by omega⟩, ?_, fun g hg e => by have h1 := hr4.lt hg; have h2 := ho5 g e; omega, fun i hi => ?_⟩
  · rw [h.blk] at hc; cases hc; decide
  · rw [row_type h.bytes hg hc]; decide
  · rw [h.site] at hc; cases hc; decide
  · rcases foot_type h.mem rfl hi hc with rfl | rfl <;> decide
  · exact (hk5.block _ (lt_of ht4) (ne1 ht4 (by decide) (by decide))).trans ht4
  · exact (hk5.block _ (lt_of hc4) (ne1 hc4 (by decide) (by decide))).trans hc4
  · refine hr4.same fun g hg => hk5.block g (hr4.lt hg) ?_
    rcases hr4.2 with ⟨rfl, _⟩ | ⟨g', off, cap, cur, rfl, hg', _⟩
    · cases hg
    · cases hg; exact ne1 hg' (by decide) (by decide)
  · refine h.keep.trans kk fun i hi => .inr ?_
    obtain ⟨n1, n2, n3, n4⟩ := h.new
    simp only [turned, List.mem_cons, Option.mem_toList] at hi
    rcases hi with rfl | rfl | rfl | hi
    · exact n1
    · exact n2
    · exact n3
    · exact n4 _ hi
  · obtain ⟨n1, n2, n3, n4⟩ := h.new
    have s1 := h.keep.size
    have s2 := hk4.size
    simp only [List.mem_cons, List.mem_append, Option.mem_toList] at hi
    rcases hi with rfl | rfl | rfl | hi | hi | hi
    · exact n1
    · exact n2
    · exact n3
    · have := ho4 _ hi; omega
    · exact n4 _ hi
    · have := ho5 _ hi; omega
theorem St.refuse {w W : World} {p : Gp} {bs : List Int} {q : Pl} {m : Nat} {T : TypeId} {b : Nat} {hv lv iv : Value} (h : St w W p bs q m T b hv lv iv) (c op k hi l : Int) (v : ByteArray) (hno : ¬ (c = 1 ∧ mayE op k hi l v = 0)) :
    ∃ r : Int, r ≠ 0 ∧ (∀ wx, Keeps [] W wx → Calls Tryz.prog 6 #[.pointer (some ⟨p.tb, 0, none⟩), .int .i64 c, .agg (caArr op k hi l v)] wx fun e w' => e = .returned (.int .i64 r) ∧ Keeps [] wx w')
      ∧ (∀ wx, Keeps [] W wx → Calls Tryz.prog 7 #[.pointer (some ⟨p.wb, 0, none⟩), .int .i64 c, .agg (caArr op k hi l v)] wx fun e w' => e = .returned (.int .i64 r) ∧ Keeps [] wx w') := by
  by_cases h0 : c < 0
  · exact ⟨12, by decide, fun wx hk => invoke_noc (h.tab.keeps hk) c op k hi l v (by omega), fun wx hk => rinvoke_neg (h.rt.keeps hk) c op k hi l v h0⟩
  by_cases h2 : 2 ≤ c
  · exact ⟨12, by decide, fun wx hk => invoke_noc (h.tab.keeps hk) c op k hi l v (by omega), fun wx hk => rinvoke_big (h.rt.keeps hk) c op k hi l v (by omega) h2⟩
  by_cases h1 : c = 0
  · subst h1
    exact ⟨13, by decide, fun wx hk => invoke_busy (h.tab.keeps hk) op k hi l v, fun wx hk => rinvoke_busy (h.rt.keeps hk) 0 (0 : Nat) op k hi l v (by omega) rfl (by omega)⟩
  · obtain rfl : c = 1 := by omega
    have hm : mayE op k hi l v ≠ 0 := fun e => hno ⟨rfl, e⟩
    exact ⟨_, hm, fun wx hk => invoke_bad (h.tab.keeps hk) op k hi l v hm, fun wx hk => rinvoke_bad (h.rt.keeps hk) 1 (-1) op k hi l v (by omega) rfl (by omega) hm⟩
theorem ent0 : ∀ i < 1, Ent (dnL (0 : Nat) 2 1 0 0 ByteArray.empty (0 : Nat)) i := by
  intro i hi
  obtain rfl : i = 0 := by omega
  exact ⟨(0 : Nat), 2, 1, 0, 0, (0 : Nat), ByteArray.empty, fun f u h => by simpa using h⟩
theorem St.view {w W : World} {p : Gp} {bs : List Int} {q : Pl} {m : Nat} {T : TypeId} {b : Nat} {hv lv iv : Value} (h : St w W p bs q m T b hv lv iv) : ∃ S : ByteArray,
    (∀ wx, Keeps [] W wx → (convert 33 9 (.slice (some ⟨p.g, 0, none⟩) p.n p.n)).run Tryz.prog wx = .ok (.string S) wx)
    ∧ ∀ wx, Keeps [] W wx → Calls Tryz.prog 12 #[.pointer (some ⟨p.mb, 0, none⟩)] wx fun e w' => ∃ ao k cp, e = .returned (.slice ao k cp) ∧ (convert 33 9 (.slice ao k cp)).run Tryz.prog w' = .ok (.string S) w' ∧ Keeps [] wx w' := by
  have hl : bs.length = p.n := by have := h.bytes.1; simpa using this
  have hback : bytesOf (wordsOf bs m) = bs := by rw [words_back m bs (by have := h.nm; omega) h.isB, List.take_of_length_le (by have := h.nm; omega)]
  refine ⟨_, fun wx hk => conv_row (h.bytes.same fun g hg => hk.block g (h.bytes.lt hg) (by simp)).reads hl h.isB, fun wx hk => ?_⟩
  have hwl := wordsOf_length bs m
  refine (view_any (h.mem.keeps hk (by simp)) (by rw [hwl]; have := h.m8; omega) (words_u64 bs m h.isB) (by rw [hwl]; exact h.ms)).mono ?_
  rintro e w' ⟨v', rfl, hr, hk', _⟩
  rw [hback] at hr
  obtain ⟨ao, cp, rfl, _, _⟩ := row_shape hr
  refine ⟨_, _, _, rfl, conv_row hr.reads (by rw [hwl, hl, h.nm]) h.isB, hk'⟩
theorem St.grant {w W : World} {p : Gp} {bs : List Int} {q : Pl} {m : Nat} {T : TypeId} {b : Nat} {hv lv iv : Value} (h : St w W p bs q m T b hv lv iv) (op k hi l : Int) (v : ByteArray) (hm : mayE op k hi l v = 0) (wx : World) (hk : Keeps [] W wx) :
    Calls Tryz.prog 6 #[.pointer (some ⟨p.tb, 0, none⟩), .int .i64 1, .agg (caArr op k hi l v)] wx fun e w' => ∃ hv', e = .returned (.int .i64 0) ∧ w'.heap[p.tb]? = some (.cells (tbArr p.stb (.slice (some ⟨p.cb, 0, none⟩) 2 2) hv' (2 : Nat)) 83 (0, 0))
      ∧ RowAt w' 72 11 hv' 2 (dnL (0 : Nat) 2 1 0 0 ByteArray.empty (0 : Nat) ++ dnL (1 : Nat) op k hi l v (1 : Nat)) ∧ Keeps (p.tb :: p.cb :: hv.ownBlock.toList) wx w' ∧ (hv'.ownBlock = hv.ownBlock ∨ ∃ q, hv'.ownBlock = some q ∧ wx.heap.size ≤ q) := by
  have ht := h.tab.keeps hk
  have h4 : op = 1 ∨ op = 2 ∨ op = 3 ∨ op = 4 := Classical.byContradiction fun hn => by
    unfold mayE at hm
    rw [if_neg (by omega), if_neg (by omega), if_neg (by omega)] at hm
    exact absurd hm (by decide)
  rcases h4 with rfl | rfl | rfl | rfl
  · refine (invoke_ok1 ht.blk ht.cl (j := 1) (by omega) rfl rfl ht.hist (by omega) k hi l v hm).mono ?_
    rintro e w' ⟨T', b', hv', rfl, h1, h2, h3, h4, h5⟩; exact ⟨hv', rfl, h1, h3, h4, h5⟩
  · refine (invoke_ok2 ht.blk ht.cl (j := 1) (by omega) rfl rfl ht.hist (by omega) k hi l v hm).mono ?_
    rintro e w' ⟨T', b', hv', rfl, h1, h2, h3, h4, h5⟩; exact ⟨hv', rfl, h1, h3, h4, h5⟩
  · refine (invoke_ok3 ht.blk ht.cl (j := 1) (by omega) rfl rfl ht.hist (by omega) k hi l v hm).mono ?_
    rintro e w' ⟨T', b', hv', rfl, h1, h2, h3, h4, h5⟩; exact ⟨hv', rfl, h1, h3, h4, h5⟩
  · refine (invoke_ok4 ht.blk ht.cl (j := 1) (by omega) rfl rfl ht.hist (by omega) k hi l v hm).mono ?_
    rintro e w' ⟨T', b', hv', rfl, h1, h2, h3, h4, h5⟩; exact ⟨hv', rfl, h1, h3, h4, h5⟩
theorem St.away {w W : World} {p : Gp} {bs : List Int} {q : Pl} {m : Nat} {T : TypeId} {b : Nat} {hv lv iv : Value} (h : St w W p bs q m T b hv lv iv) {i : Nat} {C : Array Value} {U : TypeId} (hi : W.heap[i]? = some (.cells C U (0, 0))) (n1 : U ≠ 83) (n2 : U ≠ 80) (n3 : U ≠ 72) :
    i ∉ p.tb :: p.cb :: hv.ownBlock.toList := fun hm => by
  simp only [List.mem_cons, Option.mem_toList] at hm
  rcases hm with rfl | rfl | hm
  · rw [h.tab.blk] at hi; cases hi; exact n1 rfl
  · rw [h.tab.cl] at hi; cases hi; exact n2 rfl
  · exact n3 (row_type h.tab.hist hm hi)
theorem RTab.away {W : World} {wb n : Nat} {lv iv : Value} {xs ints : List Value} (h : RTab W wb lv iv n xs ints) {i : Nat} {C : Array Value} {U : TypeId} (hi : W.heap[i]? = some (.cells C U (0, 0))) (n1 : U ≠ 75) (n2 : U ≠ 3) (n3 : U ≠ 72) :
    i ∉ wb :: (iv.ownBlock.toList ++ lv.ownBlock.toList) := fun hm => by
  simp only [List.mem_cons, List.mem_append, Option.mem_toList] at hm
  rcases hm with rfl | hm | hm
  · rw [h.blk] at hi; cases hi; exact n1 rfl
  · exact n2 (row_type h.has hm hi)
  · exact n3 (row_type h.hist hm hi)
/-- What stands behind both second calls. -/
theorem St.after {w W w6 w7 : World} {p : Gp} {bs : List Int} {q : Pl} {m : Nat} {T : TypeId} {b : Nat} {hv lv iv hv6 : Value} {C : Array Value} {ds : List Value} (h : St w W p bs q m T b hv lv iv) (hk6 : Keeps (p.tb :: p.cb :: hv.ownBlock.toList) W w6)
    (ht6 : w6.heap[p.tb]? = some (.cells C 83 (0, 0))) (hr6 : RowAt w6 72 11 hv6 2 ds) (ho6 : hv6.ownBlock = hv.ownBlock ∨ ∃ g, hv6.ownBlock = some g ∧ W.heap.size ≤ g)
    (hr : RTab w6 p.wb lv iv 1 (dnL (0 : Nat) 2 1 0 0 ByteArray.empty (0 : Nat)) [.int .i64 (0 : Nat), .int .i64 (-1)]) (hk7 : Keeps (p.wb :: (iv.ownBlock.toList ++ lv.ownBlock.toList)) w6 w7) :
    w7.heap[p.tb]? = some (.cells C 83 (0, 0)) ∧ RowAt w7 72 11 hv6 2 ds ∧ Keeps [] w w7 ∧ w7.heap[p.gb]? = some (.cells (gmArr p) 38 (0, 0)) := by
  have g6 := (hk6.block _ (lt_of h.blk) (h.away h.blk (by decide) (by decide) (by decide))).trans h.blk
  refine ⟨(hk7.block _ (lt_of ht6) (hr.away ht6 (by decide) (by decide) (by decide))).trans ht6, hr6.same fun g hg => hk7.block g (hr6.lt hg) fun hm => ?_, (h.keep.trans hk6 fun i hi => .inr (h.new i ?_)).trans hk7 fun i hi => .inr (h.new i ?_), (hk7.block _ (lt_of g6) (hr.away g6 (by decide) (by decide) (by decide))).trans g6⟩
  · simp only [List.mem_cons, List.mem_append, Option.mem_toList] at hm
    rcases hm with rfl | hm | hm
    · exact row_apart_blk hr6 hr.blk (by decide) hg
    · obtain ⟨gb, off, cap, rfl, _⟩ := has_shape hr.has
      cases hm
      exact row_apart hr6 hr.has (by decide) hg
    · rcases ho6 with e | ⟨g', e, hle⟩
      · exact h.sep g (e ▸ hg) hm
      · rw [e] at hg; cases hg
        have := h.rt.hist.lt hm; omega
  · simp only [List.mem_cons, List.mem_append, Option.mem_toList] at hi ⊢
    rcases hi with rfl | rfl | hi <;> simp_all
  · simp only [List.mem_cons, List.mem_append, Option.mem_toList] at hi ⊢
    rcases hi with rfl | hi | hi <;> simp_all
/-- The reference's table stands behind the second call. -/
theorem St.rt2 {w W w6 : World} {p : Gp} {bs : List Int} {q : Pl} {m : Nat} {T : TypeId} {b : Nat} {hv lv iv : Value} (h : St w W p bs q m T b hv lv iv) (hk : Keeps (p.tb :: p.cb :: hv.ownBlock.toList) W w6) :
    RTab w6 p.wb lv iv 1 (dnL (0 : Nat) 2 1 0 0 ByteArray.empty (0 : Nat)) [.int .i64 (0 : Nat), .int .i64 (-1)] := by
  refine ⟨(hk.block _ (lt_of h.rt.blk) (h.away h.rt.blk (by decide) (by decide) (by decide))).trans h.rt.blk, h.rt.hist.same fun g hg => hk.block g (h.rt.hist.lt hg) fun hm => ?_, h.rt.has.same fun g hg => hk.block g (h.rt.has.lt hg) fun hm => ?_, h.rt.few⟩
  · simp only [List.mem_cons, Option.mem_toList] at hm
    rcases hm with rfl | rfl | hm
    · exact row_apart_blk h.rt.hist h.tab.blk (by decide) hg
    · exact row_apart_blk h.rt.hist h.tab.cl (by decide) hg
    · exact h.sep g hm hg
  · simp only [List.mem_cons, Option.mem_toList] at hm
    rcases hm with rfl | rfl | hm
    · exact row_apart_blk h.rt.has h.tab.blk (by decide) hg
    · exact row_apart_blk h.rt.has h.tab.cl (by decide) hg
    · obtain ⟨gb, off, cap, rfl, _⟩ := has_shape h.rt.has
      cases hg
      exact row_apart h.tab.hist h.rt.has (by decide) hm
theorem ent2 (op k hi l : Int) (v : ByteArray) : ∀ i < 2, Ent (dnL (0 : Nat) 2 1 0 0 ByteArray.empty (0 : Nat) ++ dnL (1 : Nat) op k hi l v (1 : Nat)) i := by
  intro i hi2
  match i, hi2 with
  | 0, _ => exact ⟨(0 : Nat), 2, 1, 0, 0, (0 : Nat), ByteArray.empty, fun f u h => by
      rw [Nat.zero_mul, Nat.zero_add, List.getElem?_append_left (List.getElem?_eq_some_iff.1 h).1]; exact h⟩
  | 1, _ => exact ⟨(1 : Nat), op, k, hi, l, (1 : Nat), v, fun f u h => by
      rw [List.getElem?_append_right (by simp [dnL])]
      simpa [dnL] using h⟩
theorem wpAnyH_takeL {P : Program} {l : List Oper} {Q : Exit → Act → World → Prop} {md : Region.Mode} {S : World → Prop} {i : Nat} {oi : Oper} {v : Value} {fuel : Nat} {listed : Array Bool} {a : Act} {w : World} (hi : l[i]? = some oi)
    (hs : Region.noSelect l.toArray = true) (hf : Region.free md l.toArray listed i = true) (hr : (Region.ready md l.toArray listed).contains i = true)
    (hQ : ∀ c a w, Q (.panic c) (a.put oi.dst v) w → Q (.panic c) a w) (hy : YieldsIf P l.toArray S oi v a) (hS : S w)
    (h : wpAnyH P md l.toArray Q S fuel (listed.setIfInBounds i true) (a.put oi.dst v) w) : wpAnyH P md l.toArray Q S (fuel + 1) listed a w :=
  wpAnyH_take (by simpa using hi) hs hf hr hQ hy hS h
section
variable (hKn : ∀ w : World, Calls Tryz.prog 5 #[] w fun e w' => e = .returned (.bool true) ∧ Keeps [] w w')
include hKn
set_option maxRecDepth 100000 in
set_option maxHeartbeats 4000000 in
theorem refused_any {w : World} (S per lag : Int) {kv : Value} {ks : List Int} (hks : Reads w kv ks.length (ks.map (Value.int .u64))) (hku : ∀ k ∈ ks, U64 k) (hkl : ks.length ≤ 9223372036854775807)
    (c op k hi l : Int) (v : ByteArray) :
    Calls Tryz.prog 3 #[.agg (ldArr S kv per lag), .int .i64 c, .agg (caArr op k hi l v)] w fun e w' => e = .returned (.bool true) ∧ Keeps [] w w' := by
  obtain ⟨W1, hW1⟩ : ∃ W1, W1 = w.alloc (.cells (ldArr S kv per lag) 24) := ⟨_, rfl⟩
  obtain ⟨W2, hW2⟩ : ∃ W2, W2 = W1.alloc (.cells (caArr op k hi l v) 28) := ⟨_, rfl⟩
  have hk1 : Keeps [] w W1 := by rw [hW1]; exact Keeps.alloc _ _
  have hk2 : Keeps [] w W2 := by rw [hW2]; exact hk1.trans (Keeps.alloc _ _) (by simp)
  obtain ⟨xb, hxb⟩ : ∃ xb, xb = W1.heap.size := ⟨_, rfl⟩
  have hb2 : W2.heap[xb]? = some (.cells (caArr op k hi l v) 28 (0, 0)) := by rw [hW2, hxb]; exact alloc_new
  have hl1 : W1.heap[w.heap.size]? = some (.cells (ldArr S kv per lag) 24 (0, 0)) := by rw [hW1]; exact alloc_new
  have hl2 : W2.heap[w.heap.size]? = some (.cells (ldArr S kv per lag) 24 (0, 0)) := by rw [hW2]; exact alloc_old hl1
  have l0 : W2.cell? ⟨w.heap.size, 0, none⟩ = some (.int .i64 S) := cell_of hl2 rfl
  have l1 : W2.cell? ⟨w.heap.size, 1, none⟩ = some kv := cell_of hl2 rfl
  have l2 : W2.cell? ⟨w.heap.size, 2, none⟩ = some (.int .i64 per) := cell_of hl2 rfl
  have l3 : W2.cell? ⟨w.heap.size, 3, none⟩ = some (.int .i64 lag) := cell_of hl2 rfl
  have HB := Lib.hid (begin_any S per lag (reads_keep hks hk2 (by simp)) hku hkl)
  have HK := Lib.hid hKn
  have HX := Lib.hid (And.intro hk2 hb2)
  have hal1 : w.alloc (.cells (ldArr S kv per lag) 24) = W1 := hW1.symm
  have hal2 : W1.alloc (.cells (caArr op k hi l v) 28) = W2 := hW2.symm
  have hxb' : W1.heap.size = xb := hxb.symm
  obtain ⟨kao, kcp, rfl⟩ := reads_shape hks
  unfold ldArr at hal1 HB ⊢
  unfold caArr at hal2 ⊢
  clear hks hku hkl hW1 hW2 hk1 hk2 hxb hb2 hl1 hl2 hKn
  go_enter Tryz.func3, Tryz.ntmps3
  go_wp2_with fail
  refine HB.out.mono ?_
  rintro e w3 (⟨rfl, hk3⟩ | ⟨p, bs, q, m, hv, rfl, hG⟩)
  · have HK3 := Lib.hid hk3; clear hk3
    go_wp2_with fail
    refine (HK.out _).mono ?_
    rintro e w4 ⟨rfl, hk4⟩
    have HK4 := Lib.hid hk4; clear hk4
    go_wp2_with fail
    go_ret
    exact ⟨rfl, (HX.out.1.trans HK3.out (by simp)).trans HK4.out (by simp)⟩
  · have g0 : w3.cell? ⟨p.gb, 0, none⟩ = some (.slice (some ⟨p.g, 0, none⟩) p.n p.n) := cell_of hG.blk rfl
    have g2 : w3.cell? ⟨p.gb, 2, none⟩ = some (.pointer (some ⟨p.tb, 0, none⟩)) := cell_of hG.blk rfl
    have hx3 := (hG.keep.block xb (lt_of HX.out.2) (by simp)).trans HX.out.2
    have x4 : w3.cell? ⟨xb, 4, none⟩ = some (.string v) := cell_of hx3 rfl
    have HG := Lib.hid hG
    by_cases hv3 : 300 < v.size
    · have hvI : (300 : Int) < (v.size : Int) := by omega
      clear hG hx3
      go_wp2_with fail
      refine (HK.out _).mono ?_
      rintro e w4 ⟨rfl, hk4⟩
      have HK4 := Lib.hid hk4; clear hk4
      go_wp2_with fail
      go_ret
      exact ⟨rfl, (HX.out.1.trans HG.out.keep (by simp)).trans HK4.out (by simp)⟩
    · have hvI : ¬ (300 : Int) < (v.size : Int) := by omega
      have hbd : ∀ wx, (Instr.build 28 #[(0, .int .i64 2), (1, .int .u64 1)]).run Tryz.prog wx = .ok (.agg (caArr 2 1 0 0 ByteArray.empty)) wx := fun wx => run_build wx _ _ _ built_get26
      have HI := Lib.hid (invoke_ok2 (n := 0) hG.tab hG.cl (j := 0) (by omega) rfl rfl (RowAt.nil _ _ _) (by omega) 1 0 0 ByteArray.empty may_get)
      clear hG hx3
      go_wp2_with fail
      refine HI.out.mono ?_
      rintro e w4 ⟨T, b, hv4, rfl, ht4, hc4, hr4, hk4, ho4⟩
      have hk4' : Keeps [p.tb, p.cb] w3 w4 := hk4
      have hgb : w4.heap[p.gb]? = some (.cells (gmArr p) 38 (0, 0)) := (hk4'.block _ (lt_of HG.out.blk) (fun hm => by
        simp only [List.mem_cons, List.not_mem_nil, or_false] at hm
        rcases hm with e | e
        · have h1 := HG.out.tab; rw [← e, HG.out.blk] at h1; cases h1
        · have h1 := HG.out.cl; rw [← e, HG.out.blk] at h1; cases h1)).trans HG.out.blk
      have g3 : w4.cell? ⟨p.gb, 3, none⟩ = some (.pointer (some ⟨p.wb, 0, none⟩)) := cell_of hgb rfl
      have hR4 : RTab w4 p.wb (.slice none 0 0) hv 0 [] [.int .i64 (-1), .int .i64 (-1)] := ⟨(hk4'.block p.wb (lt_of HG.out.rt) (fun hm => by
        simp only [List.mem_cons, List.not_mem_nil, or_false] at hm
        rcases hm with e | e
        · have h1 := HG.out.tab; rw [← e, HG.out.rt] at h1; cases h1
        · have h1 := HG.out.cl; rw [← e, HG.out.rt] at h1; cases h1)).trans HG.out.rt, RowAt.nil _ _ _, HG.out.hrow.same fun g hg => hk4'.block g (HG.out.hrow.lt hg) (fun hm => by
        simp only [List.mem_cons, List.not_mem_nil, or_false] at hm
        rcases hm with rfl | rfl
        · exact row_apart_blk HG.out.hrow HG.out.tab (by decide) hg
        · exact row_apart_blk HG.out.hrow HG.out.cl (by decide) hg), by omega⟩
      have HR := Lib.hid (rinvoke_ok hR4 0 (-1) 2 1 0 0 ByteArray.empty (by omega) rfl (by omega) may_get)
      have n4 : ∀ g, hv4.ownBlock = some g → w3.heap.size ≤ g := fun g hg => by
        rcases ho4 with e | ⟨q', e, hle⟩
        · rw [e] at hg; cases hg
        · rw [e] at hg; cases hg; exact hle
      have H4 := Lib.hid (And.intro ht4 (And.intro hc4 (And.intro hr4 (And.intro n4 hk4'))))
      clear ht4 hc4 hr4 hk4 ho4 hk4' hgb hR4 n4
      go_wp2_with fail
      refine HR.out.mono ?_
      rintro e w5 ⟨lv5, rfl, hw5, hh5, hi5, hk5, ho5⟩
      obtain ⟨ht4, hc4, hr4, n4, hk4'⟩ := H4.out
      have hS := HG.out.start ht4 hc4 hr4 hk4' hw5 hh5 hi5 (hk5.mono (fun i hi => .inl (by simpa [Value.ownBlock] using hi))) (fun g hg => by
        rcases ho5 with e | ⟨q', e, hle⟩
        · rw [e] at hg; cases hg
        · rw [e] at hg; cases hg; exact hle) n4
      clear ht4 hc4 hr4 hk4' hw5 hh5 hi5 hk5 ho5 n4
      have hx5 := (hS.keep.block xb (lt_of HX.out.2) (by simp)).trans HX.out.2
      have hC : ∀ wx, Keeps [] w5 wx → (wx.cell? ⟨xb, 0, none⟩ = some (.int .i64 op) ∧ wx.cell? ⟨xb, 1, none⟩ = some (.int .u64 k) ∧ wx.cell? ⟨xb, 2, none⟩ = some (.int .u64 hi) ∧ wx.cell? ⟨xb, 3, none⟩ = some (.int .i64 l) ∧ wx.cell? ⟨xb, 4, none⟩ = some (.string v)
          ∧ wx.cell? ⟨p.gb, 0, none⟩ = some (.slice (some ⟨p.g, 0, none⟩) p.n p.n) ∧ wx.cell? ⟨p.gb, 1, none⟩ = some (.pointer (some ⟨p.stb, 0, none⟩)) ∧ wx.cell? ⟨p.gb, 2, none⟩ = some (.pointer (some ⟨p.tb, 0, none⟩)) ∧ wx.cell? ⟨p.gb, 3, none⟩ = some (.pointer (some ⟨p.wb, 0, none⟩)) ∧ Keeps [] w5 wx) := fun wx hk => by
        have a1 := (hk.block xb (lt_of hx5) (by simp)).trans hx5
        have a2 := (hk.block p.gb (lt_of hS.blk) (by simp)).trans hS.blk
        exact ⟨cell_of a1 rfl, cell_of a1 rfl, cell_of a1 rfl, cell_of a1 rfl, cell_of a1 rfl, cell_of a2 rfl, cell_of a2 rfl, cell_of a2 rfl, cell_of a2 rfl, hk⟩
      have HCC := Lib.hid hC
      have HS := Lib.hid hS
      by_cases hcase : c = 1 ∧ mayE op k hi l v = 0
      · skip
        obtain ⟨rfl, hm⟩ := hcase
        have hC6 : ∀ wx, Keeps (p.tb :: p.cb :: hv4.ownBlock.toList) w5 wx → (wx.cell? ⟨xb, 0, none⟩ = some (.int .i64 op) ∧ wx.cell? ⟨xb, 1, none⟩ = some (.int .u64 k) ∧ wx.cell? ⟨xb, 2, none⟩ = some (.int .u64 hi) ∧ wx.cell? ⟨xb, 3, none⟩ = some (.int .i64 l) ∧ wx.cell? ⟨xb, 4, none⟩ = some (.string v)
          ∧ wx.cell? ⟨p.gb, 2, none⟩ = some (.pointer (some ⟨p.tb, 0, none⟩)) ∧ wx.cell? ⟨p.gb, 3, none⟩ = some (.pointer (some ⟨p.wb, 0, none⟩)) ∧ Keeps (p.tb :: p.cb :: hv4.ownBlock.toList) w5 wx) := fun wx hk => by
          have a1 := (hk.block xb (lt_of hx5) (hS.away hx5 (by decide) (by decide) (by decide))).trans hx5
          have a2 := (hk.block p.gb (lt_of hS.blk) (hS.away hS.blk (by decide) (by decide) (by decide))).trans hS.blk
          exact ⟨cell_of a1 rfl, cell_of a1 rfl, cell_of a1 rfl, cell_of a1 rfl, cell_of a1 rfl, cell_of a2 rfl, cell_of a2 rfl, hk⟩
        have HC6 := Lib.hid hC6
        have k5d : Keeps [] w5 w5.drew := Keeps.drew w5
        have HI6 := Lib.hid (hS.grant op k hi l v hm w5.drew k5d)
        have HRT := Lib.hid (fun (w6 : World) (hk : Keeps (p.tb :: p.cb :: hv4.ownBlock.toList) w5 w6) => rinvoke_ok (hS.rt2 hk) 1 (-1) op k hi l v (by omega) rfl (by omega) hm)
        unfold caArr at HI6 HRT
        have k50 : Keeps (p.tb :: p.cb :: hv4.ownBlock.toList) w5 w5.drew := k5d.mono (by simp)
        obtain ⟨y0, y1, y2, y3, y4, z2, z3, _⟩ := hC6 _ k50
        clear hx5 hC hS hC6 k5d g0 g2 g3 x4 l0 l1 l2 l3 hal1 hal2 hm
        go_upto_region 7 with fail
        refine wp_normal ?_
        go_region_held3 (fun wx => wx.cell? ⟨xb, 0, none⟩ = some (.int .i64 op) ∧ wx.cell? ⟨xb, 1, none⟩ = some (.int .u64 k) ∧ wx.cell? ⟨xb, 2, none⟩ = some (.int .u64 hi) ∧ wx.cell? ⟨xb, 3, none⟩ = some (.int .i64 l) ∧ wx.cell? ⟨xb, 4, none⟩ = some (.string v)
          ∧ wx.cell? ⟨p.gb, 2, none⟩ = some (.pointer (some ⟨p.tb, 0, none⟩)) ∧ wx.cell? ⟨p.gb, 3, none⟩ = some (.pointer (some ⟨p.wb, 0, none⟩)) ∧ Keeps (p.tb :: p.cb :: hv4.ownBlock.toList) w5 wx)
          (first | exact HC6.out _ (by assumption))
          (first
            | (go_at_call 6; refine HI6.out.mono ?_; rintro e w6 ⟨hv6, rfl, ht6, hr6, hk6, ho6⟩; have k56 : Keeps (p.tb :: p.cb :: hv4.ownBlock.toList) w5 w6 := Keeps.trans k50 hk6 (fun i hi => .inl hi)))
        all_goals
          simp only [onlyNormal]
          have H6 := Lib.hid (And.intro ht6 (And.intro hr6 (And.intro hk6 ho6)))
          clear y0 y1 y2 y3 y4 z2 z3 ht6 hr6 hk6 ho6
          go_upto_region 8 with fail
          refine wp_normal ?_
          have k60 : Keeps (p.tb :: p.cb :: hv4.ownBlock.toList) w5 w6.drew := k56.trans (Keeps.drew w6) (by simp)
          have hr8 := HS.out.rt2 k60
          have hC8 : ∀ wx, Keeps (p.wb :: (hv.ownBlock.toList ++ lv5.ownBlock.toList)) w6.drew wx → (wx.cell? ⟨xb, 0, none⟩ = some (.int .i64 op) ∧ wx.cell? ⟨xb, 1, none⟩ = some (.int .u64 k) ∧ wx.cell? ⟨xb, 2, none⟩ = some (.int .u64 hi) ∧ wx.cell? ⟨xb, 3, none⟩ = some (.int .i64 l) ∧ wx.cell? ⟨xb, 4, none⟩ = some (.string v)
          ∧ wx.cell? ⟨p.gb, 2, none⟩ = some (.pointer (some ⟨p.tb, 0, none⟩)) ∧ wx.cell? ⟨p.gb, 3, none⟩ = some (.pointer (some ⟨p.wb, 0, none⟩))) := fun wx hk => by
            have hx5 := (HS.out.keep.block xb (lt_of HX.out.2) (by simp)).trans HX.out.2
            have a1 := (k60.block xb (lt_of hx5) (HS.out.away hx5 (by decide) (by decide) (by decide))).trans hx5
            have a2 := (k60.block p.gb (lt_of HS.out.blk) (HS.out.away HS.out.blk (by decide) (by decide) (by decide))).trans HS.out.blk
            have b1 := (hk.block xb (lt_of a1) (hr8.away a1 (by decide) (by decide) (by decide))).trans a1
            have b2 := (hk.block p.gb (lt_of a2) (hr8.away a2 (by decide) (by decide) (by decide))).trans a2
            exact ⟨cell_of b1 rfl, cell_of b1 rfl, cell_of b1 rfl, cell_of b1 rfl, cell_of b1 rfl, cell_of b2 rfl, cell_of b2 rfl⟩
          have kr := Keeps.refl (p.wb :: (hv.ownBlock.toList ++ lv5.ownBlock.toList)) w6.drew
          obtain ⟨y0, y1, y2, y3, y4, z2, z3⟩ := hC8 _ kr
          have HC8 := Lib.hid hC8
          have HR8 := Lib.hid hr8
          clear hC8 hr8
          go_region_held3 (fun wx => wx.cell? ⟨xb, 0, none⟩ = some (.int .i64 op) ∧ wx.cell? ⟨xb, 1, none⟩ = some (.int .u64 k) ∧ wx.cell? ⟨xb, 2, none⟩ = some (.int .u64 hi) ∧ wx.cell? ⟨xb, 3, none⟩ = some (.int .i64 l) ∧ wx.cell? ⟨xb, 4, none⟩ = some (.string v)
          ∧ wx.cell? ⟨p.gb, 2, none⟩ = some (.pointer (some ⟨p.tb, 0, none⟩)) ∧ wx.cell? ⟨p.gb, 3, none⟩ = some (.pointer (some ⟨p.wb, 0, none⟩)))
            (first | exact HC8.out _ (by assumption))
            (first
              | (go_at_call 7; refine (HRT.out _ k60).mono ?_; rintro e w7 ⟨lv7, rfl, hw7, hh7, hi7, hk7, ho7⟩))
          all_goals
            simp only [onlyNormal]
            have k67 : Keeps (p.wb :: (hv.ownBlock.toList ++ lv5.ownBlock.toList)) w6 w7 := Keeps.trans (Keeps.mono (Keeps.drew w6) (by simp)) hk7 (fun i hi => .inl hi)
            obtain ⟨t7, r7, k7, g7⟩ := HS.out.after k56 H6.out.1 H6.out.2.1 H6.out.2.2.2 (HS.out.rt2 k56) k67
            have HH := Lib.hid (fun (wx : World) (hk : Keeps [] w7 wx) => history_any ((hk.block p.tb (lt_of t7) (by simp)).trans t7) (r7.same fun q hq => hk.block q (r7.lt hq) (by simp)) (by omega) (ent2 op k hi l v))
            have HN := Lib.hid (fun (wx : World) (hk : Keeps [] w7 wx) => count_any ((hk.block p.tb (lt_of t7) (by simp)).trans t7))
            have HK7 := Lib.hid k7
            have hz2 : ∀ wx, Keeps [] w7 wx → (wx.cell? ⟨p.gb, 2, none⟩ = some (.pointer (some ⟨p.tb, 0, none⟩)) ∧ Keeps [] w7 wx) := fun wx hk => ⟨cell_of ((hk.block p.gb (lt_of g7) (by simp)).trans g7) rfl, hk⟩
            have HZ := Lib.hid hz2
            clear t7 r7 k7 g7 hz2
            clear y0 y1 y2 y3 y4 z2 z3 hw7 hh7 hi7 hk7 ho7
            obtain ⟨z7, _⟩ := HZ.out _ (Keeps.refl [] w7)
            go_wp2_with fail
            refine (HH.out _ (Keeps.refl [] w7)).mono ?_
            rintro e w8 ⟨ao8, cp8, rfl, hk8⟩
            have z8 := (HZ.out _ hk8).1
            have HK8 := Lib.hid hk8
            clear hk8 z7
            go_wp2_with fail
            refine (HN.out _ HK8.out).mono ?_
            rintro e w9 ⟨rfl, rfl⟩
            go_wp2_with fail
            refine (HK.out _).mono ?_
            rintro e w14 ⟨rfl, hk14⟩
            have HK14 := Lib.hid hk14; clear hk14
            go_wp2_with fail
            go_ret
            exact ⟨rfl, ((HX.out.1.trans HK7.out (by simp)).trans HK8.out (by simp)).trans HK14.out (by simp)⟩
      · skip
        obtain ⟨r, hr, hI, hJ⟩ := hS.refuse c op k hi l v hcase
        have HI2 := Lib.hid hI
        have HJ2 := Lib.hid hJ
        have b1 : (r == 0) = false := by simpa using hr
        unfold caArr at HI2 HJ2
        clear hx5 hC hS hI hJ hcase g0 g2 g3 x4 l0 l1 l2 l3 hal1 hal2
        go_upto_region 7 with fail
        refine wp_normal ?_
        have k50 : Keeps [] w5 w5.drew := Keeps.drew w5
        obtain ⟨y0, y1, y2, y3, y4, z0, z1, z2, z3, _⟩ := HCC.out _ k50
        go_region_held3 (fun wx => wx.cell? ⟨xb, 0, none⟩ = some (.int .i64 op) ∧ wx.cell? ⟨xb, 1, none⟩ = some (.int .u64 k) ∧ wx.cell? ⟨xb, 2, none⟩ = some (.int .u64 hi) ∧ wx.cell? ⟨xb, 3, none⟩ = some (.int .i64 l) ∧ wx.cell? ⟨xb, 4, none⟩ = some (.string v)
          ∧ wx.cell? ⟨p.gb, 0, none⟩ = some (.slice (some ⟨p.g, 0, none⟩) p.n p.n) ∧ wx.cell? ⟨p.gb, 1, none⟩ = some (.pointer (some ⟨p.stb, 0, none⟩)) ∧ wx.cell? ⟨p.gb, 2, none⟩ = some (.pointer (some ⟨p.tb, 0, none⟩)) ∧ wx.cell? ⟨p.gb, 3, none⟩ = some (.pointer (some ⟨p.wb, 0, none⟩)) ∧ Keeps [] w5 wx)
          (first | exact HCC.out _ (by assumption))
          (first
            | (go_at_call 6; refine (HI2.out _ k50).mono ?_; rintro e w6 ⟨rfl, hk6⟩; have k56 : Keeps [] w5 w6 := Keeps.trans k50 hk6 (by simp)))
        all_goals
          simp only [onlyNormal]
          clear y0 y1 y2 y3 y4 z0 z1 z2 z3
          go_upto_region 8 with fail
          refine wp_normal ?_
          have k60 : Keeps [] w5 w6.drew := k56.trans (Keeps.drew w6) (by simp)
          obtain ⟨y0, y1, y2, y3, y4, z0, z1, z2, z3, _⟩ := HCC.out _ k60
          go_region_held3 (fun wx => wx.cell? ⟨xb, 0, none⟩ = some (.int .i64 op) ∧ wx.cell? ⟨xb, 1, none⟩ = some (.int .u64 k) ∧ wx.cell? ⟨xb, 2, none⟩ = some (.int .u64 hi) ∧ wx.cell? ⟨xb, 3, none⟩ = some (.int .i64 l) ∧ wx.cell? ⟨xb, 4, none⟩ = some (.string v)
            ∧ wx.cell? ⟨p.gb, 0, none⟩ = some (.slice (some ⟨p.g, 0, none⟩) p.n p.n) ∧ wx.cell? ⟨p.gb, 1, none⟩ = some (.pointer (some ⟨p.stb, 0, none⟩)) ∧ wx.cell? ⟨p.gb, 2, none⟩ = some (.pointer (some ⟨p.tb, 0, none⟩)) ∧ wx.cell? ⟨p.gb, 3, none⟩ = some (.pointer (some ⟨p.wb, 0, none⟩)) ∧ Keeps [] w5 wx)
            (first | exact HCC.out _ (by assumption))
            (first
              | (go_at_call 7; refine (HJ2.out _ k60).mono ?_; rintro e w7 ⟨rfl, hk7⟩; have k57 : Keeps [] w5 w7 := Keeps.trans k60 hk7 (by simp)))
          all_goals
            simp only [onlyNormal]
            clear y0 y1 y2 y3 y4 z0 z1 z2 z3
            go_upto_region 13 with fail
            obtain ⟨S1, hcb, hV⟩ := HS.out.view
            have hR : ∀ wx, Keeps [] w5 wx → (wx.cell? ⟨p.gb, 0, none⟩ = some (.slice (some ⟨p.g, 0, none⟩) p.n p.n) ∧ wx.cell? ⟨p.gb, 1, none⟩ = some (.pointer (some ⟨p.stb, 0, none⟩)) ∧ wx.cell? ⟨p.gb, 2, none⟩ = some (.pointer (some ⟨p.tb, 0, none⟩)) ∧ (convert 33 9 (.slice (some ⟨p.g, 0, none⟩) p.n p.n)).run Tryz.prog wx = .ok (.string S1) wx ∧ Keeps [] w5 wx) := fun wx hk => by
              have hc := HCC.out wx hk
              exact ⟨hc.2.2.2.2.2.1, hc.2.2.2.2.2.2.1, hc.2.2.2.2.2.2.2.1, hcb wx hk, hk⟩
            have HR2 := Lib.hid hR
            have HV := Lib.hid hV
            have HH := Lib.hid (fun (wx : World) (hk : Keeps [] w5 wx) => history_any (HS.out.tab.keeps hk).blk (HS.out.tab.keeps hk).hist (by omega) ent0)
            have HN := Lib.hid (fun (wx : World) (hk : Keeps [] w5 wx) => count_any (HS.out.tab.keeps hk).blk)
            have HBu := Lib.hid (fun (wx : World) (hk : Keeps [] w5 wx) => busy_any (HS.out.tab.keeps hk))
            have hsite : ∀ wx, Keeps [] w5 wx → wx.cell? ⟨p.stb, 0, none⟩ = some (.pointer (some ⟨p.mb, 0, none⟩)) := fun wx hk => cell_of ((hk.block p.stb (lt_of HS.out.site) (by simp)).trans HS.out.site) rfl
            have HMe := Lib.hid (fun (wx : World) (hk : Keeps [] w5 wx) => smem_any (hsite wx hk))
            have HD := Lib.hid (fun (wx : World) (hk : Keeps [] w5 wx) => did_any (hR wx hk).2.1 (hsite wx hk) (HS.out.mem.keeps hk (by simp)) (by rw [wordsOf_length]; have := HS.out.m8; omega) rfl rfl rfl rfl)
            clear hR hV hcb hsite
            refine wp_normal ?_
            have k70 : Keeps [] w5 w7.drew := k57.trans (Keeps.drew w7) (by simp)
            obtain ⟨z0, z1, z2, zc, _⟩ := HR2.out _ k70
            -- @R13
            refine wp_region_held_drew (S := fun wx => wx.cell? ⟨p.gb, 0, none⟩ = some (.slice (some ⟨p.g, 0, none⟩) p.n p.n) ∧ wx.cell? ⟨p.gb, 1, none⟩ = some (.pointer (some ⟨p.stb, 0, none⟩)) ∧ wx.cell? ⟨p.gb, 2, none⟩ = some (.pointer (some ⟨p.tb, 0, none⟩)) ∧ (convert 33 9 (.slice (some ⟨p.g, 0, none⟩) p.n p.n)).run Tryz.prog wx = .ok (.string S1) wx ∧ Keeps [] w5 wx) (by kernel_rfl) (HR2.out _ k70) (fun hHeld0 => ?_)
            refine wpAnyH_takeL (i := 0) (v := ?v0) rfl (by kernel_rfl) (by kernel_rfl) (by kernel_rfl) (fun _ _ _ h => h) (Or.inl ⟨by rfl, ?hy0⟩) (by assumption) ?_
            case hy0 => (intro w hSw; (try dsimp only at hSw); go_simp; try with_reducible rfl)
            simp only [Act.put, List.setIfInBounds_toArray, List.set_cons_zero, List.set_cons_succ]
            refine wpAnyH_takeL (i := 1) (v := ?v1) rfl (by kernel_rfl) (by kernel_rfl) (by kernel_rfl) (fun _ _ _ h => h) (Or.inl ⟨by rfl, ?hy1⟩) (by assumption) ?_
            case hy1 => (intro w hSw; (try dsimp only at hSw); go_simp; try with_reducible rfl)
            simp only [Act.put, List.setIfInBounds_toArray, List.set_cons_zero, List.set_cons_succ]
            refine wpAnyH_takeL (i := 2) (v := ?v2) rfl (by kernel_rfl) (by kernel_rfl) (by kernel_rfl) (fun _ _ _ h => h) (Or.inl ⟨by rfl, ?hy2⟩) (by assumption) ?_
            case hy2 => (intro w hSw; (try dsimp only at hSw); go_simp; try with_reducible rfl)
            simp only [Act.put, List.setIfInBounds_toArray, List.set_cons_zero, List.set_cons_succ]
            refine wpAnyH_takeL (i := 3) (v := ?v3) rfl (by kernel_rfl) (by kernel_rfl) (by kernel_rfl) (fun _ _ _ h => h) (Or.inl ⟨by rfl, ?hy3⟩) (by assumption) ?_
            case hy3 => (intro w hSw; (try dsimp only at hSw); go_simp; try with_reducible rfl)
            simp only [Act.put, List.setIfInBounds_toArray, List.set_cons_zero, List.set_cons_succ]
            refine wpAnyH_ready (rs := [4]) (by kernel_rfl) (by simp) ?_
            refine AllReadyH.cons rfl (fun K4 hK4 => ?_) AllReadyH.nil
            go_simp
            refine (HH.out _ k70).mono ?_; rintro e w8 ⟨ao8, cp8, rfl, hk8⟩; have k58 : Keeps [] w5 w8 := Keeps.trans k70 hk8 (by simp)
            refine hK4.out _ _ (HR2.out _ k58) (fun hHeld4 => ?_)
            clear hK4 K4 hHeld0
            try simp only [Act.put, List.setIfInBounds_toArray, List.set_cons_zero, List.set_cons_succ]
            refine wpAnyH_takeL (i := 5) (v := ?v5) rfl (by kernel_rfl) (by kernel_rfl) (by kernel_rfl) (fun _ _ _ h => h) (Or.inl ⟨by rfl, ?hy5⟩) (by assumption) ?_
            case hy5 => (intro w hSw; (try dsimp only at hSw); go_simp; try with_reducible rfl)
            simp only [Act.put, List.setIfInBounds_toArray, List.set_cons_zero, List.set_cons_succ]
            refine wpAnyH_takeL (i := 6) (v := ?v6) rfl (by kernel_rfl) (by kernel_rfl) (by kernel_rfl) (fun _ _ _ h => h) (Or.inl ⟨by rfl, ?hy6⟩) (by assumption) ?_
            case hy6 => (intro w hSw; (try dsimp only at hSw); go_simp; try with_reducible rfl)
            simp only [Act.put, List.setIfInBounds_toArray, List.set_cons_zero, List.set_cons_succ]
            refine wpAnyH_takeL (i := 7) (v := ?v7) rfl (by kernel_rfl) (by kernel_rfl) (by kernel_rfl) (fun _ _ _ h => h) (Or.inl ⟨by rfl, ?hy7⟩) (by assumption) ?_
            case hy7 => (intro w hSw; (try dsimp only at hSw); go_simp; try with_reducible rfl)
            simp only [Act.put, List.setIfInBounds_toArray, List.set_cons_zero, List.set_cons_succ]
            refine wpAnyH_takeL (i := 8) (v := ?v8) rfl (by kernel_rfl) (by kernel_rfl) (by kernel_rfl) (fun _ _ _ h => h) (Or.inl ⟨by rfl, ?hy8⟩) (by assumption) ?_
            case hy8 => (intro w hSw; (try dsimp only at hSw); go_simp; try with_reducible rfl)
            simp only [Act.put, List.setIfInBounds_toArray, List.set_cons_zero, List.set_cons_succ]
            refine wpAnyH_takeL (i := 9) (v := ?v9) rfl (by kernel_rfl) (by kernel_rfl) (by kernel_rfl) (fun _ _ _ h => h) (Or.inl ⟨by rfl, ?hy9⟩) (by assumption) ?_
            case hy9 => (intro w hSw; (try dsimp only at hSw); go_simp; try with_reducible rfl)
            simp only [Act.put, List.setIfInBounds_toArray, List.set_cons_zero, List.set_cons_succ]
            refine wpAnyH_takeL (i := 10) (v := ?v10) rfl (by kernel_rfl) (by kernel_rfl) (by kernel_rfl) (fun _ _ _ h => h) (Or.inl ⟨by rfl, ?hy10⟩) (by assumption) ?_
            case hy10 => (intro w hSw; (try dsimp only at hSw); go_simp; try with_reducible rfl)
            simp only [Act.put, List.setIfInBounds_toArray, List.set_cons_zero, List.set_cons_succ]
            refine wpAnyH_takeL (i := 11) (v := ?v11) rfl (by kernel_rfl) (by kernel_rfl) (by kernel_rfl) (fun _ _ _ h => h) (Or.inl ⟨by rfl, ?hy11⟩) (by assumption) ?_
            case hy11 => (intro w hSw; (try dsimp only at hSw); go_simp; try with_reducible rfl)
            simp only [Act.put, List.setIfInBounds_toArray, List.set_cons_zero, List.set_cons_succ]
            refine wpAnyH_ready (rs := [12]) (by kernel_rfl) (by simp) ?_
            refine AllReadyH.cons rfl (fun K12 hK12 => ?_) AllReadyH.nil
            go_simp
            refine (HN.out _ k58).mono ?_; rintro e w9 ⟨rfl, rfl⟩
            refine hK12.out _ _ (HR2.out _ k58) (fun hHeld12 => ?_)
            clear hK12 K12 hHeld4
            try simp only [Act.put, List.setIfInBounds_toArray, List.set_cons_zero, List.set_cons_succ]
            refine wpAnyH_takeL (i := 13) (v := ?v13) rfl (by kernel_rfl) (by kernel_rfl) (by kernel_rfl) (fun _ _ _ h => h) (Or.inl ⟨by rfl, ?hy13⟩) (by assumption) ?_
            case hy13 => (intro w hSw; (try dsimp only at hSw); go_simp; try with_reducible rfl)
            simp only [Act.put, List.setIfInBounds_toArray, List.set_cons_zero, List.set_cons_succ]
            refine wpAnyH_takeL (i := 14) (v := ?v14) rfl (by kernel_rfl) (by kernel_rfl) (by kernel_rfl) (fun _ _ _ h => h) (Or.inl ⟨by rfl, ?hy14⟩) (by assumption) ?_
            case hy14 => (intro w hSw; (try dsimp only at hSw); go_simp; try with_reducible rfl)
            simp only [Act.put, List.setIfInBounds_toArray, List.set_cons_zero, List.set_cons_succ]
            refine wpAnyH_takeL (i := 15) (v := ?v15) rfl (by kernel_rfl) (by kernel_rfl) (by kernel_rfl) (fun _ _ _ h => h) (Or.inl ⟨by rfl, ?hy15⟩) (by assumption) ?_
            case hy15 => (intro w hSw; (try dsimp only at hSw); go_simp; try with_reducible rfl)
            simp only [Act.put, List.setIfInBounds_toArray, List.set_cons_zero, List.set_cons_succ]
            refine wpAnyH_takeL (i := 16) (v := ?v16) rfl (by kernel_rfl) (by kernel_rfl) (by kernel_rfl) (fun _ _ _ h => h) (Or.inl ⟨by rfl, ?hy16⟩) (by assumption) ?_
            case hy16 => (intro w hSw; (try dsimp only at hSw); go_simp; try with_reducible rfl)
            simp only [Act.put, List.setIfInBounds_toArray, List.set_cons_zero, List.set_cons_succ]
            refine wpAnyH_takeL (i := 17) (v := ?v17) rfl (by kernel_rfl) (by kernel_rfl) (by kernel_rfl) (fun _ _ _ h => h) (Or.inl ⟨by rfl, ?hy17⟩) (by assumption) ?_
            case hy17 => (intro w hSw; (try dsimp only at hSw); go_simp; try with_reducible rfl)
            simp only [Act.put, List.setIfInBounds_toArray, List.set_cons_zero, List.set_cons_succ]
            refine wpAnyH_takeL (i := 18) (v := ?v18) rfl (by kernel_rfl) (by kernel_rfl) (by kernel_rfl) (fun _ _ _ h => h) (Or.inl ⟨by rfl, ?hy18⟩) (by assumption) ?_
            case hy18 => (intro w hSw; (try dsimp only at hSw); go_simp; try with_reducible rfl)
            simp only [Act.put, List.setIfInBounds_toArray, List.set_cons_zero, List.set_cons_succ]
            refine wpAnyH_takeL (i := 19) (v := ?v19) rfl (by kernel_rfl) (by kernel_rfl) (by kernel_rfl) (fun _ _ _ h => h) (Or.inl ⟨by rfl, ?hy19⟩) (by assumption) ?_
            case hy19 => (intro w hSw; (try dsimp only at hSw); go_simp; try with_reducible rfl)
            simp only [Act.put, List.setIfInBounds_toArray, List.set_cons_zero, List.set_cons_succ]
            refine wpAnyH_ready (rs := [20]) (by kernel_rfl) (by simp) ?_
            refine AllReadyH.cons rfl (fun K20 hK20 => ?_) AllReadyH.nil
            go_simp
            refine (HBu.out _ k58).mono ?_; rintro e w10 ⟨ao10, cp10, rfl, hk10⟩; have k510 : Keeps [] w5 w10 := Keeps.trans k58 hk10 (by simp)
            refine hK20.out _ _ (HR2.out _ k510) (fun hHeld20 => ?_)
            clear hK20 K20 hHeld12
            try simp only [Act.put, List.setIfInBounds_toArray, List.set_cons_zero, List.set_cons_succ]
            refine wpAnyH_takeL (i := 21) (v := ?v21) rfl (by kernel_rfl) (by kernel_rfl) (by kernel_rfl) (fun _ _ _ h => h) (Or.inl ⟨by rfl, ?hy21⟩) (by assumption) ?_
            case hy21 => (intro w hSw; (try dsimp only at hSw); go_simp; try with_reducible rfl)
            simp only [Act.put, List.setIfInBounds_toArray, List.set_cons_zero, List.set_cons_succ]
            refine wpAnyH_takeL (i := 22) (v := ?v22) rfl (by kernel_rfl) (by kernel_rfl) (by kernel_rfl) (fun _ _ _ h => h) (Or.inl ⟨by rfl, ?hy22⟩) (by assumption) ?_
            case hy22 => (intro w hSw; (try dsimp only at hSw); go_simp; try with_reducible rfl)
            simp only [Act.put, List.setIfInBounds_toArray, List.set_cons_zero, List.set_cons_succ]
            refine wpAnyH_takeL (i := 23) (v := ?v23) rfl (by kernel_rfl) (by kernel_rfl) (by kernel_rfl) (fun _ _ _ h => h) (Or.inl ⟨by rfl, ?hy23⟩) (by assumption) ?_
            case hy23 => (intro w hSw; (try dsimp only at hSw); go_simp; try with_reducible rfl)
            simp only [Act.put, List.setIfInBounds_toArray, List.set_cons_zero, List.set_cons_succ]
            refine wpAnyH_takeL (i := 24) (v := ?v24) rfl (by kernel_rfl) (by kernel_rfl) (by kernel_rfl) (fun _ _ _ h => h) (Or.inl ⟨by rfl, ?hy24⟩) (by assumption) ?_
            case hy24 => (intro w hSw; (try dsimp only at hSw); go_simp; try with_reducible rfl)
            simp only [Act.put, List.setIfInBounds_toArray, List.set_cons_zero, List.set_cons_succ]
            refine wpAnyH_takeL (i := 25) (v := ?v25) rfl (by kernel_rfl) (by kernel_rfl) (by kernel_rfl) (fun _ _ _ h => h) (Or.inl ⟨by rfl, ?hy25⟩) (by assumption) ?_
            case hy25 => (intro w hSw; (try dsimp only at hSw); go_simp; try with_reducible rfl)
            simp only [Act.put, List.setIfInBounds_toArray, List.set_cons_zero, List.set_cons_succ]
            refine wpAnyH_takeL (i := 26) (v := ?v26) rfl (by kernel_rfl) (by kernel_rfl) (by kernel_rfl) (fun _ _ _ h => h) (Or.inl ⟨by rfl, ?hy26⟩) (by assumption) ?_
            case hy26 => (intro w hSw; (try dsimp only at hSw); go_simp; try with_reducible rfl)
            simp only [Act.put, List.setIfInBounds_toArray, List.set_cons_zero, List.set_cons_succ]
            refine wpAnyH_takeL (i := 27) (v := ?v27) rfl (by kernel_rfl) (by kernel_rfl) (by kernel_rfl) (fun _ _ _ h => h) (Or.inl ⟨by rfl, ?hy27⟩) (by assumption) ?_
            case hy27 => (intro w hSw; (try dsimp only at hSw); go_simp; try with_reducible rfl)
            simp only [Act.put, List.setIfInBounds_toArray, List.set_cons_zero, List.set_cons_succ]
            refine wpAnyH_takeL (i := 28) (v := ?v28) rfl (by kernel_rfl) (by kernel_rfl) (by kernel_rfl) (fun _ _ _ h => h) (Or.inl ⟨by rfl, ?hy28⟩) (by assumption) ?_
            case hy28 => (intro w hSw; (try dsimp only at hSw); go_simp; try with_reducible rfl)
            simp only [Act.put, List.setIfInBounds_toArray, List.set_cons_zero, List.set_cons_succ]
            refine wpAnyH_takeL (i := 32) (v := ?v32) rfl (by kernel_rfl) (by kernel_rfl) (by kernel_rfl) (fun _ _ _ h => h) (Or.inl ⟨by rfl, ?hy32⟩) (by assumption) ?_
            case hy32 => (intro w hSw; (try dsimp only at hSw); go_simp; try with_reducible rfl)
            simp only [Act.put, List.setIfInBounds_toArray, List.set_cons_zero, List.set_cons_succ]
            refine wpAnyH_takeL (i := 33) (v := ?v33) rfl (by kernel_rfl) (by kernel_rfl) (by kernel_rfl) (fun _ _ _ h => h) (Or.inl ⟨by rfl, ?hy33⟩) (by assumption) ?_
            case hy33 => (intro w hSw; (try dsimp only at hSw); go_simp; try with_reducible rfl)
            simp only [Act.put, List.setIfInBounds_toArray, List.set_cons_zero, List.set_cons_succ]
            refine wpAnyH_takeL (i := 34) (v := ?v34) rfl (by kernel_rfl) (by kernel_rfl) (by kernel_rfl) (fun _ _ _ h => h) (Or.inl ⟨by rfl, ?hy34⟩) (by assumption) ?_
            case hy34 => (intro w hSw; (try dsimp only at hSw); go_simp; try with_reducible rfl)
            simp only [Act.put, List.setIfInBounds_toArray, List.set_cons_zero, List.set_cons_succ]
            refine wpAnyH_takeL (i := 35) (v := ?v35) rfl (by kernel_rfl) (by kernel_rfl) (by kernel_rfl) (fun _ _ _ h => h) (Or.inl ⟨by rfl, ?hy35⟩) (by assumption) ?_
            case hy35 => (intro w hSw; (try dsimp only at hSw); go_simp; try with_reducible rfl)
            simp only [Act.put, List.setIfInBounds_toArray, List.set_cons_zero, List.set_cons_succ]
            refine wpAnyH_takeL (i := 36) (v := ?v36) rfl (by kernel_rfl) (by kernel_rfl) (by kernel_rfl) (fun _ _ _ h => h) (Or.inl ⟨by rfl, ?hy36⟩) (by assumption) ?_
            case hy36 => (intro w hSw; (try dsimp only at hSw); go_simp; try with_reducible rfl)
            simp only [Act.put, List.setIfInBounds_toArray, List.set_cons_zero, List.set_cons_succ]
            refine wpAnyH_ready (rs := [29]) (by kernel_rfl) (by simp) ?_
            refine AllReadyH.cons rfl (fun K29 hK29 => ?_) AllReadyH.nil
            go_simp
            refine (HMe.out _ k510).mono ?_; rintro e w11 ⟨rfl, rfl⟩
            refine hK29.out _ _ (HR2.out _ k510) (fun hHeld29 => ?_)
            clear hK29 K29 hHeld20
            try simp only [Act.put, List.setIfInBounds_toArray, List.set_cons_zero, List.set_cons_succ]
            refine wpAnyH_ready (rs := [30]) (by kernel_rfl) (by simp) ?_
            refine AllReadyH.cons rfl (fun K30 hK30 => ?_) AllReadyH.nil
            go_simp
            refine (HV.out _ k510).mono ?_; rintro e w12 ⟨ao12, n12, cp12, rfl, hcv12, hk12⟩; have k512 : Keeps [] w5 w12 := Keeps.trans k510 hk12 (by simp)
            refine hK30.out _ _ (HR2.out _ k512) (fun hHeld30 => ?_)
            clear hK30 K30 hHeld29
            try simp only [Act.put, List.setIfInBounds_toArray, List.set_cons_zero, List.set_cons_succ]
            refine wpAnyH_ready (rs := [31]) (by kernel_rfl) (by simp) ?_
            refine AllReadyH.cons rfl (fun K31 hK31 => ?_) AllReadyH.nil
            go_simp
            refine hK31.out _ _ (HR2.out _ k512) (fun hHeld31 => ?_)
            clear hK31 K31 hHeld30
            try simp only [Act.put, List.setIfInBounds_toArray, List.set_cons_zero, List.set_cons_succ]
            refine wpAnyH_takeL (i := 37) (v := ?v37) rfl (by kernel_rfl) (by kernel_rfl) (by kernel_rfl) (fun _ _ _ h => h) (Or.inl ⟨by rfl, ?hy37⟩) (by assumption) ?_
            case hy37 => (intro w hSw; (try dsimp only at hSw); go_simp; try with_reducible rfl)
            simp only [Act.put, List.setIfInBounds_toArray, List.set_cons_zero, List.set_cons_succ]
            refine wpAnyH_takeL (i := 38) (v := ?v38) rfl (by kernel_rfl) (by kernel_rfl) (by kernel_rfl) (fun _ _ _ h => h) (Or.inl ⟨by rfl, ?hy38⟩) (by assumption) ?_
            case hy38 => (intro w hSw; (try dsimp only at hSw); go_simp; try with_reducible rfl)
            simp only [Act.put, List.setIfInBounds_toArray, List.set_cons_zero, List.set_cons_succ]
            refine wpAnyH_takeL (i := 39) (v := ?v39) rfl (by kernel_rfl) (by kernel_rfl) (by kernel_rfl) (fun _ _ _ h => h) (Or.inl ⟨by rfl, ?hy39⟩) (by assumption) ?_
            case hy39 => (intro w hSw; (try dsimp only at hSw); go_simp; try with_reducible rfl)
            simp only [Act.put, List.setIfInBounds_toArray, List.set_cons_zero, List.set_cons_succ]
            refine wpAnyH_takeL (i := 40) (v := ?v40) rfl (by kernel_rfl) (by kernel_rfl) (by kernel_rfl) (fun _ _ _ h => h) (Or.inl ⟨by rfl, ?hy40⟩) (by assumption) ?_
            case hy40 => (intro w hSw; (try dsimp only at hSw); go_simp; try with_reducible rfl)
            simp only [Act.put, List.setIfInBounds_toArray, List.set_cons_zero, List.set_cons_succ]
            refine wpAnyH_ready (rs := [41]) (by kernel_rfl) (by simp) ?_
            refine AllReadyH.cons rfl (fun K41 hK41 => ?_) AllReadyH.nil
            go_simp
            refine (HD.out _ k512).mono ?_; rintro e w13 ⟨rfl, hk13⟩; have k513 : Keeps [] w5 w13 := Keeps.trans k512 hk13 (by simp)
            refine hK41.out _ _ (HR2.out _ k513) (fun hHeld41 => ?_)
            clear hK41 K41 hHeld31
            try simp only [Act.put, List.setIfInBounds_toArray, List.set_cons_zero, List.set_cons_succ]
            refine wpAnyH_takeL (i := 42) (v := ?v42) rfl (by kernel_rfl) (by kernel_rfl) (by kernel_rfl) (fun _ _ _ h => h) (Or.inl ⟨by rfl, ?hy42⟩) (by assumption) ?_
            case hy42 => (intro w hSw; (try dsimp only at hSw); go_simp; try with_reducible rfl)
            simp only [Act.put, List.setIfInBounds_toArray, List.set_cons_zero, List.set_cons_succ]
            refine wpAnyH_takeL (i := 43) (v := ?v43) rfl (by kernel_rfl) (by kernel_rfl) (by kernel_rfl) (fun _ _ _ h => h) (Or.inl ⟨by rfl, ?hy43⟩) (by assumption) ?_
            case hy43 => (intro w hSw; (try dsimp only at hSw); go_simp; try with_reducible rfl)
            simp only [Act.put, List.setIfInBounds_toArray, List.set_cons_zero, List.set_cons_succ]
            refine wpAnyH_takeL (i := 44) (v := ?v44) rfl (by kernel_rfl) (by kernel_rfl) (by kernel_rfl) (fun _ _ _ h => h) (Or.inl ⟨by rfl, ?hy44⟩) (by assumption) ?_
            case hy44 => (intro w hSw; (try dsimp only at hSw); go_simp; try with_reducible rfl)
            simp only [Act.put, List.setIfInBounds_toArray, List.set_cons_zero, List.set_cons_succ]
            refine wpAnyH_ready (rs := [45]) (by kernel_rfl) (by simp) ?_
            refine AllReadyH.cons rfl (fun K45 hK45 => ?_) AllReadyH.nil
            go_simp
            refine (HK.out _).mono ?_; rintro e w14 ⟨rfl, hk14⟩; have k514 : Keeps [] w5 w14 := Keeps.trans k513 hk14 (by simp)
            refine hK45.out _ _ (HR2.out _ k514) (fun hHeld45 => ?_)
            clear hK45 K45 hHeld41
            try simp only [Act.put, List.setIfInBounds_toArray, List.set_cons_zero, List.set_cons_succ]
            refine wpAnyH_takeL (i := 46) (v := ?v46) rfl (by kernel_rfl) (by kernel_rfl) (by kernel_rfl) (fun _ _ _ h => h) (Or.inl ⟨by rfl, ?hy46⟩) (by assumption) ?_
            case hy46 => (intro w hSw; (try dsimp only at hSw); go_simp; try with_reducible rfl)
            simp only [Act.put, List.setIfInBounds_toArray, List.set_cons_zero, List.set_cons_succ]
            refine wpAnyH_takeL (i := 47) (v := ?v47) rfl (by kernel_rfl) (by kernel_rfl) (by kernel_rfl) (fun _ _ _ h => h) (Or.inl ⟨by rfl, ?hy47⟩) (by assumption) ?_
            case hy47 => (intro w hSw; (try dsimp only at hSw); go_simp; try with_reducible rfl)
            simp only [Act.put, List.setIfInBounds_toArray, List.set_cons_zero, List.set_cons_succ]
            refine wpAnyH_done (by kernel_rfl) ?_ _
            -- @13R
            simp only [onlyNormal]
            go_wp2_with fail
            go_ret
            exact ⟨rfl, (HX.out.1.trans HS.out.keep (by simp)).trans k514 (by simp)⟩
end
end Go.Proofs.YtdbbbaallalhoaaGreat.si
