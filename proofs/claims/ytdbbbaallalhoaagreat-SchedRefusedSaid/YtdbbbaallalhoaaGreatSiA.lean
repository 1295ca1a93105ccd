/-
  PROVED HERE: small functions of pmem, slab, lock, site (there, Size, Slabs, New, Locks, Clients, Mem). Conditions: the receivers lie as named.
-/
import Derived.Test.YtdbbbaallalhoaaGreatSlA
namespace Go.Proofs.YtdbbbaallalhoaaGreat.si
open Go.RowKit Go.Proofs.YtdbbbaallalhoaaGreat.pm Go.Proofs.YtdbbbaallalhoaaGreat.ar Go.Proofs.YtdbbbaallalhoaaGreat.bt Go.Proofs.YtdbbbaallalhoaaGreat.sl
set_option linter.unusedVariables false
attribute [-go_sem] Builtin.append_ Instr.buildSlice Instr.build

theorem mthere_any {w : World} {b k cp : Nat} {ao : Option Addr} (h : w.cell? ⟨b, 0, none⟩ = some (.slice ao k cp)) (hk : 0 < k) : Calls Tryz.prog 30 #[.pointer (some ⟨b, 0, none⟩)] w fun e w' => e = .returned (.bool true) ∧ w = w' := by
  have hkI : (0 : Int) < (k : Int) := by omega
  have hkb : decide (0 < k) = true := by simpa using hk
  go_enter Tryz.func30, Tryz.ntmps30
  go_wp2
  go_ret
  exact ⟨rfl, rfl⟩
theorem msize_any {w : World} {b k n cp : Nat} {ao : Option Addr} (h : w.cell? ⟨b, 0, none⟩ = some (.slice ao k cp)) (hk : 0 < k) (hn : n = 8 * k) (hs : k ≤ 200000) : Calls Tryz.prog 51 #[.pointer (some ⟨b, 0, none⟩)] w fun e w' => e = .returned (.int .i64 n) ∧ w = w' := by
  have HT := Lib.hid (mthere_any h hk)
  have e1 : IntKind.i64.wrap (8 * (k : Int)) = (n : Int) := by rw [IntWalk.i64_in _ (by omega)]; omega
  have e2 : 8 * (k : Int) = (n : Int) := by omega
  clear hn
  go_enter Tryz.func51, Tryz.ntmps51
  go_wp2_with fail
  refine HT.out.mono ?_
  rintro e w1 ⟨rfl, rfl⟩
  go_wp2_with fail
  go_ret
  exact ⟨rfl, rfl⟩
theorem sthere_any {w : World} {b k cp : Nat} {ao : Option Addr} (h : w.cell? ⟨b, 1, none⟩ = some (.slice ao k cp)) (hk : 0 < k) : Calls Tryz.prog 82 #[.pointer (some ⟨b, 0, none⟩)] w fun e w' => e = .returned (.bool true) ∧ w = w' := by
  have hkb : decide (0 < k) = true := by simpa using hk
  go_enter Tryz.func82, Tryz.ntmps82
  go_wp2
  go_ret
  exact ⟨rfl, rfl⟩
theorem sslabs_any {w : World} {b S cp : Nat} {ao : Option Addr} (h : w.cell? ⟨b, 1, none⟩ = some (.slice ao (S + 1) cp)) (hS : S ≤ 64) : Calls Tryz.prog 52 #[.pointer (some ⟨b, 0, none⟩)] w fun e w' => e = .returned (.int .i64 S) ∧ w = w' := by
  have HT := Lib.hid (sthere_any h (by omega))
  obtain ⟨S1, hS1⟩ : ∃ S1, S1 = S + 1 := ⟨_, rfl⟩
  have e1 : IntKind.i64.wrap ((S1 : Int) - 1) = (S : Int) := by rw [IntWalk.i64_in _ (by omega)]; omega
  rw [← hS1] at h
  clear hS1
  go_enter Tryz.func52, Tryz.ntmps52
  go_wp2_with fail
  refine HT.out.mono ?_
  rintro e w1 ⟨rfl, rfl⟩
  go_wp2_with fail
  go_ret
  exact ⟨rfl, rfl⟩

def NewLock (w : World) (n : Nat) (e : Ending) (w' : World) : Prop := ∃ lb cs, e = .returned (.tuple #[.pointer (some ⟨lb, 0, none⟩), .int .i64 0]) ∧ w'.heap[lb]? = some (.cells cs 170 (0, 0)) ∧ cs[0]? = some (.int .i64 n) ∧ Keeps [] w w' ∧ w.heap.size ≤ lb
def lkArr (n lm : Nat) : Array Value := #[.int .i64 n, .map (some lm)] ++ (List.replicate 64 (Value.int .u64 0)).toArray
set_option maxRecDepth 1000000 in
theorem built_lock (n lm : Nat) : Tryz.prog.built 170 [(0, .int .i64 n), (1, .map (some lm))] = some (lkArr n lm) := by kernel_rfl
theorem lockNew_any (n : Nat) (w : World) (h1 : 1 ≤ n) (h2 : n ≤ 64) : Calls Tryz.prog 53 #[.int .i64 n] w (NewLock w n) := by
  have hmm := @run_makeMap Tryz.prog
  have n1 : ¬ (n : Int) < 1 := by omega
  have n2 : ¬ (64 : Int) < (n : Int) := by omega
  have hbd : ∀ lm wx, (Instr.build 170 #[(0, .int .i64 n), (1, .map (some lm))]).run Tryz.prog wx = .ok (.agg (lkArr n lm)) wx := fun lm wx => run_build wx _ _ _ (built_lock n lm)
  obtain ⟨C, hC⟩ : ∃ C : Nat → Array Value, C = lkArr n := ⟨_, rfl⟩
  have HC := Lib.hid (show ∀ lm, (C lm)[0]? = some (.int .i64 n) from fun lm => by rw [hC]; simp [lkArr])
  rw [← hC] at hbd
  clear hC
  go_enter Tryz.func53, Tryz.ntmps53
  go_wp2_with fail
  go_ret2
  exact ⟨_, _, rfl, (by have := alloc_new (w := w.alloc (.map #[] 0)) (o := .cells (C w.heap.size) 170); rwa [World.size_alloc] at this), HC.out _, (Keeps.alloc _ _).trans (Keeps.alloc _ _) (by simp), by simp⟩
theorem lthere_any {w : World} {b n : Nat} (h : w.cell? ⟨b, 0, none⟩ = some (.int .i64 n)) (hn : 0 < n) : Calls Tryz.prog 102 #[.pointer (some ⟨b, 0, none⟩)] w fun e w' => e = .returned (.bool true) ∧ w = w' := by
  have hkI : (0 : Int) < (n : Int) := by omega
  have hkb : decide (0 < n) = true := by simpa using hn
  go_enter Tryz.func102, Tryz.ntmps102
  go_wp2
  go_ret
  exact ⟨rfl, rfl⟩
theorem lclients_any {w : World} {b n : Nat} (h : w.cell? ⟨b, 0, none⟩ = some (.int .i64 n)) (hn : 0 < n) : Calls Tryz.prog 84 #[.pointer (some ⟨b, 0, none⟩)] w fun e w' => e = .returned (.int .i64 n) ∧ w = w' := by
  have HT := Lib.hid (lthere_any h hn)
  go_enter Tryz.func84, Tryz.ntmps84
  go_wp2_with fail
  refine HT.out.mono ?_
  rintro e w1 ⟨rfl, rfl⟩
  go_wp2_with fail
  go_ret
  exact ⟨rfl, rfl⟩
theorem slocks_any {w : World} {b lb : Nat} (h : w.cell? ⟨b, 2, none⟩ = some (.pointer (some ⟨lb, 0, none⟩))) : Calls Tryz.prog 83 #[.pointer (some ⟨b, 0, none⟩)] w fun e w' => e = .returned (.pointer (some ⟨lb, 0, none⟩)) ∧ w = w' := by
  go_enter Tryz.func83, Tryz.ntmps83
  go_wp2
  go_ret
  exact ⟨rfl, rfl⟩
theorem smem_any {w : World} {b mb : Nat} (h : w.cell? ⟨b, 0, none⟩ = some (.pointer (some ⟨mb, 0, none⟩))) : Calls Tryz.prog 11 #[.pointer (some ⟨b, 0, none⟩)] w fun e w' => e = .returned (.pointer (some ⟨mb, 0, none⟩)) ∧ w = w' := by
  go_enter Tryz.func11, Tryz.ntmps11
  go_wp2
  go_ret
  exact ⟨rfl, rfl⟩
theorem sclients_any {w : World} {b lb n : Nat} (h : w.cell? ⟨b, 2, none⟩ = some (.pointer (some ⟨lb, 0, none⟩))) (h2 : w.cell? ⟨lb, 0, none⟩ = some (.int .i64 n)) (hn : 0 < n) : Calls Tryz.prog 55 #[.pointer (some ⟨b, 0, none⟩)] w fun e w' => e = .returned (.int .i64 n) ∧ w = w' := by
  have HL := Lib.hid (slocks_any h)
  have HC := Lib.hid (lclients_any h2 hn)
  go_enter Tryz.func55, Tryz.ntmps55
  go_wp2_with fail
  refine HL.out.mono ?_
  rintro e w1 ⟨rfl, rfl⟩
  go_wp2_with fail
  refine HC.out.mono ?_
  rintro e w1 ⟨rfl, rfl⟩
  go_wp2_with fail
  go_ret
  exact ⟨rfl, rfl⟩

/-- A site: its memory, its blocks, its locks. -/
def siArr (mb sb lb : Nat) : Array Value := #[.pointer (some ⟨mb, 0, none⟩), .pointer (some ⟨sb, 0, none⟩), .pointer (some ⟨lb, 0, none⟩)]
def NewSite (w : World) (mb sb n : Nat) (e : Ending) (w' : World) : Prop := ∃ tb lb cs, e = .returned (.tuple #[.pointer (some ⟨tb, 0, none⟩), .int .i64 0]) ∧ w'.heap[tb]? = some (.cells (siArr mb sb lb) 94 (0, 0)) ∧ w'.heap[lb]? = some (.cells cs 170 (0, 0)) ∧ cs[0]? = some (.int .i64 n) ∧ Keeps [] w w' ∧ w.heap.size ≤ tb ∧ w.heap.size ≤ lb
set_option maxRecDepth 1000000 in
theorem built_site (mb sb lb : Nat) : Tryz.prog.built 94 [(0, .pointer (some ⟨mb, 0, none⟩)), (1, .pointer (some ⟨sb, 0, none⟩)), (2, .pointer (some ⟨lb, 0, none⟩))] = some (siArr mb sb lb) := by kernel_rfl
set_option maxHeartbeats 1000000 in
theorem siteNew_any {w : World} {mb sb k n S cp cp2 c : Nat} {ao ao2 : Option Addr} (h : w.cell? ⟨mb, 0, none⟩ = some (.slice ao k cp)) (hk : 0 < k) (hn : n = 8 * k) (h2 : w.cell? ⟨sb, 1, none⟩ = some (.slice ao2 (S + 1) cp2)) (hS1 : 1 ≤ S) (hS : S ≤ 64) (hnS : n = 1024 * (S + 1)) (hc1 : 1 ≤ c) (hc2 : c ≤ 64) :
    Calls Tryz.prog 18 #[.pointer (some ⟨mb, 0, none⟩), .pointer (some ⟨sb, 0, none⟩), .int .i64 c] w (NewSite w mb sb c) := by
  have hm := World.block_lt_of_cell? _ _ h
  have hs := World.block_lt_of_cell? _ _ h2
  have HMs : Hid (∀ wx, Keeps [] w wx → Calls Tryz.prog 51 #[.pointer (some ⟨mb, 0, none⟩)] wx fun e w' => e = .returned (.int .i64 n) ∧ wx = w') := Lib.hid fun wx hk2 => msize_any (by rw [World.cell?_of_block (hk2.block mb hm (by simp))]; exact h) hk hn (by omega)
  have HSs : Hid (∀ wx, Keeps [] w wx → Calls Tryz.prog 52 #[.pointer (some ⟨sb, 0, none⟩)] wx fun e w' => e = .returned (.int .i64 S) ∧ wx = w') := Lib.hid fun wx hk2 => sslabs_any (by rw [World.cell?_of_block (hk2.block sb hs (by simp))]; exact h2) hS
  have HGz := Lib.hid (fun wx => size_any S wx hS1 hS)
  have HLk := Lib.hid (lockNew_any c w hc1 hc2)
  have hbd : ∀ lb wx, (Instr.build 94 #[(0, .pointer (some ⟨mb, 0, none⟩)), (1, .pointer (some ⟨sb, 0, none⟩)), (2, .pointer (some ⟨lb, 0, none⟩))]).run Tryz.prog wx = .ok (.agg (siArr mb sb lb)) wx := fun lb wx => run_build wx _ _ _ (built_site mb sb lb)
  have b1 : ((n : Int) == 0) = false := by simp; omega
  have b2 : ((S : Int) == 0) = false := by simp; omega
  rw [← hnS] at HGz
  clear h h2 hn hnS
  have k0 := Keeps.refl [] w
  go_enter Tryz.func18, Tryz.ntmps18
  go_wp2_with fail
  refine (HMs.out _ k0).mono ?_
  rintro e w1 ⟨rfl, rfl⟩
  go_wp2_with fail
  refine (HSs.out _ k0).mono ?_
  rintro e w1 ⟨rfl, rfl⟩
  go_wp2_with fail
  refine HLk.out.mono ?_
  rintro e w1 ⟨lb, cs, rfl, hl1, hl2, hk1, hl3⟩
  have H1 := Lib.hid (And.intro hl1 (And.intro hl2 (And.intro hk1 hl3))); clear hl1 hl2 hl3
  go_wp2_with fail
  refine (HMs.out _ hk1).mono ?_
  rintro e w2 ⟨rfl, rfl⟩
  go_wp2_with fail
  refine (HSs.out _ hk1).mono ?_
  rintro e w2 ⟨rfl, rfl⟩
  go_wp2_with fail
  refine (HGz.out _).mono ?_
  rintro e w2 ⟨rfl, rfl⟩
  go_wp2_with fail
  go_ret2
  obtain ⟨hl1, hl2, hk1, hl3⟩ := H1.out
  exact ⟨_, lb, cs, rfl, alloc_new, alloc_old hl1, hl2, hk1.trans (Keeps.alloc _ _) (by simp), hk1.size, hl3⟩

/-- A table: its site, its clients, its history, its count. -/
def tbArr (stb : Nat) (cl hist : Value) (count : Int) : Array Value := #[.pointer (some ⟨stb, 0, none⟩), cl, hist, .int .i64 count]
def NewTable (w : World) (stb : Nat) (e : Ending) (w' : World) : Prop := ∃ tb cb, e = .returned (.tuple #[.pointer (some ⟨tb, 0, none⟩), .int .i64 0]) ∧ w'.heap[tb]? = some (.cells (tbArr stb (.slice (some ⟨cb, 0, none⟩) 2 2) (.slice none 0 0) 0) 83 (0, 0)) ∧ w'.heap[cb]? = some (.cells #[.nilIface, .int .i64 0, .nilIface, .int .i64 0] 80 (0, 0)) ∧ Keeps [] w w' ∧ w.heap.size ≤ tb ∧ w.heap.size ≤ cb
set_option maxRecDepth 1000000 in
theorem built_table (stb cb n : Nat) : Tryz.prog.built 83 [(0, .pointer (some ⟨stb, 0, none⟩)), (1, .slice (some ⟨cb, 0, none⟩) n n)] = some (tbArr stb (.slice (some ⟨cb, 0, none⟩) n n) (.slice none 0 0) 0) := by kernel_rfl
set_option maxRecDepth 1000000 in
theorem clientZero : (Tryz.prog.info? 80).map (fun i => (i.zero, i.size, i.bytes)) = some (some (.agg #[.nilIface, .int .i64 0]), 2, 24) := by kernel_rfl
set_option maxHeartbeats 1000000 in
theorem schedNew_any {w : World} {stb mb sb lb : Nat} {cs : Array Value} (h : w.heap[stb]? = some (.cells (siArr mb sb lb) 94 (0, 0))) (h2 : w.heap[lb]? = some (.cells cs 170 (0, 0))) (h3 : cs[0]? = some (.int .i64 (2 : Nat))) :
    Calls Tryz.prog 19 #[.pointer (some ⟨stb, 0, none⟩)] w (NewTable w stb) := by
  obtain ⟨n, hn⟩ : ∃ n : Nat, n = 2 := ⟨_, rfl⟩
  rw [← hn] at h3
  have b1 : ((n : Int) == 0) = false := by simp; omega
  have hn2 : n ≤ 2 := by omega
  have HM := Lib.hid (smem_any (w := w) (b := stb) (mb := mb) (cell_of h rfl))
  have HC := Lib.hid (sclients_any (w := w) (b := stb) (lb := lb) (n := n) (cell_of h rfl) (cell_of h2 h3) (by omega))
  obtain ⟨i0, hi0, hz0, hz1, hz2⟩ := info_parts clientZero
  have hbd : ∀ cb wx, (Instr.build 83 #[(0, .pointer (some ⟨stb, 0, none⟩)), (1, .slice (some ⟨cb, 0, none⟩) n n)]).run Tryz.prog wx = .ok (.agg (tbArr stb (.slice (some ⟨cb, 0, none⟩) n n) (.slice none 0 0) 0)) wx := fun cb wx => run_build wx _ _ _ (built_table stb cb n)
  have HN := Lib.hid hn
  clear h h2 h3 hn
  go_enter Tryz.func19, Tryz.ntmps19
  go_wp2_with fail
  refine HM.out.mono ?_
  rintro e w1 ⟨rfl, rfl⟩
  go_wp2_with fail
  refine HC.out.mono ?_
  rintro e w1 ⟨rfl, rfl⟩
  go_wp2_with fail
  refine HC.out.mono ?_
  rintro e w1 ⟨rfl, rfl⟩
  go_wp2_with (at_make; refine wpList_make_full _ rfl _ _ 81 rfl w.heap.size 80 i0 (.agg #[.nilIface, .int .i64 0]) 2 Tryz.underlying81 hi0 hz0 hz1 .i64 .i64 (n : Int) (n : Int) n rfl rfl (by omega) (by omega) (by rw [hz2]; omega) (by unfold maxLen; omega) (Nat.le_refl _) ?_; intro W hown hgr)
  have hcl : W.heap[w.heap.size]? = some (.cells #[.nilIface, .int .i64 0, .nilIface, .int .i64 0] 80 (0, 0)) := by
    obtain ⟨_, ⟨e, h0⟩ | ⟨g', cap, cur, e, _, hg, _, _, hs, ht⟩⟩ := hown
    · cases e
    · cases e
      have hn := HN.out
      subst hn
      rw [hg]
      have : cur = #[.nilIface, .int .i64 0, .nilIface, .int .i64 0] := by
        rw [← Array.toList_inj, ← List.take_of_length_le (l := cur.toList) (i := 2 * 2) (by simp [hs]), ht]; kernel_rfl
      rw [this]
  have HX := Lib.hid (And.intro hcl hgr); clear hcl hgr hown
  go_ret2
  obtain ⟨hcl, hgr⟩ := HX.out
  have hkW : Keeps [] w W := by have := Keeps.grown hgr; simpa using this
  have hn := HN.out
  subst hn
  exact ⟨W.heap.size, w.heap.size, rfl, alloc_new, alloc_old hcl, hkW.trans (Keeps.alloc _ _) (by simp), hkW.size, Nat.le_refl _⟩

/-- The reference's table: what was invoked, who has which call, how much was done. -/
def rtArr (lv hv : Value) (count : Int) : Array Value := #[lv, hv, .int .i64 count]
def NewRef (w : World) (e : Ending) (w' : World) : Prop := ∃ wb hv, e = .returned (.pointer (some ⟨wb, 0, none⟩)) ∧ w'.heap[wb]? = some (.cells (rtArr (.slice none 0 0) hv 0) 75 (0, 0)) ∧ RowAt w' 3 1 hv 2 [.int .i64 (-1), .int .i64 (-1)] ∧ Keeps [] w w' ∧ w.heap.size ≤ wb ∧ ∀ q, hv.ownBlock = some q → w.heap.size ≤ q
set_option maxRecDepth 1000000 in
theorem intInfo : (Tryz.prog.info? 3).map (fun i => (i.zero, i.size, i.bytes)) = some (some (.int .i64 0), 1, 8) := by kernel_rfl
theorem one_int (x : Int) (w : World) : (Instr.buildSlice 44 1 #[(0, .int .i64 x)]).run Tryz.prog w = .ok (.slice (some ⟨w.heap.size, 0, none⟩) 1 1) (w.alloc (.cells #[.int .i64 x] 3)) := by
  obtain ⟨i0, hi0, hz0, hz1, hz2⟩ := info_parts intInfo
  refine run_buildSlice w 44 3 1 _ #[.int .i64 x] i0 (.int .i64 0) Tryz.underlying44 hi0 hz0 (by rw [hz1]; decide) (by rw [hz1]; decide) ?_
  have := Go.Great.fill_whole (s := i0.size) (by rw [hz1]; decide) [Value.int .i64 x] ((Array.range (1 * i0.size)).map ((Value.int .i64 0).cells[· % (Value.int .i64 0).cells.size]!)) (fun u hu => by simp at hu; subst hu; rw [hz1]; rfl) (by simp)
  simp only [List.zipIdx_cons, List.zipIdx_nil, List.map_cons, List.map_nil, List.flatMap_cons, List.flatMap_nil, List.append_nil] at this
  exact this.trans (congrArg some rfl)
set_option maxRecDepth 1000000 in
theorem built_rt : Tryz.prog.built 75 [] = some (rtArr (.slice none 0 0) (.slice none 0 0) 0) := by kernel_rfl
set_option maxHeartbeats 2000000 in
theorem refNew_any (w : World) : Calls Tryz.prog 20 #[.int .i64 (2 : Nat)] w (NewRef w) := by
  obtain ⟨i0, hi0, hz0, hz1, hz2⟩ := info_parts intInfo
  have hbd : ∀ wx, (Instr.build 75 #[]).run Tryz.prog wx = .ok (.agg (rtArr (.slice none 0 0) (.slice none 0 0) 0)) wx := fun wx => run_build wx _ _ _ built_rt
  have hbs := fun wx => one_int (-1) wx
  obtain ⟨n, hn⟩ : ∃ n : Nat, n = 2 := ⟨_, rfl⟩
  rw [← hn]
  have HN := Lib.hid hn; clear hn
  obtain ⟨wb, hwb⟩ : ∃ wb, wb = w.heap.size := ⟨_, rfl⟩
  go_enter Tryz.func20, Tryz.ntmps20
  go_wp2_with fail
  rw [← hwb]
  have HW := Lib.hid hwb
  have h0 : (w.alloc (.cells (rtArr (.slice none 0 0) (.slice none 0 0) 0) 75)).heap[wb]? = some (.cells (rtArr (.slice none 0 0) (.slice none 0 0) 0) 75 (0, 0)) := by rw [hwb]; exact alloc_new
  have H0 := Lib.hid h0; clear h0 hwb
  go_loopw [4] (fun s4 wr => ∃ (i : Nat) (hv : Value), i ≤ n ∧ s4 = .int .i64 i ∧ wr.heap[wb]? = some (.cells (rtArr (.slice none 0 0) hv 0) 75 (0, 0)) ∧ RowAt wr 3 1 hv i (List.replicate i (.int .i64 (-1))) ∧ Keeps [] w wr ∧ ∀ q, hv.ownBlock = some q → w.heap.size ≤ q) (fun s4 _ => n - (intOf s4).toNat)
  case atStart => exact ⟨0, .slice none 0 0, by omega, rfl, H0.out, RowAt.nil _ _ _, Keeps.alloc _ _, fun q hq => by cases hq⟩
  case round =>
    obtain ⟨i, hv, hi, rfl, hb, hrow, hk, hown⟩ := hrel
    by_cases hlt : i < n
    · have hiI : (i : Int) < (n : Int) := by omega
      have hi2 : i < 2 := by have := HN.out; omega
      obtain ⟨ao, cp, rfl, _, _⟩ := row_shape hrow
      have c1 : wr.cell? ⟨wb, 1, none⟩ = some (.slice ao i cp) := cell_of hb rfl
      have hap := row_apart_blk hrow hb (by decide)
      have hRa : RowAt (wr.alloc (.cells #[.int .i64 (-1)] 3)) 3 1 (.slice ao i cp) i (List.replicate i (.int .i64 (-1))) := hrow.same fun q hq => (MapKept.heap_alloc wr _).2 q (hrow.lt hq)
      have hnew : Reads (wr.alloc (.cells #[.int .i64 (-1)] 3)) (.slice (some ⟨wr.heap.size, 0, none⟩) 1 1) 1 [.int .i64 (-1)] := .inr ⟨⟨wr.heap.size, 0, none⟩, 1, rfl, rfl, fun j u hu => by
        rw [Nat.zero_add]; exact cell_of alloc_new (by rw [← hu]; cases j <;> rfl)⟩
      have HR := Lib.hid (And.intro hb (And.intro hrow (And.intro hk (And.intro hown hap)))); clear hb hrow hk hown hap
      go_wp2_with (first
        | (at_builtin; refine wpList_append_row _ rfl _ _ 44 rfl 3 i0 _ 1 8 Tryz.underlying44 hi0 hz0 hz1 hz2 rfl _ (.slice (some ⟨wr.heap.size, 0, none⟩) 1 1) rfl rfl i _ hRa 1 [.int .i64 (-1)] hnew rfl (by intro u hu; simp at hu; subst hu; rfl) ?hmx ?hby ?_)
        | fail)
      case hmx => unfold maxLen; omega
      case hby => omega
      intro v' w8 hrow' hgrow hblk' g5 o5 c5 hsl
      subst hsl
      have hk8 : Keeps (Value.slice ao i cp).ownBlock.toList wr w8 := ((Keeps.alloc wr _).mono (G := (Value.slice ao i cp).ownBlock.toList) (by simp)).trans (Keeps.grown hgrow) (fun j hj => .inl hj)
      have hb8 : w8.heap[wb]? = some (.cells (rtArr (.slice none 0 0) (.slice ao i cp) 0) 75 (0, 0)) := (hk8.block wb (lt_of HR.out.1) (by simpa only [Option.mem_toList] using HR.out.2.2.2.2)).trans HR.out.1
      have c8 : w8.cell? ⟨wb, 1, none⟩ = some (.slice ao i cp) := cell_of hb8 rfl
      have f8 : w8.frozen? ⟨wb, 1, none⟩ = false := free_of hb8
      have HX := Lib.hid (And.intro hb8 (And.intro hrow' (And.intro hk8 hblk'))); clear hb8 hrow' hk8 hblk' hgrow hRa hnew
      go_wp2_with fail
      go_roundw
      case rel =>
        obtain ⟨hb, hrow, hk, hown, hap⟩ := HR.out
        obtain ⟨hb8, hrow', hk8, hblk'⟩ := HX.out
        have hset := set_same (i := 1) (v := .slice (some ⟨g5, o5, none⟩) (i + 1) c5) hb8
        have hnb : (Value.slice (some ⟨g5, o5, none⟩) (i + 1) c5).ownBlock ≠ some wb := row_apart_blk hrow' hb8 (by decide)
        refine ⟨i + 1, .slice (some ⟨g5, o5, none⟩) (i + 1) c5, by omega, by go_num, hset, ?_, (hk.trans hk8 (fun j hj => .inr (hown j (by simpa only [Option.mem_toList] using hj)))).trans (Keeps.setCell w8 wb 1 _) (fun j hj => .inr (by simp at hj; subst hj; have := HW.out; omega)), fun q hq => ?_⟩
        · rw [List.replicate_succ']
          exact hrow'.same fun q hq => set_other (fun e => hnb (by rw [hq, ← e]))
        · rcases hblk' with h1 | ⟨g', h1, h2⟩
          · exact hown q (by rw [← h1]; exact hq)
          · rw [h1] at hq; cases hq
            have := hk.size
            have h3 : (wr.alloc (.cells #[.int .i64 (-1)] 3)).heap.size = wr.heap.size + 1 := by simp
            omega
      case measure => simp [intOf]; omega
    · obtain rfl : i = n := by omega
      have HR := Lib.hid (And.intro hb (And.intro hrow (And.intro hk hown))); clear hb hrow hk hown
      go_wp2_with fail
      go_ret
      obtain ⟨hb, hrow, hk, hown⟩ := HR.out
      have hn := HN.out
      subst hn
      exact ⟨wb, hv, rfl, hb, hrow, hk, by have := HW.out; omega, hown⟩
end Go.Proofs.YtdbbbaallalhoaaGreat.si
