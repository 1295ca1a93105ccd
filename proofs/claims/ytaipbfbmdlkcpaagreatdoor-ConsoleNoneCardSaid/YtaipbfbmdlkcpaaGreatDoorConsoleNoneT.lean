/-
  PROVED HERE: the listed variables of ConsoleNone are laid as the program's text lays them (as the given tie says it; here fact by fact: in one piece it wants too much memory). Conditions: none.
-/
import Derived.Test.YtaipbfbmdlkcpaaGreatDoorConsoleNoneT1
import Derived.Test.YtaipbfbmdlkcpaaGreatDoorConsoleNoneT2
import Derived.Test.YtaipbfbmdlkcpaaGreatDoorConsoleNoneT3
import Derived.Test.YtaipbfbmdlkcpaaGreatDoorConsoleNoneT4
namespace Go.Proofs.YtaipbfbmdlkcpaaGreatDoor.consoleNone
open Go
set_option maxRecDepth 1000000 in
theorem tieW : Tryz.prog.worded (varsWordLater true) = true := by kernel_rfl
set_option maxRecDepth 1000000 in
theorem tieW2 : Tryz.prog.worded (varsWordLater !true) = false := by kernel_rfl
set_option maxRecDepth 1000000 in
theorem tieRoot : Tryz.prog.worded rootWordLater = true := by kernel_rfl
set_option maxRecDepth 1000000 in
theorem tieK : tieL.map (fun x => Tryz.prog.kindOfLater x.1) = tieKinds.map some := by kernel_rfl
set_option maxRecDepth 1000000 in
theorem tieG : (Tryz.prog.funcNamed "gosem.cut.vars").isSome = true := by kernel_rfl
set_option maxRecDepth 1000000 in
theorem tieN : varsNamedLaterB Tryz.prog (varsId Tryz.prog) tieL = true := by kernel_rfl
theorem tie2 : ∀ os tape, (DataW.laidRun Tryz.prog (varsWorld Tryz.prog 400 (varsId Tryz.prog) os tape).memory 8 (tieL.map (·.1))).map (fun x => decide x.2.Nodup && laidRowsB Tryz.prog (varsWorld Tryz.prog 400 (varsId Tryz.prog) os tape).memory x.2) = some true := fun os tape => by
  have a := tie2a os tape
  have b := tie2b os tape
  obtain ⟨x, hx, ha⟩ := Option.map_eq_some_iff.1 a
  obtain ⟨y, hy, hb⟩ := Option.map_eq_some_iff.1 b
  have e : x = y := Option.some.inj (hx.symm.trans hy)
  subst e
  refine Option.map_eq_some_iff.2 ⟨x, hx, ?_⟩
  rw [ha, Bool.and_true]
  exact decide_eq_true (distinctF_nodup _ _ hb).1
theorem tie : Tryz.prog.laidByTextLater tieL tieKinds true :=
  Program.laidByTextLater_by_run 400 8 tieW tieW2 tieRoot tieK tieG tieN tieD tie1 tie2
theorem pinFirst : Tryz.pinned.checked.prog.pinnedFits "unicode/utf8.first" = true := by kernel_rfl
theorem noOwnUnsafe : Tryz.pinned.checked.prog.headLifts.contains "ownunsafe" = false := by kernel_rfl
set_option maxRecDepth 1000000 in
theorem fits1 : Tryz.pinned.checked.prog.listedFits [("internal/strconv.uint64pow10", Rows.laid_internal_strconv_uint64pow10), ("math/bits.deBruijn32tab", Rows.laid_math_bits_deBruijn32tab), ("math/bits.deBruijn64tab", Rows.laid_math_bits_deBruijn64tab), ("unicode/utf8.first", Rows.laid_unicode_utf8_first), ("unicode/utf8.acceptRanges", Rows.laid_unicode_utf8_acceptRanges), ("strconv.ErrSyntax", Rows.laid_strconv_ErrSyntax), ("strconv.ErrRange", Rows.laid_strconv_ErrRange), ("strings.asciiSpace", Rows.laid_strings_asciiSpace), ("unicode.White_Space", Rows.laid_unicode_White_Space)] = true := by
  unfold Program.listedFits
  rw [noOwnUnsafe]
  kernel_rfl
theorem row_tie : Rows.consoleNoneRow.laidByTextAt .later Tryz.pinned [.data, .data, .data, .pinned, .data, .sentinel, .sentinel, .data, .listed] true :=
  OpenClaim.laidByTextAt_pinned rfl rfl tie rfl rfl rfl rfl (fun y hy _e => by
    simp only [Rows.consoleNoneRow, List.zip_cons_cons, List.zip_nil_right, List.mem_cons, List.mem_nil_iff, or_false] at hy
    rcases hy with rfl | rfl | rfl | rfl | rfl | rfl | rfl | rfl | rfl
    · cases _e
    · cases _e
    · cases _e
    · exact ⟨pinFirst, by kernel_rfl⟩
    · cases _e
    · cases _e
    · cases _e
    · cases _e
    · cases _e) fits1
end Go.Proofs.YtaipbfbmdlkcpaaGreatDoor.consoleNone
