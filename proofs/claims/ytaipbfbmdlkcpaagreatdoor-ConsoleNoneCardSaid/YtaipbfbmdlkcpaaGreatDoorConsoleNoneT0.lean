/-
  DEFINED HERE: the variables of ConsoleNone's row, as the tie speaks of them. Conditions: none.
-/
import Derived.Test.YtaipbfbmdlkcpaaGreatDoorRows
import Derived.LaidByTextLater
import Derived.SevenTiedAt
namespace Go.Proofs.YtaipbfbmdlkcpaaGreatDoor.consoleNone
open Go
abbrev tieL : List (String × DataW Unit) := [("internal/strconv.uint64pow10", Rows.laid_internal_strconv_uint64pow10), ("math/bits.deBruijn32tab", Rows.laid_math_bits_deBruijn32tab), ("math/bits.deBruijn64tab", Rows.laid_math_bits_deBruijn64tab), ("unicode/utf8.acceptRanges", Rows.laid_unicode_utf8_acceptRanges), ("strconv.ErrSyntax", Rows.laid_strconv_ErrSyntax), ("strconv.ErrRange", Rows.laid_strconv_ErrRange), ("strings.asciiSpace", Rows.laid_strings_asciiSpace), ("unicode.White_Space", Rows.laid_unicode_White_Space)]
abbrev tieKinds : List LaidKind := [.data, .data, .data, .data, .sentinel, .sentinel, .data, .listed]
end Go.Proofs.YtaipbfbmdlkcpaaGreatDoor.consoleNone
