import Derived.Test.YtjmamidgbollgaaGreatDoorZsTiLaid
import Derived.Test.YtjmamidgbollgaaGreatDoorZsTAa
import Derived.Test.YtjmamidgbollgaaGreatDoorZsTAb
import Derived.Test.YtjmamidgbollgaaGreatDoorZsTAc
import Derived.Test.YtjmamidgbollgaaGreatDoorZsTAd
import Derived.Test.YtjmamidgbollgaaGreatDoorZsTiWords
set_option linter.all false
set_option linter.unusedVariables false
set_option linter.unusedSimpArgs false
namespace Go.Proofs.YtjmamidgbollgaaGreatDoor
open Go
theorem pin_first : Tryz.pinned.checked.prog.pinnedFits "unicode/utf8.first" = true := by kernel_rfl
theorem noOwnUnsafe : Tryz.pinned.checked.prog.headLifts.contains "ownunsafe" = false := by kernel_rfl
theorem fits1 : Tryz.pinned.checked.prog.listedFits [("strconv.ErrSyntax", Rows.laid_strconv_ErrSyntax), ("strconv.ErrRange", Rows.laid_strconv_ErrRange), ("internal/strconv.uint64pow10", Rows.laid_internal_strconv_uint64pow10), ("math/bits.deBruijn32tab", Rows.laid_math_bits_deBruijn32tab), ("math/bits.deBruijn64tab", Rows.laid_math_bits_deBruijn64tab), ("unicode/utf8.first", Rows.laid_unicode_utf8_first), ("unicode/utf8.acceptRanges", Rows.laid_unicode_utf8_acceptRanges), ("strings.asciiSpace", Rows.laid_strings_asciiSpace), ("unicode.White_Space", Rows.laid_unicode_White_Space)] = true := by
  unfold Program.listedFits
  rw [noOwnUnsafe]
  kernel_rfl
theorem tieA9 : ∀ os tape, (DataW.laidRun Tryz.prog (varsWorld Tryz.prog 400 (varsId Tryz.prog) os tape).memory 8 (laidA.map (·.1))).map (fun x => decide x.2.Nodup && laidRowsB Tryz.prog (varsWorld Tryz.prog 400 (varsId Tryz.prog) os tape).memory x.2) = some true := by
  intro os tape
  have h1 := tieA9a os tape
  have h2 := tieA9b os tape
  revert h1 h2
  generalize (DataW.laidRun Tryz.prog (varsWorld Tryz.prog 400 (varsId Tryz.prog) os tape).memory 8 (laidA.map (·.1))) = r
  intro h1 h2
  cases r with
  | none => cases h1
  | some x =>
    simp only [Option.map_some, Option.some.injEq] at h1 h2 ⊢
    rw [h2, Bool.and_true]
    exact decide_eq_true (Zz.ndF_ok _ _ h1).1
theorem tieA : Tryz.prog.laidByTextLater laidA [.sentinel, .sentinel, .data, .data, .data, .data, .data, .listed] true :=
  Program.laidByTextLater_by_run 400 8 tieW1 tieW2 tieW3 tieA4 tieW5 tieA6 tieW7 tieA8 tieA9 tieA10
end Go.Proofs.YtjmamidgbollgaaGreatDoor
