import Derived.Test.YtjmamidgbollgaaGreatDoorZsTiLaid
set_option linter.all false
set_option linter.unusedVariables false
set_option linter.unusedSimpArgs false
namespace Go.Proofs.YtjmamidgbollgaaGreatDoor
open Go
theorem tieA4 : laidA.map (fun x => Tryz.prog.kindOfLater x.1) = ([.sentinel, .sentinel, .data, .data, .data, .data, .data, .listed] : List LaidKind).map some := by kernel_rfl
theorem tieA6 : varsNamedLaterB Tryz.prog (varsId Tryz.prog) laidA = true := by kernel_rfl
theorem tieA10 : (laidA.all fun x => x.2.handleName?.isNone) = true := by kernel_rfl
end Go.Proofs.YtjmamidgbollgaaGreatDoor
