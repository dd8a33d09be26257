import Derived.Test.YtjmamidgbollgaaGreatDoorRows
import Derived.SevenTiedAt
import Derived.Test.YtjmamidgbollgaaGreatDoorZzGoes
import Derived.Test.YtjmamidgbollgaaGreatDoorZsXgoes
set_option linter.all false
set_option linter.unusedVariables false
set_option linter.unusedSimpArgs false
namespace Go.Proofs.YtjmamidgbollgaaGreatDoor
open Go
theorem cellNil_x1 : Rows.cellNilRow.wfByText (OpenSpec.ofChange Rows.cellNilSpec) = true := by kernel_rfl
theorem cellNil_x2 : Tryz.pinned.checked.prog.mainIs = some (true, ("1884e8791762ac40c827927e7c6e9b486820e74e9a0354526c37b6879cc5abd4" : String).toList) := by kernel_rfl
theorem cellNil_x4 : ([25].all fun u => !Tryz.prog.wantsStandIn u) = true := by kernel_rfl
theorem cellNil_x6 : Tryz.prog.funcNamed "tocsin/tocsinlaw28.CellNil" = some 3 := by kernel_rfl
theorem cellNil_x5 : false = Rows.cellNilRow.goesBy Tryz.pinned.checked.prog := Zz.goesBy_none goesP rfl
end Go.Proofs.YtjmamidgbollgaaGreatDoor
