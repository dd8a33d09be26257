import Derived.Test.YtjmamidgbollgaaGreatDoorRows
import Derived.SevenTiedAt
import Derived.Test.YtjmamidgbollgaaGreatDoorZzGoes
import Derived.Test.YtjmamidgbollgaaGreatDoorZsXgoes
set_option linter.all false
set_option linter.unusedVariables false
set_option linter.unusedSimpArgs false
namespace Go.Proofs.YtjmamidgbollgaaGreatDoor
open Go
theorem fabricNil_x1 : Rows.fabricNilRow.wfByText (OpenSpec.ofChange Rows.fabricNilSpec) = true := by kernel_rfl
theorem fabricNil_x2 : Tryz.pinned.checked.prog.mainIs = some (true, ("1884e8791762ac40c827927e7c6e9b486820e74e9a0354526c37b6879cc5abd4" : String).toList) := by kernel_rfl
theorem fabricNil_x4 : ([85].all fun u => !Tryz.prog.wantsStandIn u) = true := by kernel_rfl
theorem fabricNil_x6 : Tryz.prog.funcNamed "tocsin/tocsinlaw31.FabricNil" = some 7 := by kernel_rfl
theorem fabricNil_x5 : false = Rows.fabricNilRow.goesBy Tryz.pinned.checked.prog := Zz.goesBy_none goesP rfl
end Go.Proofs.YtjmamidgbollgaaGreatDoor
