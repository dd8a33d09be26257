import Derived.Test.YtjmamidgbollgaaGreatDoorProg
import Derived.JoinedOf
import Derived.KernelRfl
set_option linter.all false
set_option linter.unusedVariables false
set_option linter.unusedSimpArgs false
namespace Go.Proofs.YtjmamidgbollgaaGreatDoor
open Go
theorem jMaps : mapsRowed Tryz.prog = true := by kernel_rfl
theorem jKeys : Tryz.prog.plainKeys = true := by kernel_rfl
end Go.Proofs.YtjmamidgbollgaaGreatDoor
