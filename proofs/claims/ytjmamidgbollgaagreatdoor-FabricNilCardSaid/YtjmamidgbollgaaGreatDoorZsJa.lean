import Derived.Test.YtjmamidgbollgaaGreatDoorProg
import Derived.JoinedOf
import Derived.KernelRfl
set_option linter.all false
set_option linter.unusedVariables false
set_option linter.unusedSimpArgs false
namespace Go.Proofs.YtjmamidgbollgaaGreatDoor
open Go
theorem lo1 : ((List.range Tryz.prog.types.size).all (rowFine Tryz.prog)) = true := by kernel_rfl
end Go.Proofs.YtjmamidgbollgaaGreatDoor
