import Derived.Test.YtjmamidgbollgaaGreatDoorProg
import Derived.JoinedOf
import Derived.KernelRfl
set_option linter.all false
set_option linter.unusedVariables false
set_option linter.unusedSimpArgs false
namespace Go.Proofs.YtjmamidgbollgaaGreatDoor
open Go
theorem jEnter : Tryz.prog.mayEnter = true := by kernel_rfl
end Go.Proofs.YtjmamidgbollgaaGreatDoor
