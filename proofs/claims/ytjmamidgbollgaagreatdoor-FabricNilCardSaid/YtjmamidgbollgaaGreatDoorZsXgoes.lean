import Derived.Test.YtjmamidgbollgaaGreatDoorProg
import GoSem.ClaimGoes
import Derived.KernelRfl
set_option linter.all false
set_option linter.unusedVariables false
set_option linter.unusedSimpArgs false
namespace Go.Proofs.YtjmamidgbollgaaGreatDoor
open Go
theorem goesP : Tryz.prog.funcs.any Func.goes = false := by kernel_rfl
end Go.Proofs.YtjmamidgbollgaaGreatDoor
