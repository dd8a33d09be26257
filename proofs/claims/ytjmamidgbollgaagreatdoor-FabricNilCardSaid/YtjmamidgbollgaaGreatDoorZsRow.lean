import Derived.Test.YtjmamidgbollgaaGreatDoorZsB
import Derived.KernelRfl
set_option linter.all false
set_option linter.unusedVariables false
set_option linter.unusedSimpArgs false
namespace Go.Proofs.Zs
open Go Go.Proofs.Zz
theorem row_runs : isTab tab 647 (callBody Tryz.prog B0 (ev Tryz.prog B0 1000) 477 [] .lf 0) = true := by kernel_rfl
theorem tab_ints : intsB tab = true := by kernel_rfl
end Go.Proofs.Zs
