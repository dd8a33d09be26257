import Derived.Test.YtjmamidgbollgaaGreatDoorZsB
import Derived.KernelRfl
set_option linter.all false
set_option linter.unusedVariables false
set_option linter.unusedSimpArgs false
namespace Go.Proofs.Zs
open Go Go.Proofs.Zz
theorem awake31 : isB true (callBody Tryz.prog B1 (ev Tryz.prog B1 100000) 37 [] .lf 0) = true := by kernel_rfl
end Go.Proofs.Zs
