import Derived.Test.YtjmamidgbollgaaGreatDoorZsB
import Derived.KernelRfl
set_option linter.all false
set_option linter.unusedVariables false
set_option linter.unusedSimpArgs false
namespace Go.Proofs.Zs
open Go Go.Proofs.Zz
theorem ok2 : okFrom Tryz.prog exB 184 92 = true := by kernel_rfl
end Go.Proofs.Zs
