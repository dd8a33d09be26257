import Derived.Test.YtjmamidgbollgaaGreatDoorZsB
import Derived.KernelRfl
set_option linter.all false
set_option linter.unusedVariables false
set_option linter.unusedSimpArgs false
namespace Go.Proofs.Zs
open Go Go.Proofs.Zz
theorem ZsCell0 : isB true (callBody Tryz.prog (B2 13 (orcB 0) orlB) (ev Tryz.prog (B2 13 (orcB 0) orlB) 10000) 3 [.agg [.sym 0, .sym 1, .sym 2, .sym 4, .sym 5, .sym 9]] .lf 0) = true := by kernel_rfl
theorem ZsCell1 : isB true (callBody Tryz.prog (B2 13 (orcB 1) orlB) (ev Tryz.prog (B2 13 (orcB 1) orlB) 10000) 3 [.agg [.sym 0, .sym 1, .sym 2, .sym 4, .sym 5, .sym 9]] .lf 0) = true := by kernel_rfl
end Go.Proofs.Zs
