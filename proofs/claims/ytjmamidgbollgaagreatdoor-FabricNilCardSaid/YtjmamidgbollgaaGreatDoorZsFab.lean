import Derived.Test.YtjmamidgbollgaaGreatDoorZsB
import Derived.KernelRfl
set_option linter.all false
set_option linter.unusedVariables false
set_option linter.unusedSimpArgs false
namespace Go.Proofs.Zs
open Go Go.Proofs.Zz
theorem ZsFab0 : isB true (callBody Tryz.prog (B2 37 (orcB 0) orlB) (ev Tryz.prog (B2 37 (orcB 0) orlB) 10000) 7 [.agg [.sym 0, .sym 1, .sym 5, .sym 2, .sym 3]] .lf 0) = true := by kernel_rfl
theorem ZsFab1 : isB true (callBody Tryz.prog (B2 37 (orcB 1) orlB) (ev Tryz.prog (B2 37 (orcB 1) orlB) 10000) 7 [.agg [.sym 0, .sym 1, .sym 5, .sym 2, .sym 3]] .lf 0) = true := by kernel_rfl
theorem ZsFab2 : isB true (callBody Tryz.prog (B2 37 (orcB 2) orlB) (ev Tryz.prog (B2 37 (orcB 2) orlB) 10000) 7 [.agg [.sym 0, .sym 1, .sym 5, .sym 2, .sym 3]] .lf 0) = true := by kernel_rfl
theorem ZsFab3 : isB true (callBody Tryz.prog (B2 37 (orcB 3) orlB) (ev Tryz.prog (B2 37 (orcB 3) orlB) 10000) 7 [.agg [.sym 0, .sym 1, .sym 5, .sym 2, .sym 3]] .lf 0) = true := by kernel_rfl
end Go.Proofs.Zs
