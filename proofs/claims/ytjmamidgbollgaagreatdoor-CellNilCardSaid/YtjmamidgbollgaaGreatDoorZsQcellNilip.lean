import Derived.Test.YtjmamidgbollgaaGreatDoorZsQcellNilc
import Derived.Test.YtjmamidgbollgaaGreatDoorRows
import Derived.JoinedOf
set_option linter.all false
set_option linter.unusedVariables false
set_option linter.unusedSimpArgs false
namespace Go.Proofs.YtjmamidgbollgaaGreatDoor
open Go
theorem cellNil_ip : (Rows.cellNilRow.inPlace == Tryz.prog.inPlace 3) = true := by
  unfold Program.inPlace
  rw [cellNil_cl]
  kernel_rfl
end Go.Proofs.YtjmamidgbollgaaGreatDoor
