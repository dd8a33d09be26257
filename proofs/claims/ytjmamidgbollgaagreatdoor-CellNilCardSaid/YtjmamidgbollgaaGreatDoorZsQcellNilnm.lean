import Derived.Test.YtjmamidgbollgaaGreatDoorZsQcellNilc
import Derived.Test.YtjmamidgbollgaaGreatDoorRows
import Derived.JoinedOf
set_option linter.all false
set_option linter.unusedVariables false
set_option linter.unusedSimpArgs false
namespace Go.Proofs.YtjmamidgbollgaaGreatDoor
open Go
theorem cellNil_nm : (Rows.cellNilRow.named == Tryz.prog.varsNamed 3) = true := by
  unfold Program.varsNamed
  rw [cellNil_cl]
  kernel_rfl
end Go.Proofs.YtjmamidgbollgaaGreatDoor
