import Derived.Test.YtjmamidgbollgaaGreatDoorZsQfabricNilc
import Derived.Test.YtjmamidgbollgaaGreatDoorRows
import Derived.JoinedOf
set_option linter.all false
set_option linter.unusedVariables false
set_option linter.unusedSimpArgs false
namespace Go.Proofs.YtjmamidgbollgaaGreatDoor
open Go
theorem fabricNil_nm : (Rows.fabricNilRow.named == Tryz.prog.varsNamed 7) = true := by
  unfold Program.varsNamed
  rw [fabricNil_cl]
  kernel_rfl
end Go.Proofs.YtjmamidgbollgaaGreatDoor
