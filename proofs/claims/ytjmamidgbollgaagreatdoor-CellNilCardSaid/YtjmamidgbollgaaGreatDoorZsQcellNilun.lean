import Derived.Test.YtjmamidgbollgaaGreatDoorZsQcellNilc
import Derived.Test.YtjmamidgbollgaaGreatDoorRows
import Derived.JoinedOf
set_option linter.all false
set_option linter.unusedVariables false
set_option linter.unusedSimpArgs false
namespace Go.Proofs.YtjmamidgbollgaaGreatDoor
open Go
theorem cellNil_un : (Rows.cellNilRow.unfollowed == Tryz.prog.unfollowed 3) = true := by
  unfold Program.unfollowed
  rw [cellNil_cl]
  kernel_rfl
theorem cellNil_rc : (Rows.cellNilRow.recurses == Tryz.prog.recurses 3) = true := by
  have h : Tryz.prog.unfollowed 3 = true := (beq_iff_eq.1 cellNil_un).symm
  unfold Program.recurses
  rw [h]
  rfl
end Go.Proofs.YtjmamidgbollgaaGreatDoor
