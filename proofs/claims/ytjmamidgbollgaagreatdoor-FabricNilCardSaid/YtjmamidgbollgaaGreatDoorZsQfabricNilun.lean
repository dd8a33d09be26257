import Derived.Test.YtjmamidgbollgaaGreatDoorZsQfabricNilc
import Derived.Test.YtjmamidgbollgaaGreatDoorRows
import Derived.JoinedOf
set_option linter.all false
set_option linter.unusedVariables false
set_option linter.unusedSimpArgs false
namespace Go.Proofs.YtjmamidgbollgaaGreatDoor
open Go
theorem fabricNil_un : (Rows.fabricNilRow.unfollowed == Tryz.prog.unfollowed 7) = true := by
  unfold Program.unfollowed
  rw [fabricNil_cl]
  kernel_rfl
theorem fabricNil_rc : (Rows.fabricNilRow.recurses == Tryz.prog.recurses 7) = true := by
  have h : Tryz.prog.unfollowed 7 = true := (beq_iff_eq.1 fabricNil_un).symm
  unfold Program.recurses
  rw [h]
  rfl
end Go.Proofs.YtjmamidgbollgaaGreatDoor
