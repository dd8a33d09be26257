import Derived.Test.YtjmamidgbollgaaGreatDoorZsJa
import Derived.Test.YtjmamidgbollgaaGreatDoorZsJb
import Derived.Test.YtjmamidgbollgaaGreatDoorZsJc
import Derived.Test.YtjmamidgbollgaaGreatDoorZsJd
import Derived.Test.YtjmamidgbollgaaGreatDoorZsJe
set_option linter.all false
set_option linter.unusedVariables false
set_option linter.unusedSimpArgs false
namespace Go.Proofs.YtjmamidgbollgaaGreatDoor
open Go
theorem laidOutP : laidOutB Tryz.prog = true := by
  unfold laidOutB
  rw [lo1, lo2, lo3]
  rfl
end Go.Proofs.YtjmamidgbollgaaGreatDoor
