import Derived.Test.YtjmamidgbollgaaGreatDoorRows
import Derived.SevenTiedAt
import Derived.Test.YtjmamidgbollgaaGreatDoorZzGoes
import Derived.Test.YtjmamidgbollgaaGreatDoorZsXgoes
set_option linter.all false
set_option linter.unusedVariables false
set_option linter.unusedSimpArgs false
namespace Go.Proofs.YtjmamidgbollgaaGreatDoor
open Go
theorem looksP : true = Tryz.prog.looks [] := by kernel_rfl
end Go.Proofs.YtjmamidgbollgaaGreatDoor
