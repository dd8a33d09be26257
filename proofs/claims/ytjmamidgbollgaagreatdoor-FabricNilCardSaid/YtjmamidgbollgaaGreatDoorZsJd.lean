import Derived.Test.YtjmamidgbollgaaGreatDoorProg
import Derived.JoinedOf
import Derived.KernelRfl
set_option linter.all false
set_option linter.unusedVariables false
set_option linter.unusedSimpArgs false
namespace Go.Proofs.YtjmamidgbollgaaGreatDoor
open Go
theorem jStops : (Tryz.prog.stops == []) = true := by kernel_rfl
theorem jKnobs : (Tryz.prog.stopKnobs == []) = true := by kernel_rfl
theorem jHeard : Tryz.prog.stopsHeard = true := by kernel_rfl
end Go.Proofs.YtjmamidgbollgaaGreatDoor
