import Derived.Test.YtjmamidgbollgaaGreatDoorZsTiLaid
import Derived.Test.YtjmamidgbollgaaGreatDoorZzNd
set_option linter.all false
set_option linter.unusedVariables false
set_option linter.unusedSimpArgs false
namespace Go.Proofs.YtjmamidgbollgaaGreatDoor
open Go
theorem tieA9a : ∀ os tape, (DataW.laidRun Tryz.prog (varsWorld Tryz.prog 400 (varsId Tryz.prog) os tape).memory 8 (laidA.map (·.1))).map (fun x => Zz.ndF x.2 .lf) = some true := fun _ _ => by kernel_rfl
end Go.Proofs.YtjmamidgbollgaaGreatDoor
