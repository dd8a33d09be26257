import Derived.Test.YtjmamidgbollgaaGreatDoorZsQcellNilip
import Derived.Test.YtjmamidgbollgaaGreatDoorZsQcellNilun
import Derived.Test.YtjmamidgbollgaaGreatDoorZsQcellNilnm
import Derived.Test.YtjmamidgbollgaaGreatDoorZsJ
import Derived.Test.YtjmamidgbollgaaGreatDoorRows
import Derived.JoinedOf
set_option linter.all false
set_option linter.unusedVariables false
set_option linter.unusedSimpArgs false
namespace Go.Proofs.YtjmamidgbollgaaGreatDoor
open Go
theorem cellNil_pl : (Rows.cellNilRow.plainKeys == Tryz.prog.plainKeys) = true := by
  rw [jKeys]
  rfl
theorem cellNil_and2 {a b : Bool} (h1 : a = true) (h2 : b = true) : (a && b) = true := by
  rw [h1, h2]
  rfl
theorem cellNil_facts : joinedFacts Tryz.prog 3 Tryz.f3 Rows.cellNilSpec Rows.cellNilRow = true := by
  unfold joinedFacts
  refine cellNil_and2 ?_ (by kernel_rfl)
  refine cellNil_and2 ?_ (by kernel_rfl)
  refine cellNil_and2 ?_ (by kernel_rfl)
  refine cellNil_and2 ?_ (by kernel_rfl)
  refine cellNil_and2 ?_ (by kernel_rfl)
  refine cellNil_and2 ?_ (by kernel_rfl)
  refine cellNil_and2 ?_ jEnter
  refine cellNil_and2 ?_ jHeard
  refine cellNil_and2 ?_ (by kernel_rfl)
  refine cellNil_and2 ?_ cellNil_pl
  refine cellNil_and2 ?_ (by kernel_rfl)
  refine cellNil_and2 ?_ (by kernel_rfl)
  refine cellNil_and2 ?_ (by kernel_rfl)
  refine cellNil_and2 ?_ (by kernel_rfl)
  refine cellNil_and2 ?_ (by kernel_rfl)
  refine cellNil_and2 ?_ (by kernel_rfl)
  refine cellNil_and2 ?_ (by kernel_rfl)
  refine cellNil_and2 ?_ (by kernel_rfl)
  refine cellNil_and2 ?_ (by kernel_rfl)
  refine cellNil_and2 ?_ cellNil_nm
  refine cellNil_and2 ?_ cellNil_rc
  refine cellNil_and2 ?_ cellNil_un
  refine cellNil_and2 ?_ cellNil_ip
  refine cellNil_and2 ?_ jKnobs
  refine cellNil_and2 ?_ (by kernel_rfl)
  refine cellNil_and2 ?_ jStops
  refine cellNil_and2 ?_ (by kernel_rfl)
  refine cellNil_and2 ?_ (by kernel_rfl)
  refine cellNil_and2 ?_ (by kernel_rfl)
  refine cellNil_and2 ?_ jMaps
  refine cellNil_and2 ?_ laidOutP
  kernel_rfl
end Go.Proofs.YtjmamidgbollgaaGreatDoor
