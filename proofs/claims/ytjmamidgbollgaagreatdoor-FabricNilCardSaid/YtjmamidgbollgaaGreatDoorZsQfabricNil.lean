import Derived.Test.YtjmamidgbollgaaGreatDoorZsQfabricNilip
import Derived.Test.YtjmamidgbollgaaGreatDoorZsQfabricNilun
import Derived.Test.YtjmamidgbollgaaGreatDoorZsQfabricNilnm
import Derived.Test.YtjmamidgbollgaaGreatDoorZsJ
import Derived.Test.YtjmamidgbollgaaGreatDoorRows
import Derived.JoinedOf
set_option linter.all false
set_option linter.unusedVariables false
set_option linter.unusedSimpArgs false
namespace Go.Proofs.YtjmamidgbollgaaGreatDoor
open Go
theorem fabricNil_pl : (Rows.fabricNilRow.plainKeys == Tryz.prog.plainKeys) = true := by
  rw [jKeys]
  rfl
theorem fabricNil_and2 {a b : Bool} (h1 : a = true) (h2 : b = true) : (a && b) = true := by
  rw [h1, h2]
  rfl
theorem fabricNil_facts : joinedFacts Tryz.prog 7 Tryz.f7 Rows.fabricNilSpec Rows.fabricNilRow = true := by
  unfold joinedFacts
  refine fabricNil_and2 ?_ (by kernel_rfl)
  refine fabricNil_and2 ?_ (by kernel_rfl)
  refine fabricNil_and2 ?_ (by kernel_rfl)
  refine fabricNil_and2 ?_ (by kernel_rfl)
  refine fabricNil_and2 ?_ (by kernel_rfl)
  refine fabricNil_and2 ?_ (by kernel_rfl)
  refine fabricNil_and2 ?_ jEnter
  refine fabricNil_and2 ?_ jHeard
  refine fabricNil_and2 ?_ (by kernel_rfl)
  refine fabricNil_and2 ?_ fabricNil_pl
  refine fabricNil_and2 ?_ (by kernel_rfl)
  refine fabricNil_and2 ?_ (by kernel_rfl)
  refine fabricNil_and2 ?_ (by kernel_rfl)
  refine fabricNil_and2 ?_ (by kernel_rfl)
  refine fabricNil_and2 ?_ (by kernel_rfl)
  refine fabricNil_and2 ?_ (by kernel_rfl)
  refine fabricNil_and2 ?_ (by kernel_rfl)
  refine fabricNil_and2 ?_ (by kernel_rfl)
  refine fabricNil_and2 ?_ (by kernel_rfl)
  refine fabricNil_and2 ?_ fabricNil_nm
  refine fabricNil_and2 ?_ fabricNil_rc
  refine fabricNil_and2 ?_ fabricNil_un
  refine fabricNil_and2 ?_ fabricNil_ip
  refine fabricNil_and2 ?_ jKnobs
  refine fabricNil_and2 ?_ (by kernel_rfl)
  refine fabricNil_and2 ?_ jStops
  refine fabricNil_and2 ?_ (by kernel_rfl)
  refine fabricNil_and2 ?_ (by kernel_rfl)
  refine fabricNil_and2 ?_ (by kernel_rfl)
  refine fabricNil_and2 ?_ jMaps
  refine fabricNil_and2 ?_ laidOutP
  kernel_rfl
end Go.Proofs.YtjmamidgbollgaaGreatDoor
