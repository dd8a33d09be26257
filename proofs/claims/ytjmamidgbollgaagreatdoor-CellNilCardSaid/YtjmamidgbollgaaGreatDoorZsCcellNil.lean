/-
  WHAT IS PROVED: for every op, tocsinlaw28.CellNil returns true and leaves its argument as it was; the listed package variables read as the program's text lays them (the tied card). CONDITIONS: those that the given row and card print, no other.
-/
import Derived.Test.YtjmamidgbollgaaGreatDoorZsXcellNila
import Derived.Test.YtjmamidgbollgaaGreatDoorZsXlooks
import Derived.Test.YtjmamidgbollgaaGreatDoorZsLcellNil
import Derived.Test.YtjmamidgbollgaaGreatDoorZsRcellNil
import Derived.Test.YtjmamidgbollgaaGreatDoorCards
import Derived.SevenTiedAt
set_option linter.all false
set_option linter.unusedVariables false
set_option linter.unusedSimpArgs false
namespace Go.Proofs.YtjmamidgbollgaaGreatDoor
open Go Go.Proofs.Zz Go.Proofs.Zs
open Go.ChangeShapes Go.WideShapes Go.ChangeAt Go.RowKit
theorem cellNil_card_holds : Rows.CellNilCardSaid :=
  Claim7.holds_tied_plain_at .later [] [.sentinel, .sentinel, .data, .data, .data, .pinned, .data, .data, .listed] true (true, "1884e8791762ac40c827927e7c6e9b486820e74e9a0354526c37b6879cc5abd4") true
    cellNil_holds (fun _ h => by cases h) cellNil_x1 (fun _ h => by cases h) cellNil_row_tie rfl ⟨rfl, rfl⟩ cellNil_x2 rfl
    (fun f fn hf hfn => by
      obtain rfl : f = 3 := Option.some.inj (cellNil_x6.symm.trans hf) |>.symm
      obtain rfl : fn = Tryz.f3 := (Option.some.inj (Tryz.func3.symm.trans hfn)).symm
      exact ⟨looksP, fun j t ht => by
        rw [Tryz.params3] at ht
        have hm : t ∈ [25] := by simpa using Array.mem_of_getElem? ht
        exact (show Tryz.prog.wantsStandIn t = false by simpa using List.all_eq_true.1 cellNil_x4 t hm)⟩)
    cellNil_x5
#print axioms cellNil_card_holds
end Go.Proofs.YtjmamidgbollgaaGreatDoor
