/-
  WHAT IS PROVED: for every event, tocsinlaw31.FabricNil returns true and leaves its argument as it was; the listed package variables read as the program's text lays them (the tied card). CONDITIONS: those that the given row and card print, no other.
-/
import Derived.Test.YtjmamidgbollgaaGreatDoorZsXfabricNila
import Derived.Test.YtjmamidgbollgaaGreatDoorZsXlooks
import Derived.Test.YtjmamidgbollgaaGreatDoorZsLfabricNil
import Derived.Test.YtjmamidgbollgaaGreatDoorZsRfabricNil
import Derived.Test.YtjmamidgbollgaaGreatDoorCards
import Derived.SevenTiedAt
set_option linter.all false
set_option linter.unusedVariables false
set_option linter.unusedSimpArgs false
namespace Go.Proofs.YtjmamidgbollgaaGreatDoor
open Go Go.Proofs.Zz Go.Proofs.Zs
open Go.ChangeShapes Go.WideShapes Go.ChangeAt Go.RowKit
theorem fabricNil_card_holds : Rows.FabricNilCardSaid :=
  Claim7.holds_tied_plain_at .later [] [.sentinel, .sentinel, .data, .data, .data, .pinned, .data, .data, .listed] true (true, "1884e8791762ac40c827927e7c6e9b486820e74e9a0354526c37b6879cc5abd4") true
    fabricNil_holds (fun _ h => by cases h) fabricNil_x1 (fun _ h => by cases h) fabricNil_row_tie rfl ⟨rfl, rfl⟩ fabricNil_x2 rfl
    (fun f fn hf hfn => by
      obtain rfl : f = 7 := Option.some.inj (fabricNil_x6.symm.trans hf) |>.symm
      obtain rfl : fn = Tryz.f7 := (Option.some.inj (Tryz.func7.symm.trans hfn)).symm
      exact ⟨looksP, fun j t ht => by
        rw [Tryz.params7] at ht
        have hm : t ∈ [85] := by simpa using Array.mem_of_getElem? ht
        exact (show Tryz.prog.wantsStandIn t = false by simpa using List.all_eq_true.1 fabricNil_x4 t hm)⟩)
    fabricNil_x5
#print axioms fabricNil_card_holds
end Go.Proofs.YtjmamidgbollgaaGreatDoor
