import Derived.Test.YtjmamidgbollgaaGreatDoorRows
import Derived.ProofKit
import Derived.OpenShut
import Derived.LaidMore
import Derived.Lay
import Derived.SevenTiedAt
import Derived.Stop.Joined
set_option linter.all false
set_option linter.unusedVariables false
set_option linter.unusedSimpArgs false
namespace Go.Proofs.YtjmamidgbollgaaGreatDoor
open Go
open Go.ChangeShapes Go.WideShapes Go.ChangeAt Go.RowKit
theorem fabricNil_w2 (os : Os) : Input.okWideB Tryz.checked.prog ((World.laidAll Tryz.prog os Rows.fabricNilRow.laid).forCall (fun _ _ => 0) ⟨#[], #[.agg #[.int .u8 0, .int .i64 0, .int .i64 0, .slice none 0 0, .slice none 0 0]], []⟩) 7 ⟨#[], #[.agg #[.int .u8 0, .int .i64 0, .int .i64 0, .slice none 0 0, .slice none 0 0]], []⟩ = true := by kernel_rfl
theorem fabricNil_w3 (os : Os) (H : Type) (enc : TypeId × Value → H) : Rows.fabricNilSpec.preB enc Tryz.checked.prog Tryz.f7 Rows.fabricNilRow.domain false ((World.laidAll Tryz.prog os Rows.fabricNilRow.laid).forCall (fun _ _ => 0) ⟨#[], #[.agg #[.int .u8 0, .int .i64 0, .int .i64 0, .slice none 0 0, .slice none 0 0]], []⟩).memory #[.agg #[.int .u8 0, .int .i64 0, .int .i64 0, .slice none 0 0, .slice none 0 0]] 8 = true := by kernel_rfl
theorem fabricNil_w4 (os : Os) (H : Type) (enc : TypeId × Value → H) : Rows.fabricNilSpec.sizedB enc Tryz.checked.prog Tryz.f7 false ((World.laidAll Tryz.prog os Rows.fabricNilRow.laid).forCall (fun _ _ => 0) ⟨#[], #[.agg #[.int .u8 0, .int .i64 0, .int .i64 0, .slice none 0 0, .slice none 0 0]], []⟩).memory #[.agg #[.int .u8 0, .int .i64 0, .int .i64 0, .slice none 0 0, .slice none 0 0]] 8 = true := by kernel_rfl
end Go.Proofs.YtjmamidgbollgaaGreatDoor
