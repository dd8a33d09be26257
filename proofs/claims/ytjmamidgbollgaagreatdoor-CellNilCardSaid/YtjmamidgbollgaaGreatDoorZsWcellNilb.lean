import Derived.Test.YtjmamidgbollgaaGreatDoorRows
import Derived.ProofKit
import Derived.OpenShut
import Derived.LaidMore
import Derived.Lay
import Derived.SevenTiedAt
import Derived.Stop.Joined
set_option linter.all false
set_option linter.unusedVariables false
set_option linter.unusedSimpArgs false
namespace Go.Proofs.YtjmamidgbollgaaGreatDoor
open Go
open Go.ChangeShapes Go.WideShapes Go.ChangeAt Go.RowKit
theorem cellNil_w2 (os : Os) : Input.okWideB Tryz.checked.prog ((World.laidAll Tryz.prog os Rows.cellNilRow.laid).forCall (fun _ _ => 0) ⟨#[], #[.agg #[.int .u8 0, .int .i64 0, .slice none 0 0, .int .i64 0, .int .u32 0, .int .i64 0]], []⟩) 3 ⟨#[], #[.agg #[.int .u8 0, .int .i64 0, .slice none 0 0, .int .i64 0, .int .u32 0, .int .i64 0]], []⟩ = true := by kernel_rfl
theorem cellNil_w3 (os : Os) (H : Type) (enc : TypeId × Value → H) : Rows.cellNilSpec.preB enc Tryz.checked.prog Tryz.f3 Rows.cellNilRow.domain false ((World.laidAll Tryz.prog os Rows.cellNilRow.laid).forCall (fun _ _ => 0) ⟨#[], #[.agg #[.int .u8 0, .int .i64 0, .slice none 0 0, .int .i64 0, .int .u32 0, .int .i64 0]], []⟩).memory #[.agg #[.int .u8 0, .int .i64 0, .slice none 0 0, .int .i64 0, .int .u32 0, .int .i64 0]] 8 = true := by kernel_rfl
theorem cellNil_w4 (os : Os) (H : Type) (enc : TypeId × Value → H) : Rows.cellNilSpec.sizedB enc Tryz.checked.prog Tryz.f3 false ((World.laidAll Tryz.prog os Rows.cellNilRow.laid).forCall (fun _ _ => 0) ⟨#[], #[.agg #[.int .u8 0, .int .i64 0, .slice none 0 0, .int .i64 0, .int .u32 0, .int .i64 0]], []⟩).memory #[.agg #[.int .u8 0, .int .i64 0, .slice none 0 0, .int .i64 0, .int .u32 0, .int .i64 0]] 8 = true := by kernel_rfl
end Go.Proofs.YtjmamidgbollgaaGreatDoor
