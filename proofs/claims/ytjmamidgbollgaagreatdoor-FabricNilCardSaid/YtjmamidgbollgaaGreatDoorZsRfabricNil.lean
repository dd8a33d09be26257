import Derived.Test.YtjmamidgbollgaaGreatDoorZsTA
set_option linter.all false
set_option linter.unusedVariables false
set_option linter.unusedSimpArgs false
namespace Go.Proofs.YtjmamidgbollgaaGreatDoor
open Go
theorem fabricNil_row_tie : Rows.fabricNilRow.laidByTextAt .later Tryz.pinned [.sentinel, .sentinel, .data, .data, .data, .pinned, .data, .data, .listed] true :=
  OpenClaim.laidByTextAt_pinned rfl rfl tieA rfl rfl rfl rfl (fun y hy _e => by
    simp only [Rows.fabricNilRow, List.zip_cons_cons, List.zip_nil_right, List.mem_cons, List.mem_nil_iff, or_false] at hy
    rcases hy with rfl | rfl | rfl | rfl | rfl | rfl | rfl | rfl | rfl
    · cases _e
    · cases _e
    · cases _e
    · cases _e
    · cases _e
    · exact ⟨pin_first, by kernel_rfl⟩
    · cases _e
    · cases _e
    · cases _e) fits1
end Go.Proofs.YtjmamidgbollgaaGreatDoor
