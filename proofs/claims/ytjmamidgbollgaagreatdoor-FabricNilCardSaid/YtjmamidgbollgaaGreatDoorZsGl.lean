import Derived.Test.YtjmamidgbollgaaGreatDoorRows
import Derived.Test.YtjmamidgbollgaaGreatDoorZsB
import Derived.Test.YtjmamidgbollgaaGreatDoorZzFs
set_option linter.all false
set_option linter.unusedVariables false
set_option linter.unusedSimpArgs false
namespace Go.Proofs.YtjmamidgbollgaaGreatDoor
open Go Go.Proofs.Zz Go.Proofs.Zs
open Go.ChangeShapes Go.WideShapes Go.ChangeAt Go.RowKit
theorem denL_ints (L : LoopOk) (σ : Sg) (k : IntKind) : ∀ zs : List Int, denL σ (zs.map fun z => V.int k z) = some (zs.map fun z => Value.int k z)
  | [] => rfl
  | z :: l => by
    simp only [List.map_cons, denL, den, denL_ints L σ k l]
theorem laidAscii : (Rows.laid_strings_asciiSpace : DataW Unit) = .agg (asciiZ.map fun z => .lit (.int .u8 z)) := by kernel_rfl
theorem laidPow : (Rows.laid_internal_strconv_uint64pow10 : DataW Unit) = .agg (powZ.map fun z => .lit (.int .u64 z)) := by kernel_rfl
theorem glA1 : Tryz.prog.globalNamed "strings.asciiSpace" = some 0 := by kernel_rfl
theorem glA2 : (Tryz.prog.globals[0]?).map (·.type) = some 481 := by kernel_rfl
theorem glA3 : Tryz.prog.underlying 481 = some (.array asciiZ.length 5) := by kernel_rfl
theorem glA4 : Tryz.prog.underlying 5 = some (.int .u8) := by kernel_rfl
theorem glA5 : Tryz.prog.cellsOf 5 = 1 := by kernel_rfl
theorem glA6 : Tryz.prog.cellsOf 481 = asciiZ.length := by kernel_rfl
theorem glP1 : Tryz.prog.globalNamed "internal/strconv.uint64pow10" = some 3 := by kernel_rfl
theorem glP2 : (Tryz.prog.globals[3]?).map (·.type) = some 650 := by kernel_rfl
theorem glP3 : Tryz.prog.underlying 650 = some (.array powZ.length 147) := by kernel_rfl
theorem glP4 : Tryz.prog.underlying 147 = some (.int .u64) := by kernel_rfl
theorem glP5 : Tryz.prog.cellsOf 147 = 1 := by kernel_rfl
theorem glP6 : Tryz.prog.cellsOf 650 = powZ.length := by kernel_rfl
theorem glOk (L : LoopOk) {laid : List (String × DataW Unit)} {W : World} (h : laidMet Tryz.prog laid W) (h1 : ("strings.asciiSpace", Rows.laid_strings_asciiSpace) ∈ laid) (h2 : ("internal/strconv.uint64pow10", Rows.laid_internal_strconv_uint64pow10) ∈ laid) : GLok glB (imOf W) := by
  rw [laidAscii] at h1
  rw [laidPow] at h2
  obtain ⟨el1, fr1, q1⟩ := laid_ints h h1 glA1 glA2 glA3 glA4 glA5 glA6
  obtain ⟨el2, fr2, q2⟩ := laid_ints h h2 glP1 glP2 glP3 glP4 glP5 glP6
  intro g l hg
  unfold glB at hg
  cases e : Nat.beq g 0 with
  | true =>
    cases Nat.eq_of_beq_eq_true e
    rw [e] at hg
    cases hg
    exact ⟨_, el1, fr1, q1, fun σ => denL_ints L σ .u8 asciiZ⟩
  | false =>
    rw [e] at hg
    cases e3 : Nat.beq g 3 with
    | true =>
      cases Nat.eq_of_beq_eq_true e3
      rw [e3] at hg
      cases hg
      exact ⟨_, el2, fr2, q2, fun σ => denL_ints L σ .u64 powZ⟩
    | false => rw [e3] at hg; cases hg
end Go.Proofs.YtjmamidgbollgaaGreatDoor
