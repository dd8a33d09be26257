import Derived.Test.YtjmamidgbollgaaGreatDoorZsGl
import Derived.Test.YtjmamidgbollgaaGreatDoorZsCellLaw
import Derived.Test.YtjmamidgbollgaaGreatDoorZsQcellNil
import Derived.Test.YtjmamidgbollgaaGreatDoorZsWcellNila
import Derived.Test.YtjmamidgbollgaaGreatDoorZsWcellNilb
import Derived.Test.YtjmamidgbollgaaGreatDoorZsWcellNile
import Derived.ProofKit
import Derived.OpenShut
import Derived.LaidMore
import Derived.Lay
import Derived.SevenTiedAt
import Derived.Stop.Joined
set_option linter.all false
set_option linter.unusedVariables false
set_option linter.unusedSimpArgs false
namespace Go.Proofs.YtjmamidgbollgaaGreatDoor
open Go Go.Proofs.Zz Go.Proofs.Zs
open Go.ChangeShapes Go.WideShapes Go.ChangeAt Go.RowKit
theorem cellNil_own : ownKnob Tryz.prog.godebug = none := by kernel_rfl
theorem cellNil_und : ∃ fs, Tryz.prog.underlying 25 = some (.struct fs) := ⟨_, Tryz.underlying25⟩
theorem cellNil_cts : Tryz.prog.cellTypes Tryz.prog.depth 25 = some [5, 3, 22, 3, 23, 3] := by kernel_rfl
theorem cellNil_cells : Tryz.prog.cellsOf 25 = List.length (α := TypeId) [5, 3, 22, 3, 23, 3] := by kernel_rfl
theorem cellNil_ro : (Tryz.f3.params.toList.all fun t => Tryz.prog.readableRec t && decide (t < Tryz.prog.types.size)) = true := by kernel_rfl
set_option maxRecDepth 100000 in
theorem cellNil_lifted (os : Os) (started : os.Started) (H : Type) (enc : TypeId × Value → H) :
    ReturnsInHanded {} Tryz.checked os 3 .any (fun w args => (Rows.cellNilSpec.pre enc Tryz.prog Tryz.f3 Rows.cellNilRow.domain false w args ∧ laidMetH Tryz.prog Rows.cellNilRow.laid w) ∧ sizedMet enc Tryz.prog Tryz.f3 (OpenSpec.ofChange Rows.cellNilSpec) false w args)
      (Rows.cellNilSpec.post enc Tryz.prog Tryz.f3 false true false false) := by
  refine returnsInHanded_of_change_and (C := Tryz.checked) (X := fun w _ => laidMetH Tryz.prog Rows.cellNilRow.laid w) (fun _ _ _ hh h => h.of_heap hh) cellNil_own started (by kernel_rfl) Tryz.func3
    (ChangeSpec.witness_shaped (enc := enc) (C := Tryz.checked) (os := os) (X := fun w _ => laidMetH Tryz.prog Rows.cellNilRow.laid w) false (World.laidAll Tryz.prog os Rows.cellNilRow.laid) #[.agg #[.int .u8 0, .int .i64 0, .slice none 0 0, .int .i64 0, .int .u32 0, .int .i64 0]] 8 (World.laidAll_os _ _ _)
      (cellNil_w1 os) (cellNil_w2 os) (cellNil_w3 os H enc) (cellNil_w4 os H enc) (cellNil_w5 os)) ?_
  intro W base args ds gs before hval0 hW _ _ hL _
  have hval : ∀ (j : Nat) t v, Tryz.f3.params[j]? = some t → args[j]? = some v → Value.okWide Tryz.prog W .any base t v := hval0
  have hW' := hW
  obtain ⟨p, q, hA0, hV, rfl, _, _⟩ := hW
  have hA : DataW.TrodAll enc Tryz.prog W 0 (fun _ => true) true Tryz.f3.params.toList args.toList ds p := hA0
  rw [Tryz.params3] at hA hval
  obtain ⟨v0, d0, rfl, rfl, h0⟩ := trodAll_one hA
  obtain ⟨rfl, rfl⟩ := trodVars_none hV
  clear hA0 hval0 hV hA
  rw [MakeChecks.laidMetH_plain _ _ _ (by kernel_rfl)] at hL
  have hgl : ∀ L : LoopOk, GLok glB (imOf W) := fun L => glOk L hL (by simp [Rows.cellNilRow]) (by simp [Rows.cellNilRow])
  obtain ⟨fs, hu⟩ := cellNil_und
  obtain ⟨cs, rfl, hlen, hcell⟩ := open_cells hu cellNil_cts cellNil_cells (hval 0 25 v0 rfl rfl)
  obtain ⟨x0, x1, x2, x3, x4, x5, rfl⟩ := len6 hlen
  obtain ⟨z0, rfl⟩ := cell_int Tryz.underlying5 (hcell 0 x0 5 rfl rfl)
  obtain ⟨z1, rfl⟩ := cell_int Tryz.underlying3 (hcell 1 x1 3 rfl rfl)
  obtain ⟨a2, d2, n2, rfl⟩ := cell_slice Tryz.underlying22 (hcell 2 x2 22 rfl rfl)
  obtain ⟨z3, rfl⟩ := cell_int Tryz.underlying3 (hcell 3 x3 3 rfl rfl)
  obtain ⟨z4, rfl⟩ := cell_int Tryz.underlying23 (hcell 4 x4 23 rfl rfl)
  obtain ⟨z5, rfl⟩ := cell_int Tryz.underlying3 (hcell 5 x5 3 rfl rfl)
  refine (cell_calls hgl _ _ _ _ _ rfl a2 d2 n2).mono fun e W' ⟨he, hk⟩ => ?_
  subst he
  exact ⟨_, rfl, law_post laidOutP (f := Tryz.f3) (tb := 4) rfl Tryz.underlying4 rfl cellNil_ro ⟨rfl, rfl, rfl⟩ hW' hk⟩

theorem cellNil_holds : Rows.CellNilSaid :=
  OpenClaim.holds_of_wide 3 Tryz.f3 rfl rfl rfl rfl rfl rfl rfl ⟨rfl, rfl, rfl, rfl, rfl⟩ rfl rfl rfl rfl rfl (by kernel_rfl) Tryz.func3 cellNil_facts
    (of_decide_eq_true (by kernel_rfl)) (by unfold Func.isWrapper; first | (rw [if_pos (by decide +kernel)]; kernel_rfl) | (rw [if_neg (by decide +kernel)]; exact ⟨rfl, rfl⟩))
    (fun os started H enc _ => cellNil_lifted os started H enc)
end Go.Proofs.YtjmamidgbollgaaGreatDoor
