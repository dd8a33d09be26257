import Derived.Test.YtjmamidgbollgaaGreatDoorZsGl
import Derived.Test.YtjmamidgbollgaaGreatDoorZsFabLaw
import Derived.Test.YtjmamidgbollgaaGreatDoorZsQfabricNil
import Derived.Test.YtjmamidgbollgaaGreatDoorZsWfabricNila
import Derived.Test.YtjmamidgbollgaaGreatDoorZsWfabricNilb
import Derived.Test.YtjmamidgbollgaaGreatDoorZsWfabricNile
import Derived.ProofKit
import Derived.OpenShut
import Derived.LaidMore
import Derived.Lay
import Derived.SevenTiedAt
import Derived.Stop.Joined
set_option linter.all false
set_option linter.unusedVariables false
set_option linter.unusedSimpArgs false
namespace Go.Proofs.YtjmamidgbollgaaGreatDoor
open Go Go.Proofs.Zz Go.Proofs.Zs
open Go.ChangeShapes Go.WideShapes Go.ChangeAt Go.RowKit
theorem fabricNil_own : ownKnob Tryz.prog.godebug = none := by kernel_rfl
theorem fabricNil_und : ∃ fs, Tryz.prog.underlying 85 = some (.struct fs) := ⟨_, Tryz.underlying85⟩
theorem fabricNil_cts : Tryz.prog.cellTypes Tryz.prog.depth 85 = some [5, 3, 3, 22, 83] := by kernel_rfl
theorem fabricNil_cells : Tryz.prog.cellsOf 85 = List.length (α := TypeId) [5, 3, 3, 22, 83] := by kernel_rfl
theorem fabricNil_ro : (Tryz.f7.params.toList.all fun t => Tryz.prog.readableRec t && decide (t < Tryz.prog.types.size)) = true := by kernel_rfl
set_option maxRecDepth 100000 in
theorem fabricNil_lifted (os : Os) (started : os.Started) (H : Type) (enc : TypeId × Value → H) :
    ReturnsInHanded {} Tryz.checked os 7 .any (fun w args => (Rows.fabricNilSpec.pre enc Tryz.prog Tryz.f7 Rows.fabricNilRow.domain false w args ∧ laidMetH Tryz.prog Rows.fabricNilRow.laid w) ∧ sizedMet enc Tryz.prog Tryz.f7 (OpenSpec.ofChange Rows.fabricNilSpec) false w args)
      (Rows.fabricNilSpec.post enc Tryz.prog Tryz.f7 false true false false) := by
  refine returnsInHanded_of_change_and (C := Tryz.checked) (X := fun w _ => laidMetH Tryz.prog Rows.fabricNilRow.laid w) (fun _ _ _ hh h => h.of_heap hh) fabricNil_own started (by kernel_rfl) Tryz.func7
    (ChangeSpec.witness_shaped (enc := enc) (C := Tryz.checked) (os := os) (X := fun w _ => laidMetH Tryz.prog Rows.fabricNilRow.laid w) false (World.laidAll Tryz.prog os Rows.fabricNilRow.laid) #[.agg #[.int .u8 0, .int .i64 0, .int .i64 0, .slice none 0 0, .slice none 0 0]] 8 (World.laidAll_os _ _ _)
      (fabricNil_w1 os) (fabricNil_w2 os) (fabricNil_w3 os H enc) (fabricNil_w4 os H enc) (fabricNil_w5 os)) ?_
  intro W base args ds gs before hval0 hW _ _ hL _
  have hval : ∀ (j : Nat) t v, Tryz.f7.params[j]? = some t → args[j]? = some v → Value.okWide Tryz.prog W .any base t v := hval0
  have hW' := hW
  obtain ⟨p, q, hA0, hV, rfl, _, _⟩ := hW
  have hA : DataW.TrodAll enc Tryz.prog W 0 (fun _ => true) true Tryz.f7.params.toList args.toList ds p := hA0
  rw [Tryz.params7] at hA hval
  obtain ⟨v0, d0, rfl, rfl, h0⟩ := trodAll_one hA
  obtain ⟨rfl, rfl⟩ := trodVars_none hV
  clear hA0 hval0 hV hA
  rw [MakeChecks.laidMetH_plain _ _ _ (by kernel_rfl)] at hL
  have hgl : ∀ L : LoopOk, GLok glB (imOf W) := fun L => glOk L hL (by simp [Rows.fabricNilRow]) (by simp [Rows.fabricNilRow])
  obtain ⟨fs, hu⟩ := fabricNil_und
  obtain ⟨cs, rfl, hlen, hcell⟩ := open_cells hu fabricNil_cts fabricNil_cells (hval 0 85 v0 rfl rfl)
  obtain ⟨x0, x1, x2, x3, x4, rfl⟩ := len5 hlen
  obtain ⟨z0, rfl⟩ := cell_int Tryz.underlying5 (hcell 0 x0 5 rfl rfl)
  obtain ⟨z1, rfl⟩ := cell_int Tryz.underlying3 (hcell 1 x1 3 rfl rfl)
  obtain ⟨z2, rfl⟩ := cell_int Tryz.underlying3 (hcell 2 x2 3 rfl rfl)
  obtain ⟨a3, d3, n3, rfl⟩ := cell_slice Tryz.underlying22 (hcell 3 x3 22 rfl rfl)
  obtain ⟨a4, d4, n4, rfl⟩ := cell_slice Tryz.underlying83 (hcell 4 x4 83 rfl rfl)
  refine (fab_calls hgl _ _ _ rfl a3 a4 d3 n3 d4 n4).mono fun e W' ⟨he, hk⟩ => ?_
  subst he
  exact ⟨_, rfl, law_post laidOutP (f := Tryz.f7) (tb := 4) rfl Tryz.underlying4 rfl fabricNil_ro ⟨rfl, rfl, rfl⟩ hW' hk⟩

theorem fabricNil_holds : Rows.FabricNilSaid :=
  OpenClaim.holds_of_wide 7 Tryz.f7 rfl rfl rfl rfl rfl rfl rfl ⟨rfl, rfl, rfl, rfl, rfl⟩ rfl rfl rfl rfl rfl (by kernel_rfl) Tryz.func7 fabricNil_facts
    (of_decide_eq_true (by kernel_rfl)) (by unfold Func.isWrapper; first | (rw [if_pos (by decide +kernel)]; kernel_rfl) | (rw [if_neg (by decide +kernel)]; exact ⟨rfl, rfl⟩))
    (fun os started H enc _ => fabricNil_lifted os started H enc)
end Go.Proofs.YtjmamidgbollgaaGreatDoor
