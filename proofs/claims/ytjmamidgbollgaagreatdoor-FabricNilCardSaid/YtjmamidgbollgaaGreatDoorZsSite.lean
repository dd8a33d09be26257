import Derived.Test.YtjmamidgbollgaaGreatDoorZsCatch
import Derived.Test.YtjmamidgbollgaaGreatDoorZsOk0
import Derived.Test.YtjmamidgbollgaaGreatDoorZsOk1
import Derived.Test.YtjmamidgbollgaaGreatDoorZsOk2
import Derived.Test.YtjmamidgbollgaaGreatDoorZsOk3
import Derived.Test.YtjmamidgbollgaaGreatDoorZsOk4
import Derived.Test.YtjmamidgbollgaaGreatDoorZsOk5
import Derived.Test.YtjmamidgbollgaaGreatDoorZsOk6
import Derived.Test.YtjmamidgbollgaaGreatDoorZsOk7
import Derived.KernelRfl
set_option linter.all false
set_option linter.unusedVariables false
set_option linter.unusedSimpArgs false
namespace Go.Proofs.Zs
open Go Go.Proofs.Zz
theorem okAll (k : Nat) (hk : k < 734) : okAt Tryz.prog exB k = true := by
  have h : (0 ≤ k ∧ k < 92) ∨ (92 ≤ k ∧ k < 184) ∨ (184 ≤ k ∧ k < 276) ∨ (276 ≤ k ∧ k < 368) ∨ (368 ≤ k ∧ k < 460) ∨ (460 ≤ k ∧ k < 552) ∨ (552 ≤ k ∧ k < 644) ∨ (644 ≤ k ∧ k < 734) := by omega
  rcases h with h | h | h | h | h | h | h | h
  · exact okFrom_at ok0 k (by omega) (by omega)
  · exact okFrom_at ok1 k (by omega) (by omega)
  · exact okFrom_at ok2 k (by omega) (by omega)
  · exact okFrom_at ok3 k (by omega) (by omega)
  · exact okFrom_at ok4 k (by omega) (by omega)
  · exact okFrom_at ok5 k (by omega) (by omega)
  · exact okFrom_at ok6 k (by omega) (by omega)
  · exact okFrom_at ok7 k (by omega) (by omega)
theorem ok_site (k : FuncId) (fn : Func) (c : Code) (hf : fI Tryz.prog k = some fn) (hk : okB k = true) (ha : altB k = none) (hc : fn.body = some c) : okCode Tryz.prog fn.ntmps c = true ∧ (fn.name == "runtime.NumGoroutine") = false := by
  unfold okB at hk
  simp only [Bool.and_eq_true, Bool.not_eq_true', Bool.or_eq_false_iff] at hk
  refine okAt_ok (okAll k (by simpa [Nat.blt_eq] using hk.2)) ?_ hf hc
  unfold exB
  have h3 : Nat.beq k 418 = false := by
    cases e : Nat.beq k 418 with
    | false => rfl
    | true =>
      unfold altB at ha
      rw [e] at ha
      cases ha
  simp only [Bool.or_eq_false_iff]
  exact ⟨⟨hk.1.1, hk.1.2⟩, h3⟩
theorem alt_site (L : LoopOk) (gl : Nat → Option (List V)) (orc : BinOp → V → V → Option V) (orl : Nat → Option V) (kn : Kn) (Ib : IM) (m : Nat) (hG : ∀ j, j ≤ m → EvGood Tryz.prog Ib (ev Tryz.prog ⟨gl, orc, orl, kn, altB, okB⟩ j)) : AltGood Tryz.prog ⟨gl, orc, orl, kn, altB, okB⟩ Ib (ev Tryz.prog ⟨gl, orc, orl, kn, altB, okB⟩ m) := by
  intro k c hc args h h' nx nx' v σ π own args' I hr hs hh hd hI
  cases e : Nat.beq k 418 with
  | false =>
    have hc : altB k = some c := hc
    unfold altB at hc
    rw [e] at hc
    cases hc
  | true =>
    cases Nat.eq_of_beq_eq_true e
    have hn : (Tryz.f418.name == "runtime.NumGoroutine") = false := by kernel_rfl
    have hn2 : (Tryz.f488.name == "runtime.NumGoroutine") = false := by kernel_rfl
    exact deferred_ok (B := ⟨gl, orc, orl, kn, altB, okB⟩) Tryz.func418 hn rfl (by kernel_rfl) (kc := 488) (fnc := Tryz.f488) ⟨Tryz.func488, rfl, hn2⟩ hcatch (by rw [Tryz.ntmps418]; decide) (by kernel_rfl) (by kernel_rfl) m hG hr hs hh hd hI
theorem ib2 : (Tryz.f656.name == "runtime.NumGoroutine") = false := by kernel_rfl
theorem ib3 : Tryz.f656.body.isNone = true := rfl
theorem ib4 : Extern.findNext Tryz.f656 = none := by kernel_rfl
theorem ib5 : Extern.find Tryz.f656 = some Extern.BytealgIndexByte.indexByte := by kernel_rfl
theorem kn_ib (L : LoopOk) (Ib : IM) : KnF Tryz.prog Ib 656 fIb := @KnF.ib L Tryz.prog Ib 656 Tryz.f656 Tryz.func656 ib2 ib3 ib4 ib5
theorem ne2 : (Tryz.f411.name == "runtime.NumGoroutine") = false := by kernel_rfl
theorem ne3 : Tryz.f411.body.isNone = true := rfl
theorem ne4 : Extern.findNext Tryz.f411 = none := by kernel_rfl
theorem ne5 : Extern.find Tryz.f411 = some Extern.AbiNoEscape.same := by kernel_rfl
theorem kn_ne (L : LoopOk) (Ib : IM) : KnF Tryz.prog Ib 411 fNe := @KnF.ne L Tryz.prog Ib 411 Tryz.f411 Tryz.func411 ne2 ne3 ne4 ne5
theorem mk2 : (Tryz.f464.name == "runtime.NumGoroutine") = false := by kernel_rfl
theorem mk3 : Tryz.f464.body.isNone = true := rfl
theorem mk4 : Extern.findNext Tryz.f464 = none := by kernel_rfl
theorem mk5 : Extern.find Tryz.f464 = some (Extern.BytealgMakeNoZero.makeNoZero Tryz.f464.params Tryz.f464.resultTypes) := by kernel_rfl
theorem mk6 : Tryz.f464.resultTypes[0]? = some 22 := rfl
theorem mk7 : Tryz.prog.underlying 22 = some (.slice 5) := by kernel_rfl
theorem kn_mk (L : LoopOk) (Ib : IM) : KnF Tryz.prog Ib 464 (fMk 5) := @KnF.makeNoZero L Tryz.prog Ib 464 Tryz.f464 22 5 Tryz.func464 mk2 mk3 mk4 mk5 mk6 mk7
theorem kn_site (L : LoopOk) (Ib : IM) : KnOk Tryz.prog Ib kn0 := @KnOk.or L Tryz.prog Ib 656 fIb _ (kn_ib L Ib) (@KnOk.or L Tryz.prog Ib 411 fNe _ (kn_ne L Ib) (@KnOk.or L Tryz.prog Ib 464 (fMk 5) _ (kn_mk L Ib) (@KnOk.no L Tryz.prog Ib)))
theorem mixed_site : Tryz.prog.follows .mixedOrders = true := by kernel_rfl
theorem site : Site Tryz.prog altB okB kn0 := ⟨ok_site, alt_site, kn_site, mixed_site⟩
end Go.Proofs.Zs
