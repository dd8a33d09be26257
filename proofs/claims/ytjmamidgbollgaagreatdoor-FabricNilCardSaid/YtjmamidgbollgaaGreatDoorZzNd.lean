import Derived.Test.YtjmamidgbollgaaGreatDoorZzEs
import GoSem.ClaimChange
set_option linter.all false
set_option linter.unusedVariables false
set_option linter.unusedSimpArgs false
namespace Go.Proofs.Zz
open Go
theorem upF_self' {α : Type} (f : Nat → α) (k : Nat) (x : α) : upF f k x k = x := by simp [upF]
theorem upF_ne' {α : Type} (f : Nat → α) {k j : Nat} (x : α) (h : j ≠ k) : upF f k x j = f j := by
  have : Nat.beq j k = false := by
    cases e : Nat.beq j k with
    | false => rfl
    | true => exact absurd (Nat.eq_of_beq_eq_true e) h
  simp only [upF, this, cond_false]
theorem get_set' {α : Type} (t : T α) (k : Nat) (x : α) : (t.set k x).get = upF t.get k (some x) := funext fun j => @T.get_put (⟨fun _ _ _ => True, fun _ => .nilIface, fun _ => trivial, fun _ _ h => by cases h⟩ : LoopOk) α _ _ _ _ (Nat.lt_succ_self k) j
/-- No place twice, by a table. -/
noncomputable def ndF : List MemPlace → T Unit → Bool
  | [], _ => true
  | .cell b o :: l, t => Nat.blt o 4096 && (match t.get (b * 4096 + o) with
    | none => ndF l (t.set (b * 4096 + o) ())
    | some _ => false)
  | .map _ :: _, _ => false
theorem ndF_ok : ∀ (l : List MemPlace) (t : T Unit), ndF l t = true → l.Nodup ∧ ∀ b o, .cell b o ∈ l → t.get (b * 4096 + o) = none ∧ o < 4096
  | [], t, _ => ⟨List.nodup_nil, fun _ _ h => by cases h⟩
  | .map _ :: _, _, h => by cases h
  | .cell b o :: l, t, h => by
    simp only [ndF, Bool.and_eq_true] at h
    obtain ⟨ho, h⟩ := h
    have ho : o < 4096 := by simpa [Nat.blt_eq] using ho
    split at h
    · rename_i hg
      obtain ⟨h1, h2⟩ := ndF_ok l _ h
      have hn : ∀ b' o', .cell b' o' ∈ l → b' * 4096 + o' ≠ b * 4096 + o := fun b' o' hm e => by
        have := (h2 b' o' hm).1
        rw [get_set', e, upF_self'] at this
        cases this
      refine ⟨List.nodup_cons.2 ⟨fun hm => hn b o hm rfl, h1⟩, fun b' o' hm => ?_⟩
      rcases List.mem_cons.1 hm with e | hm
      · cases e; exact ⟨hg, ho⟩
      · have := h2 b' o' hm
        rw [get_set', upF_ne' _ _ (hn b' o' hm)] at this
        exact this
    · cases h
end Go.Proofs.Zz
