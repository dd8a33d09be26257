import Derived.Test.YtjmamidgbollgaaGreatDoorZzOpv
import Derived.LaidEql
set_option linter.all false
set_option linter.unusedVariables false
set_option linter.unusedSimpArgs false
namespace Go.Proofs.Zz
open Go

/-! ### What a run without a world says of a world -/

/-- Names: the block, and its room. -/
abbrev Sg := Nat → Option (Nat × Nat)
def Sg.le (σ τ : Sg) : Prop := ∀ k x, σ k = some x → τ k = some x
theorem Sg.le.refl (σ : Sg) : σ.le σ := fun _ _ h => h
theorem Sg.le.trans {a b c : Sg} (h : a.le b) (k : b.le c) : a.le c := fun i x e => k i x (h i x e)

/-- What is asked of a loop's code; the values of which nothing is known. -/
class LoopOk where
  ok : Nat → Code → Code → Prop
  sym : Nat → Value
  plain : ∀ i, plainV (sym i)
  nobool : ∀ i c, sym i ≠ .bool c
variable [LoopOk]

mutual
def den (σ : Sg) : V → Option Value
  | .bool b => some (.bool b)
  | .int k n => some (.int k n)
  | .str s => some (Zz.str s)
  | .ptr b off => match σ b with
    | some x => some (.pointer (some ⟨x.1, off, none⟩))
    | none => none
  | .gp g off => some (.pointer (some ⟨g, off, none⟩))
  | .nptr => some (.pointer none)
  | .sl b off len cap g => match σ b with
    | some x => bif g then (bif Nat.ble (cap + len) x.2 then some (.slice (some ⟨x.1, off, none⟩) len (x.2 - cap)) else none) else some (.slice (some ⟨x.1, off, none⟩) len cap)
    | none => none
  | .nsl => some (.slice none 0 0)
  | .map b => match σ b with
    | some x => some (.map (some x.1))
    | none => none
  | .nmap => some (.map none)
  | .func f a b => match f with
    | .yield l => match σ l, a, b with
      | some x, [], [] => some (.func (.yield x.1) #[] #[])
      | _, _, _ => none
    | f => match denL σ a, denL σ b with
      | some a, some b => some (.func f a.toArray b.toArray)
      | _, _ => none
  | .nfn => some .nilFunc
  | .iface t v => match den σ v with
    | some v => some (.iface t v)
    | none => none
  | .nif => some .nilIface
  | .agg l => match denL σ l with
    | some l => some (.agg l.toArray)
    | none => none
  | .tup l => match denL σ l with
    | some l => some (.tuple l.toArray)
    | none => none
  | .se b off alt cap g => match σ b with
    | some x => bif Nat.ble cap x.2 then some (.slice (some ⟨x.1, (bif Nat.beq x.2 cap then alt else off), none⟩) 0 (bif g then x.2 - cap else 0)) else none
    | none => none
  | .sym i => some (LoopOk.sym i)
def denL (σ : Sg) : List V → Option (List Value)
  | [] => some []
  | v :: l => match den σ v, denL σ l with
    | some v, some l => some (v :: l)
    | _, _ => none
end

theorem denL_cons {σ : Sg} {v : V} {l : List V} {l' : List Value} (h : denL σ (v :: l) = some l') : ∃ v' t', den σ v = some v' ∧ denL σ l = some t' ∧ l' = v' :: t' := by
  rw [denL] at h
  split at h
  · rename_i v' t' h1 h2; cases h; exact ⟨_, _, h1, h2, rfl⟩
  · cases h

theorem denL_mk {σ : Sg} {v : V} {l : List V} {v' : Value} {t' : List Value} (h1 : den σ v = some v') (h2 : denL σ l = some t') : denL σ (v :: l) = some (v' :: t') := by
  rw [denL, h1, h2]

mutual
theorem den_mono {σ τ : Sg} (h : σ.le τ) : ∀ (v : V) (v' : Value), den σ v = some v' → den τ v = some v'
  | .bool _, _, e => by simpa [den] using e
  | .int _ _, _, e => by simpa [den] using e
  | .str _, _, e => by simpa [den] using e
  | .ptr b off, _, e => by
    rw [den] at e ⊢
    split at e
    · rename_i x hx; rw [h _ _ hx]; exact e
    · cases e
  | .gp _ _, _, e => by simpa [den] using e
  | .nptr, _, e => by simpa [den] using e
  | .sl b off len cap g, _, e => by
    rw [den] at e ⊢
    split at e
    · rename_i x hx; rw [h _ _ hx]; exact e
    · cases e
  | .nsl, _, e => by simpa [den] using e
  | .map b, _, e => by
    rw [den] at e ⊢
    split at e
    · rename_i x hx; rw [h _ _ hx]; exact e
    · cases e
  | .nmap, _, e => by simpa [den] using e
  | .func f a b, _, e => by
    cases f with
    | yield l =>
      simp only [den] at e ⊢
      cases hl : σ l with
      | none => rw [hl] at e; cases e
      | some x => rw [h _ _ hl]; rw [hl] at e; exact e
    | func k =>
      simp only [den] at e ⊢
      cases ha : denL σ a with
      | none => rw [ha] at e; cases e
      | some a' =>
        cases hb : denL σ b with
        | none => rw [ha, hb] at e; cases e
        | some b' => rw [denL_mono h a _ ha, denL_mono h b _ hb]; rw [ha, hb] at e; exact e
    | method k =>
      simp only [den] at e ⊢
      cases ha : denL σ a with
      | none => rw [ha] at e; cases e
      | some a' =>
        cases hb : denL σ b with
        | none => rw [ha, hb] at e; cases e
        | some b' => rw [denL_mono h a _ ha, denL_mono h b _ hb]; rw [ha, hb] at e; exact e
    | methodOf t k =>
      simp only [den] at e ⊢
      cases ha : denL σ a with
      | none => rw [ha] at e; cases e
      | some a' =>
        cases hb : denL σ b with
        | none => rw [ha, hb] at e; cases e
        | some b' => rw [denL_mono h a _ ha, denL_mono h b _ hb]; rw [ha, hb] at e; exact e
    | via t p k q =>
      simp only [den] at e ⊢
      cases ha : denL σ a with
      | none => rw [ha] at e; cases e
      | some a' =>
        cases hb : denL σ b with
        | none => rw [ha, hb] at e; cases e
        | some b' => rw [denL_mono h a _ ha, denL_mono h b _ hb]; rw [ha, hb] at e; exact e
  | .nfn, _, e => by simpa [den] using e
  | .iface t v, _, e => by
    rw [den] at e ⊢
    split at e
    · rename_i h1; rw [den_mono h v _ h1]; exact e
    · cases e
  | .nif, _, e => by simpa [den] using e
  | .agg l, _, e => by
    rw [den] at e ⊢
    split at e
    · rename_i h1; rw [denL_mono h l _ h1]; exact e
    · cases e
  | .tup l, _, e => by
    rw [den] at e ⊢
    split at e
    · rename_i h1; rw [denL_mono h l _ h1]; exact e
    · cases e
  | .se b off alt cap g, _, e => by
    rw [den] at e ⊢
    split at e
    · rename_i x hx; rw [h _ _ hx]; exact e
    · cases e
  | .sym _, _, e => by simpa [den] using e
theorem denL_mono {σ τ : Sg} (h : σ.le τ) : ∀ (l : List V) (l' : List Value), denL σ l = some l' → denL τ l = some l'
  | [], _, e => by simpa [denL] using e
  | v :: l, l', e => by
    obtain ⟨v', t', h1, h2, rfl⟩ := denL_cons e
    exact denL_mk (den_mono h v _ h1) (denL_mono h l _ h2)
end

section
variable {σ : Sg}

theorem denL_length : ∀ {l : List V} {l' : List Value}, denL σ l = some l' → l'.length = l.length
  | [], _, e => by rw [denL] at e; cases e; rfl
  | v :: l, _, e => by
    obtain ⟨v', t', h1, h2, rfl⟩ := denL_cons e
    simp [denL_length h2]

theorem denL_get : ∀ {l : List V} {l' : List Value}, denL σ l = some l' → ∀ {i : Nat} {v : V}, l[i]? = some v → ∃ v', l'[i]? = some v' ∧ den σ v = some v'
  | [], _, e, i, v, h => by simp at h
  | u :: l, _, e, i, v, h => by
    obtain ⟨v', t', h1, h2, rfl⟩ := denL_cons e
    cases i with
    | zero => simp at h; subst h; exact ⟨v', rfl, h1⟩
    | succ i => simp at h; simpa using denL_get h2 h

theorem denL_append : ∀ {a b : List V} {a' b' : List Value}, denL σ a = some a' → denL σ b = some b' → denL σ (a ++ b) = some (a' ++ b')
  | [], _, _, _, e, f => by rw [denL] at e; cases e; exact f
  | v :: l, _, _, _, e, f => by
    obtain ⟨v', t', h1, h2, rfl⟩ := denL_cons e
    exact denL_mk h1 (denL_append h2 f)

theorem denL_take : ∀ {l : List V} {l' : List Value} (n : Nat), denL σ l = some l' → denL σ (l.take n) = some (l'.take n)
  | [], _, n, e => by rw [denL] at e; cases e; simp [denL]
  | v :: l, _, 0, e => by simp [denL]
  | v :: l, _, n + 1, e => by
    obtain ⟨v', t', h1, h2, rfl⟩ := denL_cons e
    exact denL_mk h1 (denL_take n h2)

theorem denL_drop : ∀ {l : List V} {l' : List Value} (n : Nat), denL σ l = some l' → denL σ (l.drop n) = some (l'.drop n)
  | [], _, n, e => by rw [denL] at e; cases e; simp [denL]
  | v :: l, _, 0, e => e
  | v :: l, _, n + 1, e => by
    obtain ⟨v', t', h1, h2, rfl⟩ := denL_cons e
    exact denL_drop n h2

theorem denL_rep : ∀ (n : Nat) {l : List V} {l' : List Value}, denL σ l = some l' → denL σ (List.replicate n l).flatten = some (List.replicate n l').flatten
  | 0, _, _, _ => by simp [denL]
  | n + 1, _, _, e => by
    simp only [List.replicate_succ, List.flatten_cons]
    exact denL_append e (denL_rep n e)

theorem optL_denL {α : Type} {f : α → Option V} {g : α → Value} : ∀ {l : List α} {l' : List V}, optL f l = some l' → (∀ a v, a ∈ l → f a = some v → den σ v = some (g a)) → denL σ l' = some (l.map g)
  | [], _, e, _ => by rw [optL] at e; cases e; rfl
  | a :: l, _, e, hf => by
    rw [optL] at e
    split at e
    · rename_i b hb
      split at e
      · rename_i l2 hl
        cases e
        exact denL_mk (hf a b List.mem_cons_self hb) (optL_denL hl fun a v ha => hf a v (List.mem_cons_of_mem _ ha))
      · cases e
    · cases e

theorem ofV_den : ∀ (n : Nat) {v : Value} {x : V}, ofV n v = some x → den σ x = some v
  | 0, _, _, e => by cases e
  | n + 1, v, x, e => by
    unfold ofV at e
    split at e
    · cases e; rfl
    · cases e; rfl
    · rename_i s
      cases e
      simp only [den, Zz.str]
    · cases e; rfl
    · cases e; rfl
    · cases e; rfl
    · cases e; rfl
    · cases e; rfl
    · rename_i cs
      split at e
      · rename_i l hl
        cases e
        have := optL_denL (σ := σ) (g := id) hl (fun a v _ h => ofV_den n h)
        rw [den, this]; simp
      · cases e
    · rename_i cs
      split at e
      · rename_i l hl
        cases e
        have := optL_denL (σ := σ) (g := id) hl (fun a v _ h => ofV_den n h)
        rw [den, this]; simp
      · cases e
    · rename_i f a b
      split at e
      · rename_i ha hb
        have ha : a = #[] := by apply Array.ext'; simpa using ha
        have hb : b = #[] := by apply Array.ext'; simpa using hb
        subst ha hb
        cases e; rfl
      · cases e
    · cases e

end

/-! ### Slots -/

theorem T.get_lf {α : Type} (k : Nat) : (T.lf : T α).get k = none := rfl
theorem bool_rec {β : Type} (c : Bool) (a b : β) : (Bool.rec (motive := fun _ => β) b a c : β) = bif c then a else b := by cases c <;> rfl
theorem T.get_nd {α : Type} (l : T α) (v : Option α) (r : T α) (k : Nat) : (T.nd l v r).get k = bif Nat.beq k 0 then v else bif Nat.beq (k % 2) 1 then l.get (k / 2) else r.get (k / 2 - 1) := by
  rw [← bool_rec, ← bool_rec]; rfl
theorem T.put_lf {α : Type} (x : Option α) (n k : Nat) : T.put x (n + 1) k .lf = bif Nat.beq k 0 then .nd .lf x .lf else bif Nat.beq (k % 2) 1 then .nd (T.put x n (k / 2) .lf) none .lf else .nd .lf none (T.put x n (k / 2 - 1) .lf) := by
  rw [← bool_rec, ← bool_rec]; rfl
theorem T.put_nd {α : Type} (x : Option α) (n k : Nat) (l : T α) (v : Option α) (r : T α) : T.put x (n + 1) k (.nd l v r) = bif Nat.beq k 0 then .nd l x r else bif Nat.beq (k % 2) 1 then .nd (T.put x n (k / 2) l) v r else .nd l v (T.put x n (k / 2 - 1) r) := by
  rw [← bool_rec, ← bool_rec]; rfl

theorem T.get_put {α : Type} (x : Option α) : ∀ (n k : Nat) (t : T α), k < n → ∀ j, (T.put x n k t).get j = bif Nat.beq j k then x else t.get j
  | 0, k, t, h, _ => absurd h (Nat.not_lt_zero _)
  | n + 1, k, t, h, j => by
    have beqs : ∀ a b : Nat, Nat.beq a b = decide (a = b) := fun a b => by
      cases hb : Nat.beq a b with
      | true => simp [Nat.eq_of_beq_eq_true hb]
      | false => simp [Nat.ne_of_beq_eq_false hb]
    have lfg : ∀ j, (T.lf : T α).get j = none := fun _ => rfl
    have ih1 := fun (t : T α) (hk : k / 2 < n) => T.get_put x n (k / 2) t hk
    have ih2 := fun (t : T α) (hk : k / 2 - 1 < n) => T.get_put x n (k / 2 - 1) t hk
    cases t with
    | lf =>
      simp only [T.put_lf]
      by_cases k0 : k = 0
      · subst k0
        simp only [Nat.beq_refl, cond_true, T.get_nd, lfg, beqs]
        by_cases j0 : j = 0
        · simp [j0]
        · simp [j0]
      · have hb : Nat.beq k 0 = false := by rw [beqs]; simp [k0]
        simp only [hb, cond_false]
        by_cases k1 : k % 2 = 1
        · have hb1 : Nat.beq (k % 2) 1 = true := by rw [beqs]; simp [k1]
          simp only [hb1, cond_true, T.get_nd, lfg]
          rw [ih1 _ (by omega)]
          simp only [beqs, lfg]
          by_cases j0 : j = 0
          · subst j0; simp [Ne.symm k0]
          · simp only [j0, decide_false, cond_false]
            by_cases j1 : j % 2 = 1
            · simp only [j1, decide_true, cond_true]
              congr 1; apply decide_eq_decide.2; omega
            · have : j ≠ k := fun e => j1 (e ▸ k1)
              simp [j1, this]
        · have hb1 : Nat.beq (k % 2) 1 = false := by rw [beqs]; simp [k1]
          simp only [hb1, cond_false, T.get_nd, lfg]
          rw [ih2 _ (by omega)]
          simp only [beqs, lfg]
          by_cases j0 : j = 0
          · subst j0; simp [Ne.symm k0]
          · simp only [j0, decide_false, cond_false]
            by_cases j1 : j % 2 = 1
            · have : j ≠ k := fun e => k1 (e ▸ j1)
              simp [j1, this]
            · simp only [j1, decide_false, cond_false]
              congr 1; apply decide_eq_decide.2; omega
    | nd l v r =>
      simp only [T.put_nd]
      by_cases k0 : k = 0
      · subst k0
        simp only [Nat.beq_refl, cond_true, T.get_nd, lfg, beqs]
        by_cases j0 : j = 0
        · simp [j0]
        · simp [j0]
      · have hb : Nat.beq k 0 = false := by rw [beqs]; simp [k0]
        simp only [hb, cond_false]
        by_cases k1 : k % 2 = 1
        · have hb1 : Nat.beq (k % 2) 1 = true := by rw [beqs]; simp [k1]
          simp only [hb1, cond_true, T.get_nd]
          rw [ih1 _ (by omega)]
          simp only [beqs]
          by_cases j0 : j = 0
          · subst j0; simp [Ne.symm k0]
          · simp only [j0, decide_false, cond_false]
            by_cases j1 : j % 2 = 1
            · simp only [j1, decide_true, cond_true]
              congr 1; apply decide_eq_decide.2; omega
            · have : j ≠ k := fun e => j1 (e ▸ k1)
              simp [j1, this]
        · have hb1 : Nat.beq (k % 2) 1 = false := by rw [beqs]; simp [k1]
          simp only [hb1, cond_false, T.get_nd]
          rw [ih2 _ (by omega)]
          simp only [beqs]
          by_cases j0 : j = 0
          · subst j0; simp [Ne.symm k0]
          · simp only [j0, decide_false, cond_false]
            by_cases j1 : j % 2 = 1
            · have : j ≠ k := fun e => k1 (e ▸ j1)
              simp [j1, this]
            · simp only [j1, decide_false, cond_false]
              congr 1; apply decide_eq_decide.2; omega

def upF {α : Type} (f : Nat → α) (k : Nat) (x : α) : Nat → α := fun j => bif Nat.beq j k then x else f j
theorem T.get_set {α : Type} (t : T α) (k : Nat) (x : α) : (t.set k x).get = upF t.get k (some x) := funext fun j => T.get_put _ _ _ _ (Nat.lt_succ_self k) j
theorem T.get_del {α : Type} (t : T α) (k : Nat) : (t.del k).get = upF t.get k none := funext fun j => T.get_put _ _ _ _ (Nat.lt_succ_self k) j
theorem upF_self {α : Type} (f : Nat → α) (k : Nat) (x : α) : upF f k x k = x := by simp [upF]
theorem upF_ne {α : Type} (f : Nat → α) {k j : Nat} (x : α) (h : j ≠ k) : upF f k x j = f j := by
  unfold upF
  cases hb : Nat.beq j k with
  | false => rfl
  | true => exact absurd (Nat.eq_of_beq_eq_true hb) h
theorem upF_upF {α : Type} (f : Nat → α) (k : Nat) (x y : α) : upF (upF f k x) k y = upF f k y := by
  funext j; unfold upF; cases Nat.beq j k <;> rfl

/-- Slots as a run has them. -/
noncomputable def slot (e : T V) (t : Nat) : V := match e.get t with
  | some v => v
  | none => .tup []
def ER (σ : Sg) (e : T V) (ρ : Env) : Prop := ∀ t, den σ (slot e t) = some (ρ t)
theorem ER.mono {σ τ : Sg} {e : T V} {ρ : Env} (h : ER σ e ρ) (hle : σ.le τ) : ER τ e ρ := fun t => den_mono hle _ _ (h t)
theorem slot_set (e : T V) (d : Nat) (v : V) (t : Nat) : slot (e.set d v) t = bif Nat.beq t d then v else slot e t := by
  simp only [slot, T.get_set, upF]
  cases Nat.beq t d <;> rfl
theorem ER.put {σ : Sg} {e : T V} {ρ : Env} (h : ER σ e ρ) {v : V} {v' : Value} (hv : den σ v = some v') (d : Option Nat) : ER σ (putE d v e) (updE ρ d v') := by
  cases d with
  | none => exact h
  | some d =>
    intro t
    simp only [putE, updE, slot_set]
    cases Nat.beq t d with
    | true => exact hv
    | false => exact h t
theorem ER.op {σ : Sg} {e : T V} {ρ : Env} (h : ER σ e ρ) {x : Operand} {v : V} (hv : evO e x = some v) : den σ v = some (evE ρ x) := by
  cases x with
  | tmp t =>
    have := h t
    unfold slot at this
    simp only [evO] at hv
    cases hu : e.get t with
    | some u => rw [hu] at this hv; cases hv; exact this
    | none => rw [hu] at this hv; cases hv; exact this
  | const c =>
    simp only [evO] at hv
    cases hu : ofV 12 c with
    | some u => rw [hu] at hv; cases hv; exact ofV_den _ hu
    | none => rw [hu] at hv; cases hv
  | global g => cases hv; rfl
  | func f => cases hv; rfl
theorem ER.ops {σ : Sg} {e : T V} {ρ : Env} (h : ER σ e ρ) {l : List Operand} {vs : List V} (hv : optL (evO e) l = some vs) : denL σ vs = some (l.map (evE ρ)) :=
  optL_denL hv fun _ _ _ h' => h.op h'

/-! ### Blocks -/

/-- Map entries. -/
def denM (σ : Sg) : List (V × V × Nat) → Option (List MapEntry)
  | [] => some []
  | (k, v, b) :: l => match den σ k, den σ v, denM σ l with
    | some k, some v, some l => some ({ key := k, val := v, born := b } :: l)
    | _, _, _ => none

def OR (σ : Sg) (k : Nat) (o : O) (p : Nat × Obj) : Prop := ∃ c, σ k = some (p.1, c) ∧ match o with
  | .cells l e fz => ∃ l', denL σ l = some l' ∧ p.2 = .cells l'.toArray e fz
  | .grow l e sz m fz => ∃ l' rest fr, denL σ l = some l' ∧ p.2 = .cells (l' ++ rest).toArray e fr ∧ (l' ++ rest).length = c * sz ∧
      (bif m then (fr.1 = fr.2 ∨ (c * sz ≤ fr.1 ∧ fr.1 ≤ fr.2)) else (fz.1 = 0 ∧ fr.1 = 0 ∧ fr.2 ≤ fz.2))
  | .map es clock => ∃ es', denM σ es = some es' ∧ p.2 = .map es'.toArray clock
  | .iter m since seen st => ∃ x, σ m = some x ∧ p.2 = .mapIter (some x.1) since seen.toArray st
  | .niter => p.2 = .mapIter none 0 #[] 0
  | .siter s pos => p.2 = .stringIter ⟨s.toArray⟩ pos
  | .loop st pend N e ps as bd => ∃ fn tmps dm, p.2 = .loop { state := st, pending := pend, fn := fn, tmps := tmps, params := ps.toArray, assign := as, body := bd, defers := dm } ∧
      tmps.size = N ∧ ER σ e (fun t => tmps.getD t undef) ∧ LoopOk.ok N as bd

theorem denM_mono {σ τ : Sg} (h : σ.le τ) : ∀ (l : List (V × V × Nat)) (l' : List MapEntry), denM σ l = some l' → denM τ l = some l'
  | [], _, e => e
  | (k, v, b) :: l, l', e => by
    rw [denM] at e ⊢
    split at e
    · rename_i h1 h2 h3
      rw [den_mono h _ _ h1, den_mono h _ _ h2, denM_mono h l _ h3]; exact e
    · cases e

theorem OR.mono {σ τ : Sg} {k : Nat} {o : O} {p : Nat × Obj} (h : OR σ k o p) (hle : σ.le τ) : OR τ k o p := by
  obtain ⟨c, h1, h2⟩ := h
  refine ⟨c, hle _ _ h1, ?_⟩
  cases o with
  | cells l e fz => obtain ⟨l', a, b⟩ := h2; exact ⟨l', denL_mono hle _ _ a, b⟩
  | grow l e sz m fz => obtain ⟨l', r, fr, a, b⟩ := h2; exact ⟨l', r, fr, denL_mono hle _ _ a, b⟩
  | map es c => obtain ⟨l', a, b⟩ := h2; exact ⟨l', denM_mono hle _ _ a, b⟩
  | iter m a b c => obtain ⟨x, a, b⟩ := h2; exact ⟨x, hle _ _ a, b⟩
  | niter => exact h2
  | siter s p => exact h2
  | loop st pend N e ps as bd => obtain ⟨fn, tmps, dm, a, b, c, d⟩ := h2; exact ⟨fn, tmps, dm, a, b, c.mono hle, d⟩

/-- The blocks of a run, and the blocks that are owned: π says which is which. -/
def HR (σ : Sg) (f : Nat → Option O) (π : Nat → Nat × Obj) (H : HL) : Prop :=
  ∃ ks : List Nat, ks.Nodup ∧ (∀ k, k ∈ ks ↔ f k ≠ none) ∧ H.Perm (ks.map π) ∧ ∀ k o, f k = some o → OR σ k o (π k)

theorem HR.mono {σ τ : Sg} {f : Nat → Option O} {π : Nat → Nat × Obj} {H : HL} (h : HR σ f π H) (hle : σ.le τ) : HR τ f π H :=
  let ⟨ks, a, b, c, d⟩ := h; ⟨ks, a, b, c, fun k o e => (d k o e).mono hle⟩
theorem HR.perm {σ : Sg} {f : Nat → Option O} {π : Nat → Nat × Obj} {H H' : HL} (h : HR σ f π H) (p : H'.Perm H) : HR σ f π H' :=
  let ⟨ks, a, b, c, d⟩ := h; ⟨ks, a, b, p.trans c, d⟩
theorem HR.at {σ : Sg} {f : Nat → Option O} {π : Nat → Nat × Obj} {H : HL} (h : HR σ f π H) {k : Nat} {o : O} (e : f k = some o) : OR σ k o (π k) :=
  let ⟨_, _, _, _, d⟩ := h; d k o e
theorem HR.split {σ : Sg} {f : Nat → Option O} {π : Nat → Nat × Obj} {H : HL} (h : HR σ f π H) {k : Nat} {o : O} (e : f k = some o) :
    ∃ H', H.Perm (π k :: H') ∧ HR σ (upF f k none) π H' := by
  obtain ⟨ks, a, b, c, d⟩ := h
  have hk : k ∈ ks := (b k).2 (by rw [e]; simp)
  have pk := List.perm_cons_erase hk
  refine ⟨(ks.erase k).map π, c.trans (by simpa using pk.map π), ks.erase k, a.erase k, fun j => ?_, .refl _, fun j o hj => ?_⟩
  · rw [List.Nodup.mem_erase_iff a, b]
    by_cases hjk : j = k
    · subst hjk; simp [upF_self]
    · rw [upF_ne _ _ hjk]; simp [hjk]
  · by_cases hjk : j = k
    · subst hjk; rw [upF_self] at hj; cases hj
    · rw [upF_ne _ _ hjk] at hj; exact d j o hj
theorem HR.add {σ : Sg} {f : Nat → Option O} {π : Nat → Nat × Obj} {H : HL} (h : HR σ f π H) {k : Nat} {o : O} {p : Nat × Obj} (e : f k = none) (ho : OR σ k o p) :
    HR σ (upF f k (some o)) (upF π k p) (p :: H) := by
  obtain ⟨ks, a, b, c, d⟩ := h
  have hk : k ∉ ks := fun hk => (b k).1 hk e
  refine ⟨k :: ks, List.nodup_cons.2 ⟨hk, a⟩, fun j => ?_, ?_, fun j o' hj => ?_⟩
  · by_cases hjk : j = k
    · subst hjk; simp [upF_self]
    · rw [upF_ne _ _ hjk, ← b]; simp [hjk]
  · simp only [List.map_cons, upF_self]
    refine (c.trans ?_).cons _
    rw [List.map_congr_left (f := π) (g := upF π k p) fun j hj => (upF_ne _ _ fun (h1 : j = k) => hk (h1 ▸ hj)).symm]
  · by_cases hjk : j = k
    · subst hjk; rw [upF_self] at hj ⊢; cases hj; exact ho
    · rw [upF_ne _ _ hjk] at hj ⊢; exact d j o' hj
theorem HR.set {σ : Sg} {f : Nat → Option O} {π : Nat → Nat × Obj} {H H' : HL} {k : Nat} (hp : H.Perm (π k :: H')) (h : HR σ (upF f k none) π H') {o : O} {p : Nat × Obj} (ho : OR σ k o p) :
    HR σ (upF f k (some o)) (upF π k p) (p :: H') := by
  have := h.add (upF_self f k none) ho
  rwa [upF_upF] at this

def Sc (σ : Sg) (nx : Nat) : Prop := ∀ k, nx ≤ k → σ k = none
theorem HR.fresh {σ : Sg} {f : Nat → Option O} {π : Nat → Nat × Obj} {H : HL} (h : HR σ f π H) {nx : Nat} (hs : Sc σ nx) {k : Nat} (hk : nx ≤ k) : f k = none := by
  cases e : f k with
  | none => rfl
  | some o => obtain ⟨c, hc, _⟩ := h.at e; rw [hs k hk] at hc; cases hc
theorem Sc.le {σ : Sg} {nx : Nat} (hs : Sc σ nx) (x : Nat × Nat) : σ.le (upF σ nx (some x)) := fun k y h => by
  by_cases e : k = nx
  · subst e; rw [hs k (Nat.le_refl _)] at h; cases h
  · rw [upF_ne _ _ e]; exact h
theorem Sc.up {σ : Sg} {nx : Nat} (hs : Sc σ nx) (x : Nat × Nat) : Sc (upF σ nx (some x)) (nx + 1) := fun k h => by
  rw [upF_ne _ _ (by omega)]; exact hs k (by omega)
theorem HR.new {σ : Sg} {f : Nat → Option O} {π : Nat → Nat × Obj} {H : HL} (h : HR σ f π H) {nx : Nat} (hs : Sc σ nx) {o : O} {p : Nat × Obj} {c : Nat} (ho : OR (upF σ nx (some (p.1, c))) nx o p) :
    HR (upF σ nx (some (p.1, c))) (upF f nx (some o)) (upF π nx p) (p :: H) :=
  (h.mono (hs.le _)).add (h.fresh hs (Nat.le_refl _)) ho

end Go.Proofs.Zz

namespace Go.Proofs.Zz
open Go
variable [LoopOk]

/-! ### Tables -/
theorem mkT_get {α : Type} : ∀ (l : List α) (i : Nat) (t : T α) (k : Nat), (mkT l i t).get k = if k < i then t.get k else (match l[k - i]? with | some a => some a | none => t.get k)
  | [], i, t, k => by
    show t.get k = _
    by_cases h : k < i <;> simp [h]
  | a :: l, i, t, k => by
    show (mkT l (Nat.succ i) (t.set i a)).get k = _
    rw [mkT_get l, T.get_set]
    by_cases h : k < i
    · have : k < Nat.succ i := Nat.lt_succ_of_lt h
      simp [h, this, upF_ne _ _ (Nat.ne_of_lt h)]
    · by_cases h2 : k = i
      · subst h2; simp [upF_self]
      · have h3 : ¬ k < Nat.succ i := by omega
        have h4 : k - i = (k - Nat.succ i) + 1 := by omega
        simp only [h, h3, if_false, h4, List.getElem?_cons_succ, upF_ne _ _ h2]
theorem mkT_at {α : Type} {l : List α} {k : Nat} {a : α} (h : (mkT l 0 .lf).get k = some a) : l[k]? = some a := by
  rw [mkT_get] at h
  simp only [Nat.not_lt_zero, if_false, Nat.sub_zero] at h
  split at h
  · rename_i b hb; cases h; exact hb
  · cases h
theorem nthL_eq {α : Type} : ∀ (l : List α) (n : Nat), nthL l n = l[n]?
  | [], n => by cases n <;> rfl
  | a :: l, 0 => rfl
  | a :: l, n + 1 => by
    show nthL l n = _
    rw [nthL_eq l n]; simp

section
variable {P : Program}
theorem tI_ok {t : TypeId} {i : TypeInfo} (h : tI P t = some i) : P.info? t = some i := by
  have h1 : P.types[t]? = some i := by
    have := mkT_at h
    simpa using this
  have hlt : t < P.types.size := (Array.getElem?_eq_some_iff.1 h1).1
  show Tables.info? P.toTables t = _
  unfold Tables.info?
  rw [if_pos hlt]
  exact h1
theorem tU_ok {t : TypeId} {d : TypeDesc} (h : tU P t = some d) : P.underlying t = some d := by
  unfold tU at h
  split at h
  · rename_i i hi
    have hi := tI_ok hi
    unfold Program.underlying
    rw [hi]
    unfold tU1 at h
    split at h
    · rename_i nm u hd
      split at h
      · rename_i j hj
        have hj := tI_ok hj
        cases h
        obtain ⟨ds, a1, a2, a3, a4, a5, a6, a7, a8, a9⟩ := i
        simp only at hd
        subst hd
        simp [hj]
      · cases h
    · rename_i hd
      cases h
      obtain ⟨ds, a1, a2, a3, a4, a5, a6, a7, a8, a9⟩ := i
      simp only at hd ⊢
      split
      · rename_i e; cases e; exact absurd rfl (hd _ _)
      · rename_i e; cases e; rfl
      · rename_i e; cases e
  · cases h
theorem xL_ok {t : TypeId} {agg : Bool} {sz : Nat} (h : xL P t = some (agg, sz)) : TyL P t agg sz := by
  unfold xL at h
  split at h
  · rename_i d i h1 h2
    cases h
    exact ⟨by unfold tyL; rw [tU_ok h1, tI_ok h2]⟩
  · cases h
theorem xZ_ok {t : TypeId} {z : Value} (h : xZ P t = some z) : TyZ P t z := by
  unfold xZ at h
  split at h
  · rename_i i h1
    exact ⟨by unfold tyZ; rw [tI_ok h1]; exact h⟩
  · cases h
theorem xS_ok {t e : TypeId} {sz by' : Nat} (h : xS P t = some (e, sz, by')) : SlT P t e sz by' := by
  unfold xS at h
  split at h
  · rename_i e' h1
    split at h
    · rename_i i h2
      cases h
      exact ⟨by unfold slT; rw [tU_ok h1]; simp only; rw [tI_ok h2]⟩
    · cases h
  · cases h
theorem xF_ok {s : TypeId} {f d : Nat} (h : xF P s f = some d) : FldT P s f d := by
  unfold xF at h
  split at h
  · rename_i fs h1
    split at h
    · rename_i x h2
      split at h
      · rename_i i h3
        rw [nthL_eq] at h2
        cases hb : Nat.beq i.size 0 with
        | true => rw [hb] at h; cases h
        | false =>
          rw [hb] at h
          cases h
          refine ⟨?_⟩
          unfold fldT
          rw [tU_ok h1]
          have h2' : fs[f]? = some x := by simpa using h2
          simp only [h2', tI_ok h3]
          rw [if_neg (Nat.ne_of_beq_eq_false hb)]
      · cases h
    · cases h
  · cases h
theorem xA_ok {t tx e : TypeId} {sz by' : Nat} (h : xA P t tx = some (e, sz, by')) : AppT P t tx e sz by' := by
  unfold xA at h
  split at h
  · rename_i e' sz' b' d h1 h2
    split at h
    · rename_i z hd hz
      cases hb : (Nat.beq b' 0 || !Nat.beq z.cells.size sz') with
      | true => rw [hb] at h; cases h
      | false =>
        rw [hb] at h
        cases h
        simp only [Bool.or_eq_false_iff, Bool.not_eq_false'] at hb
        refine ⟨z, ?_⟩
        unfold appT
        rw [(xS_ok h1).h, tU_ok h2]
        simp only
        have hz := (xZ_ok hz).h
        rw [hz]
        cases d <;> simp only at hd ⊢ <;> first | (rw [if_neg]; rintro (h | h); exact Nat.ne_of_beq_eq_false hb.1 h; exact h (Nat.eq_of_beq_eq_true hb.2)) | cases hd
    · cases h
  · cases h
end

/-! ### Steps -/
def Ext (q : Bool) (σ : Sg) (f f' : Nat → Option O) (π π' : Nat → Nat × Obj) : Prop :=
  (∀ k, σ k ≠ none → f k = none → f' k = none ∧ π' k = π k) ∧ (q = true → ∀ k, f k ≠ none → f' k ≠ none ∧ π' k = π k)
theorem Ext.refl (q : Bool) (σ : Sg) (f : Nat → Option O) (π : Nat → Nat × Obj) : Ext q σ f f π π := ⟨fun _ _ h => ⟨h, rfl⟩, fun _ _ h => ⟨h, rfl⟩⟩
theorem Ext.new {q : Bool} {σ : Sg} {nx : Nat} (hs : Sc σ nx) {f : Nat → Option O} {π : Nat → Nat × Obj} (hn : f nx = none) (o : O) (p : Nat × Obj) : Ext q σ f (upF f nx (some o)) π (upF π nx p) :=
  ⟨fun k hk h => by
    have : k ≠ nx := fun e => hk (hs k (by omega))
    rw [upF_ne _ _ this, upF_ne _ _ this]; exact ⟨h, rfl⟩, fun _ k h => by
    have : k ≠ nx := fun e => h (e ▸ hn)
    rw [upF_ne _ _ this, upF_ne _ _ this]; exact ⟨h, rfl⟩⟩
theorem Ext.set {σ : Sg} {k : Nat} {f : Nat → Option O} {π : Nat → Nat × Obj} {o' : O} (hk : f k = some o') (o : O) (p : Nat × Obj) : Ext false σ f (upF f k (some o)) π (upF π k p) :=
  ⟨fun j _ h => by
    have : j ≠ k := fun e => by subst e; rw [h] at hk; cases hk
    rw [upF_ne _ _ this, upF_ne _ _ this]; exact ⟨h, rfl⟩, fun h => by cases h⟩
theorem Ext.trans {q : Bool} {σ σ1 : Sg} {f f1 f2 : Nat → Option O} {π π1 π2 : Nat → Nat × Obj} (h : Ext q σ f f1 π π1) (hle : σ.le σ1) (k : Ext q σ1 f1 f2 π1 π2) : Ext q σ f f2 π π2 :=
  ⟨fun j hj hf => by
    obtain ⟨a, b⟩ := h.1 j hj hf
    have : σ1 j ≠ none := fun e => by
      cases hc : σ j with
      | none => exact hj hc
      | some x => rw [hle _ _ hc] at e; cases e
    obtain ⟨c, d⟩ := k.1 j this a
    exact ⟨c, d.trans b⟩, fun hq j hf => by
    obtain ⟨a, b⟩ := h.2 hq j hf
    obtain ⟨c, d⟩ := k.2 hq j a
    exact ⟨c, d.trans b⟩⟩
theorem Ext.weak {q : Bool} {σ : Sg} {f f1 : Nat → Option O} {π π1 : Nat → Nat × Obj} (h : Ext q σ f f1 π π1) : Ext false σ f f1 π π1 := ⟨h.1, fun e => by cases e⟩

def RlN (I : IM) (π : Nat → Nat × Obj) (f : Nat → Option O) (i : Nat) (ld : Option Nat) (Rl Rl' : List (Nat × (Nat × Obj))) : Prop :=
  ∀ e ∈ Rl', e ∈ Rl ∨ I e.2.1 = some e.2.2 ∨ ∃ b, ld = some b ∧ f b ≠ none ∧ e = (i, π b)

/-- What must hold behind an operation. -/
def Kt (P : Program) (ops : Array Oper) (bs : List Nat) (ord : Nat → Nat → Bool) (K : Env → IM → HL → Prop) (PK : List PanicEntry → IM → HL → Prop) (is : List Nat) (ρ : Env) (dst : Option Nat) (q : Bool) (i : Nat)
    (σ : Sg) (nx : Nat) (f : Nat → Option O) (π : Nat → Nat × Obj) (I : IM) (F : HL) (Rl : List (Nat × (Nat × Obj))) (v : V) (f' : Nat → Option O) (nx' : Nat) (ld : Option Nat) : Prop :=
  ∀ (σ' : Sg) (π' : Nat → Nat × Obj) (v' : Value) (I' : IM) (own' : HL) (Rl' : List (Nat × (Nat × Obj))), σ.le σ' → Sc σ' nx' → den σ' v = some v' → HR σ' f' π' own' → Ext q σ f f' π π' → I.le I' → RlN I' π f i ld Rl Rl' →
    DX P ops bs ord K PK Rl' is (updE ρ dst v') I' (own' ++ F)

/-- What an effect comes to. -/
def Rq (σ : Sg) (nx : Nat) (f : Nat → Option O) (π : Nat → Nat × Obj) (v : V) (f' : Nat → Option O) (nx' : Nat) : Res → IM → HL → Prop := fun r _ own' =>
  ∃ v' σ' π', r = .ret v' ∧ σ.le σ' ∧ Sc σ' nx' ∧ den σ' v = some v' ∧ HR σ' f' π' own' ∧ Ext false σ f f' π π'

def GLok (gl : Nat → Option (List V)) (I : IM) : Prop := ∀ g l, gl g = some l → ∃ cs e fr, I g = some (.cells cs e fr) ∧ ∀ σ, denL σ l = some cs.toList

section
variable {P : Program} {ops : Array Oper} {bs : List Nat} {ord : Nat → Nat → Bool} {K : Env → IM → HL → Prop} {PK : List PanicEntry → IM → HL → Prop}
  {Rl : List (Nat × (Nat × Obj))} {i : Nat} {is : List Nat} {ρ : Env} {I : IM} {F own : HL} {o : Oper} {σ : Sg} {nx nx' : Nat} {f f' : Nat → Option O} {π : Nat → Nat × Obj} {v : V} {q : Bool}

theorem Kt.pure {v' : Value} (k : Kt P ops bs ord K PK is ρ o.dst q i σ nx f π I F Rl v f nx none) (ho : ops[i]? = some o) (hw : wantedE ops ρ o = true) (hc : opCls bs o.op ≠ 1) (hs : Sc σ nx) (hh : HR σ f π own)
    (hv : den σ v = some v') (hp : PureT P (execOp (evE ρ) o) v') : DX P ops bs ord K PK Rl (i :: is) ρ I (own ++ F) :=
  .pure ho hw hc hp (k σ π v' I own Rl (.refl _) hs hv hh (.refl _ _ _ _) (.refl _) fun e he => .inl he)

theorem HR.mem (hh : HR σ f π own) {b : Nat} {ob : O} (hb : f b = some ob) : π b ∈ own := by
  obtain ⟨H', hp, _⟩ := hh.split hb
  exact hp.symm.subset List.mem_cons_self

theorem Kt.load {v' : Value} {b : Nat} {ob : O} (k : Kt P ops bs ord K PK is ρ o.dst q i σ nx f π I F Rl v f nx (some b)) (ho : ops[i]? = some o) (hw : wantedE ops ρ o = true) (hc : opCls bs o.op ≠ 1) (hs : Sc σ nx) (hh : HR σ f π own)
    (hv : den σ v = some v') (hb : f b = some ob) (hp : LoadT P (execOp (evE ρ) o) (π b).1 (π b).2 v') : DX P ops bs ord K PK Rl (i :: is) ρ I (own ++ F) :=
  .load ho hw hc (.inr (List.mem_append_left _ (hh.mem hb))) hp (k σ π v' I own _ (.refl _) hs hv hh (.refl _ _ _ _) (.refl _) fun e he => by
    rcases List.mem_cons.1 he with rfl | he
    · exact .inr (.inr ⟨b, rfl, by rw [hb]; simp, rfl⟩)
    · exact .inl he)

theorem Kt.gload {v' : Value} {g : Nat} {ob : Obj} (k : Kt P ops bs ord K PK is ρ o.dst q i σ nx f π I F Rl v f nx none) (ho : ops[i]? = some o) (hw : wantedE ops ρ o = true) (hc : opCls bs o.op ≠ 1) (hs : Sc σ nx) (hh : HR σ f π own)
    (hv : den σ v = some v') (hb : I g = some ob) (hp : LoadT P (execOp (evE ρ) o) g ob v') : DX P ops bs ord K PK Rl (i :: is) ρ I (own ++ F) :=
  .load ho hw hc (.inl hb) hp (k σ π v' I own _ (.refl _) hs hv hh (.refl _ _ _ _) (.refl _) fun e he => by
    rcases List.mem_cons.1 he with rfl | he
    · exact .inr (.inl hb)
    · exact .inl he)

/-- A block is made: 'cap': its room. -/
theorem Kt.mk {on : O} (k : Kt P ops bs ord K PK is ρ o.dst q i σ nx f π I F Rl v (upF f nx (some on)) (nx + 1) none) (ho : ops[i]? = some o) (hw : wantedE ops ρ o = true) (hc : opCls bs o.op ≠ 0) (hs : Sc σ nx) (hh : HR σ f π own)
    (hr : ∀ w : World, ∃ (v' : Value) (ob : Obj) (n cap : Nat), (execOp (evE ρ) o).run P w = .ok (.value v') { w with heap := w.heap.push ob, drawn := n } ∧ den (upF σ nx (some (w.heap.size, cap))) v = some v' ∧ OR (upF σ nx (some (w.heap.size, cap))) nx on (w.heap.size, ob)) :
    DX P ops bs ord K PK Rl (i :: is) ρ I (own ++ F) := by
  refine .mk ho hw hc (fun w => let ⟨v', ob, n, _, h, _⟩ := hr w; ⟨v', ob, n, h⟩) ?_
  intro b u ob hmk
  obtain ⟨w, n, rfl, hr'⟩ := hmk
  obtain ⟨v', ob', n', cap, h1, h2, h3⟩ := hr w
  rw [h1] at hr'
  injection hr' with e1 e2
  injection e1 with e1
  have e4 := Array.push_inj_right.1 (congrArg World.heap e2)
  subst e1 e4
  exact k _ _ _ I _ Rl (hs.le _) (hs.up _) h2 (hh.new hs (p := (w.heap.size, _)) h3) (Ext.new hs (hh.fresh hs (Nat.le_refl _)) _ _) (.refl _) fun e he => .inl he

theorem Kt.eff (k : Kt P ops bs ord K PK is ρ o.dst false i σ nx f π I F Rl v f' nx' none) (ho : ops[i]? = some o) (hw : wantedE ops ρ o = true) (hc : opCls bs o.op = 2) (hrl : RlR ord Rl i I F (Rq σ nx f π v f' nx'))
    (he : EffT P (execOp (evE ρ) o) I own (Rq σ nx f π v f' nx')) : DX P ops bs ord K PK Rl (i :: is) ρ I (own ++ F) := by
  refine .eff ho hw hc (.refl _) hrl he ?_ ?_
  · rintro u I' own' hle ⟨v', σ', π', e, h1, h2, h3, h4, h5⟩
    cases e
    exact k σ' π' _ I' own' Rl h1 h2 h3 h4 h5 hle fun e he => .inl he
  · rintro c I' own' X _ ⟨v', σ', π', e, _⟩; cases e

end
end Go.Proofs.Zz

namespace Go.Proofs.Zz
open Go
variable [LoopOk]

/-- What is said of values of which nothing else is known, is so. -/
structure OrOk (P : Program) (cx : Cx) : Prop where
  orc : ∀ op x y v, cx.orc op x y = some v → ∀ σ x' y', den σ x = some x' → den σ y = some y' → ∃ k1 n1 k2 n2 v', x' = .int k1 n1 ∧ y' = .int k2 n2 ∧ den σ v = some v' ∧ ∀ t w, (binOp op t (.int k1 n1) (.int k2 n2)).run P w = .ok v' w
  orl : ∀ i v, cx.orl i = some v → ∃ a n c, LoopOk.sym i = .slice a n c ∧ ∀ σ, den σ v = some (.int .i64 n)

/-- A handler is right for an operation. -/
def HdOk (P : Program) (w : Hw) (op : Op) : Prop :=
  ∀ {ops : Array Oper} {bs : List Nat} {ord : Nat → Nat → Bool} {K : Env → IM → HL → Prop} {PK : List PanicEntry → IM → HL → Prop} {Rl : List (Nat × (Nat × Obj))} {i : Nat} {is : List Nat} {ρ : Env} {I : IM} {F own : HL}
    {dst : Option Nat} {ty : TypeId} {pos : String} {af : Array Edge} {g : Option (Nat × Bool)} {σ : Sg} {nx nx' : Nat} {h h' : T O} {π : Nat → Nat × Obj} {v : V} {e : T V} {ld : Option Nat} {cx : Cx},
    ops[i]? = some ⟨dst, op, ty, pos, af, g⟩ → wantedE ops ρ ⟨dst, op, ty, pos, af, g⟩ = true → opOk P bs op = true → cx.P = P → GLok cx.gl I → OrOk P cx →
    (∀ (fn : Fn) (args capt : List V) (h : T O) (nx : Nat) (v : V) (h' : T O) (nx' : Nat) (σ : Sg) (π : Nat → Nat × Obj) (own : HL) (fn' : Value) (args' : List Value), cx.callF fn args capt h nx = some (v, h', nx') →
      Sc σ nx → HR σ h.get π own → den σ (.func fn [] capt) = some fn' → denL σ args = some args' →
      EffT P (Deferred.ofValue fn' args'.toArray >>= fun d => invoke d.target d.args) I own (Rq σ nx h.get π v h'.get nx')) →
    w.f cx e h nx = some (v, h', nx', ld) → ER σ e ρ → Sc σ nx → HR σ h.get π own → (opCls bs op = 2 → RlR ord Rl i I F (Rq σ nx h.get π v h'.get nx')) →
    Kt P ops bs ord K PK is ρ dst (!(Nat.beq (opCls bs op) 2)) i σ nx h.get π I F Rl v h'.get nx' ld →
    DX P ops bs ord K PK Rl (i :: is) ρ I (own ++ F)

theorem okO_inv {v : Option V} {h h' : T O} {nx nx' : Nat} {u : V} {ld : Option Nat} (e : okO v h nx = some (u, h', nx', ld)) : v = some u ∧ h' = h ∧ nx' = nx ∧ ld = none := by
  unfold okO at e
  split at e
  · cases e; exact ⟨rfl, rfl, rfl, rfl⟩
  · cases e
theorem okV_inv {v : V} {h h' : T O} {nx nx' : Nat} {u : V} {ld : Option Nat} (e : okV v h nx = some (u, h', nx', ld)) : v = u ∧ h' = h ∧ nx' = nx ∧ ld = none := by
  cases e; exact ⟨rfl, rfl, rfl, rfl⟩
theorem okN_inv {v : V} {o : O} {h h' : T O} {nx nx' : Nat} {u : V} {ld : Option Nat} (e : okN h nx v o = some (u, h', nx', ld)) : v = u ∧ h' = h.set nx o ∧ nx' = nx + 1 ∧ ld = none := by
  cases e; exact ⟨rfl, rfl, rfl, rfl⟩
theorem okR_inv {r : R} {h' : T O} {nx' : Nat} {u : V} {ld : Option Nat} (e : okR r = some (u, h', nx', ld)) : r = some (u, h', nx') ∧ ld = none := by
  unfold okR at e
  split at e
  · cases e; exact ⟨rfl, rfl⟩
  · cases e

section
variable {σ : Sg}
/-! ### What a value stands for -/
theorem den_int {k : IntKind} {n : Int} {v' : Value} (h : den σ (.int k n) = some v') : v' = .int k n := by simp only [den] at h; cases h; rfl
theorem den_bool {b : Bool} {v' : Value} (h : den σ (.bool b) = some v') : v' = .bool b := by simp only [den] at h; cases h; rfl
theorem den_str {s : List UInt8} {v' : Value} (h : den σ (.str s) = some v') : v' = Zz.str s := by simp only [den] at h; cases h; rfl
theorem den_ptr {b off : Nat} {v' : Value} (h : den σ (.ptr b off) = some v') : ∃ x, σ b = some x ∧ v' = .pointer (some ⟨x.1, off, none⟩) := by
  simp only [den] at h
  split at h
  · rename_i x hx; cases h; exact ⟨x, hx, rfl⟩
  · cases h
theorem den_sl {b off len cap : Nat} {g : Bool} {v' : Value} (h : den σ (.sl b off len cap g) = some v') : ∃ x, σ b = some x ∧ v' = .slice (some ⟨x.1, off, none⟩) len (bif g then x.2 - cap else cap) ∧ (g = true → cap + len ≤ x.2) := by
  simp only [den] at h
  split at h
  · rename_i x hx
    cases g with
    | false => cases h; exact ⟨x, hx, rfl, fun e => by cases e⟩
    | true =>
      simp only [cond_true] at h
      cases hb : Nat.ble (cap + len) x.2 with
      | false => rw [hb] at h; cases h
      | true => rw [hb] at h; cases h; exact ⟨x, hx, rfl, fun _ => Nat.le_of_ble_eq_true hb⟩
  · cases h
theorem den_se {b off alt cap : Nat} {g : Bool} {v' : Value} (h : den σ (.se b off alt cap g) = some v') : ∃ x, σ b = some x ∧ v' = .slice (some ⟨x.1, (bif Nat.beq x.2 cap then alt else off), none⟩) 0 (bif g then x.2 - cap else 0) ∧ cap ≤ x.2 := by
  simp only [den] at h
  split at h
  · rename_i x hx
    cases hb : Nat.ble cap x.2 with
    | false => rw [hb] at h; cases h
    | true => rw [hb] at h; cases h; exact ⟨x, hx, rfl, Nat.le_of_ble_eq_true hb⟩
  · cases h
theorem mk_se {b off alt cap : Nat} {g : Bool} {x : Nat × Nat} (hx : σ b = some x) (hg : cap ≤ x.2) : den σ (.se b off alt cap g) = some (.slice (some ⟨x.1, (bif Nat.beq x.2 cap then alt else off), none⟩) 0 (bif g then x.2 - cap else 0)) := by
  simp only [den, hx]
  rw [Nat.ble_eq_true_of_le hg]; rfl
theorem mk_sl {b off len cap : Nat} {g : Bool} {x : Nat × Nat} (hx : σ b = some x) (hg : g = true → cap + len ≤ x.2) : den σ (.sl b off len cap g) = some (.slice (some ⟨x.1, off, none⟩) len (bif g then x.2 - cap else cap)) := by
  simp only [den, hx]
  cases g with
  | false => rfl
  | true => rw [Nat.ble_eq_true_of_le (hg rfl)]; rfl
theorem den_map {b : Nat} {v' : Value} (h : den σ (.map b) = some v') : ∃ x, σ b = some x ∧ v' = .map (some x.1) := by
  simp only [den] at h
  split at h
  · rename_i x hx; cases h; exact ⟨x, hx, rfl⟩
  · cases h
theorem den_agg {l : List V} {v' : Value} (h : den σ (.agg l) = some v') : ∃ l', denL σ l = some l' ∧ v' = .agg l'.toArray := by
  simp only [den] at h
  split at h
  · rename_i l' hl; cases h; exact ⟨l', hl, rfl⟩
  · cases h
theorem den_tup {l : List V} {v' : Value} (h : den σ (.tup l) = some v') : ∃ l', denL σ l = some l' ∧ v' = .tuple l'.toArray := by
  simp only [den] at h
  split at h
  · rename_i l' hl; cases h; exact ⟨l', hl, rfl⟩
  · cases h
theorem den_iface {t : TypeId} {v : V} {v' : Value} (h : den σ (.iface t v) = some v') : ∃ u, den σ v = some u ∧ v' = .iface t u := by
  simp only [den] at h
  split at h
  · rename_i u hu; cases h; exact ⟨u, hu, rfl⟩
  · cases h

theorem den_cs {v : V} {v' : Value} (h : den σ v = some v') : denL σ v.cs = some v'.cells.toList := by
  have one : ∀ {v : V} {v' : Value}, den σ v = some v' → denL σ [v] = some [v'] := fun h => denL_mk h rfl
  cases v <;> try (first
    | (simp only [den] at h; cases h; rfl)
    | (obtain ⟨x, hx, rfl⟩ := den_ptr h; exact one h)
    | (obtain ⟨x, hx, rfl, _⟩ := den_sl h; exact one h)
    | (obtain ⟨x, hx, rfl, _⟩ := den_se h; exact one h)
    | (obtain ⟨x, hx, rfl⟩ := den_map h; exact one h)
    | (obtain ⟨x, hx, rfl⟩ := den_iface h; exact one h)
    | (obtain ⟨x, hx, rfl⟩ := den_tup h; exact one h)
    | (obtain ⟨l', hl, rfl⟩ := den_agg h; simpa [V.cs, Value.cells] using hl))
  rotate_left
  · have h' := h
    simp only [den] at h
    have hp := LoopOk.plain ‹Nat›
    rw [Option.some.inj h] at hp
    have : v'.cells = #[v'] := by cases v' <;> first | rfl | exact hp.elim
    rw [this]; exact one h'
  rename_i f a b
  have h' := h
  cases f with
  | yield l =>
    simp only [den] at h
    cases hl : σ l with
    | none => rw [hl] at h; cases h
    | some x =>
      rw [hl] at h
      cases a with
      | cons _ _ => cases h
      | nil =>
        cases b with
        | cons _ _ => cases h
        | nil => cases h; exact one h'
  | _ =>
    simp only [den] at h
    cases ha : denL σ a with
    | none => rw [ha] at h; cases h
    | some a' =>
      cases hb : denL σ b with
      | none => rw [ha, hb] at h; cases h
      | some b' => rw [ha, hb] at h; cases h; exact one h'

theorem rdV_ok {agg : Bool} {sz off : Nat} {cs : List V} {cs' : List Value} {v : V} (h : rdV agg sz cs off = some v) (hl : denL σ cs = some cs') (rest : List Value) : ∃ v', readV agg sz (cs' ++ rest).toArray off = some v' ∧ den σ v = some v' := by
  unfold rdV at h
  cases agg with
  | true =>
    simp only [cond_true] at h
    cases hb : Nat.ble (off + sz) cs.length with
    | false => rw [hb] at h; cases h
    | true =>
      rw [hb] at h
      cases h
      have hle := Nat.le_of_ble_eq_true hb
      have hd := denL_take sz (denL_drop off hl)
      have hcl := denL_length hl
      refine ⟨.agg ((cs'.drop off).take sz).toArray, ?_, by rw [den, hd]⟩
      unfold readV
      have hb' : Nat.ble (off + sz) (cs' ++ rest).toArray.size = true := Nat.ble_eq_true_of_le (by simp; omega)
      simp only [hb', cond_true, cut]
      rw [List.drop_append_of_le_length (by omega), List.take_append_of_le_length (by simp; omega)]
  | false =>
    simp only [cond_false, nthL_eq] at h
    obtain ⟨v', h1, h2⟩ := denL_get hl h
    refine ⟨v', ?_, h2⟩
    unfold readV
    have hlt := (List.getElem?_eq_some_iff.1 h1).1
    simp [List.getElem?_append_left hlt, h1]
end

section
variable {P : Program}

theorem Kt.here {ops : Array Oper} {bs : List Nat} {ord : Nat → Nat → Bool} {K : Env → IM → HL → Prop} {PK : List PanicEntry → IM → HL → Prop}
  {Rl : List (Nat × (Nat × Obj))} {i : Nat} {is : List Nat} {ρ : Env} {I : IM} {F own : HL} {dst : Option Nat} {σ : Sg} {nx : Nat} {f : Nat → Option O} {π : Nat → Nat × Obj} {v : V} {q : Bool} {v' : Value}
    (k : Kt P ops bs ord K PK is ρ dst q i σ nx f π I F Rl v f nx none) (hs : Sc σ nx) (hh : HR σ f π own) (hv : den σ v = some v') : DX P ops bs ord K PK Rl is (updE ρ dst v') I (own ++ F) :=
  k σ π v' I own Rl (.refl _) hs hv hh (.refl _ _ _ _) (.refl _) fun e he => .inl he

theorem hMove_ok (x : Operand) : HdOk P ⟨hMove x⟩ (.move x) := by
  intro ops bs ord K PK Rl i is ρ I F own dst ty pos af g σ nx nx' h h' π v e ld cx ho hw _ hP hgl hor hcall hr hE hs hh hrl k
  obtain ⟨h1, rfl, rfl, rfl⟩ := okO_inv hr
  exact DX.mv ho hw rfl (k.here hs hh (hE.op h1))

theorem hAssign_ok (x : Operand) : HdOk P ⟨hMove x⟩ (.assign x) := by
  intro ops bs ord K PK Rl i is ρ I F own dst ty pos af g σ nx nx' h h' π v e ld cx ho hw _ hP hgl hor hcall hr hE hs hh hrl k
  obtain ⟨h1, rfl, rfl, rfl⟩ := okO_inv hr
  exact DX.as ho hw rfl (k.here hs hh (hE.op h1))

theorem hPick_ok (c a b : Operand) : HdOk P ⟨hPick c a b⟩ (.pick c a b) := by
  intro ops bs ord K PK Rl i is ρ I F own dst ty pos af g σ nx nx' h h' π v e ld cx ho hw _ hP hgl hor hcall hr hE hs hh hrl k
  simp only [hPick] at hr
  split at hr
  · rename_i t hc
    obtain ⟨h1, rfl, rfl, rfl⟩ := okO_inv hr
    refine DX.pick ho hw (den_bool (hE.op hc)) rfl (k.here hs hh ?_)
    cases t <;> exact hE.op h1
  · cases hr

theorem zV_ok {t : TypeId} {z : V} (h : zV P t = some z) : ∃ z', TyZ P t z' ∧ ∀ σ, den σ z = some z' := by
  unfold zV at h
  split at h
  · rename_i z' hz
    exact ⟨z', xZ_ok hz, fun σ => ofV_den _ h⟩
  · cases h

theorem hAlloc_ok (t : TypeId) : HdOk P ⟨hAlloc t⟩ (.alloc t) := by
  intro ops bs ord K PK Rl i is ρ I F own dst ty pos af g σ nx nx' h h' π v e ld cx ho hw _ hP hgl hor hcall hr hE hs hh hrl k
  subst hP
  simp only [hAlloc] at hr
  split at hr
  · rename_i z hz
    obtain ⟨rfl, rfl, rfl, rfl⟩ := okN_inv hr
    obtain ⟨z', hz', hd⟩ := zV_ok hz
    rw [T.get_set] at k
    refine k.mk ho hw Nat.one_ne_zero hs hh fun w => ?_
    obtain ⟨i', h1, h2⟩ := hz'.get
    refine ⟨.pointer (some ⟨w.heap.size, 0, none⟩), .cells z'.cells t (0, 0), w.drawn, 0, ?_, ?_, ?_⟩
    · simp only [execOp]
      rw [run_bind_ok (a := Value.pointer (some ⟨w.heap.size, 0, none⟩)) (w' := { w with heap := w.heap.push (.cells z'.cells t (0, 0)) })]
      · rfl
      · unfold Instr.alloc zeroValue
        rw [run_bind_ok (a := z') (w' := w)]
        · rfl
        · rw [run_bind_ok (run_info h1), h2]; rfl
    · simp only [den, upF_self]
    · exact ⟨0, upF_self _ _ _, z'.cells.toList, den_cs (hd _), by simp⟩
  · cases hr

theorem hBox_ok (t : TypeId) (x : Operand) : HdOk P ⟨hBox t x⟩ (.box t x) := by
  intro ops bs ord K PK Rl i is ρ I F own dst ty pos af g σ nx nx' h h' π v e ld cx ho hw _ hP hgl hor hcall hr hE hs hh hrl k
  subst hP
  simp only [hBox] at hr
  split at hr
  · rename_i u hu
    obtain ⟨rfl, rfl, rfl, rfl⟩ := okN_inv hr
    rw [T.get_set] at k
    have hd := hE.op hu
    refine k.mk ho hw Nat.one_ne_zero hs hh fun w => ⟨.pointer (some ⟨w.heap.size, 0, none⟩), .cells (evE ρ x).cells t (0, 0), w.drawn, 0, rfl, ?_, ?_⟩
    · simp only [den, upF_self]
    · exact ⟨0, upF_self _ _ _, (evE ρ x).cells.toList, den_cs (den_mono (hs.le _) _ _ hd), by simp⟩
  · cases hr

theorem ldV_ok {σ : Sg} {t : TypeId} {cs : List V} {cs' : List Value} {off : Nat} {v : V} (h : ldV (xL P t) (some cs) off = some v) (hl : denL σ cs = some cs') (rest : List Value) :
    ∃ agg sz v', TyL P t agg sz ∧ readV agg sz (cs' ++ rest).toArray off = some v' ∧ den σ v = some v' := by
  unfold ldV at h
  split at h
  · rename_i agg sz l h1 h2
    cases h2
    obtain ⟨v', a, b⟩ := rdV_ok h hl rest
    exact ⟨agg, sz, v', xL_ok h1, a, b⟩
  · cases h

theorem known_ok {σ : Sg} {k : Nat} {o : O} {p : Nat × Obj} {l : List V} (h : OR σ k o p) (hk : o.known = some l) : ∃ l' rest e fr, denL σ l = some l' ∧ p.2 = .cells (l' ++ rest).toArray e fr := by
  obtain ⟨c, _, h⟩ := h
  cases o <;> try (cases hk; done)
  · cases hk; obtain ⟨l', a, b⟩ := h; exact ⟨l', [], _, _, a, by simpa using b⟩
  · cases hk; obtain ⟨l', r, fr, a, b, _⟩ := h; exact ⟨l', r, _, fr, a, b⟩

theorem OR.blk {σ : Sg} {k : Nat} {o : O} {p : Nat × Obj} (h : OR σ k o p) {x : Nat × Nat} (hx : σ k = some x) : x.1 = p.1 := by
  obtain ⟨c, h1, _⟩ := h; rw [hx] at h1; cases h1; rfl

theorem hLoad_ok (t : TypeId) (x : Operand) : HdOk P ⟨hLoad t x⟩ (.load t x) := by
  intro ops bs ord K PK Rl i is ρ I F own dst ty pos af g σ nx nx' h h' π v e ld cx ho hw _ hP hgl hor hcall hr hE hs hh hrl k
  subst hP
  simp only [hLoad] at hr
  split at hr
  · rename_i b off hx
    split at hr
    · rename_i u hu
      cases hr
      have hl := hu
      unfold ldV at hu
      unfold kn? at hl hu
      cases hb : h.get b with
      | none => rw [hb] at hl; simp only [ldV] at hl; cases hxl : xL cx.P t <;> rw [hxl] at hl <;> cases hl
      | some ob =>
        rw [hb] at hl
        simp only at hl
        cases hk : ob.known with
        | none => rw [hk] at hl; simp only [ldV] at hl; cases hxl : xL cx.P t <;> rw [hxl] at hl <;> cases hl
        | some cs =>
          rw [hk] at hl
          have hor := hh.at hb
          obtain ⟨cs', rest, el, fr, h1, h2⟩ := known_ok hor hk
          obtain ⟨agg, sz, v', h3, h4, h5⟩ := ldV_ok hl h1 rest
          obtain ⟨y, hy, hpe⟩ := den_ptr (hE.op hx)
          have hblk := hor.blk hy
          refine k.load ho hw Nat.zero_ne_one hs hh h5 hb ?_
          simp only [execOp]
          refine LoadT.of fun w hw' => ?_
          rw [hpe, hblk]
          unfold Instr.loadAt
          rw [run_bind_ok (a := (⟨(π b).1, off, none⟩ : Addr)) (w' := w) rfl]
          rw [h2] at hw'
          exact run_loadVar h3 hw' h4
    · cases hr
  · rename_i g off hx
    obtain ⟨h1, rfl, rfl, rfl⟩ := okO_inv hr
    cases hg : cx.gl g with
    | none => rw [hg] at h1; unfold ldV at h1; cases hxl : xL cx.P t <;> rw [hxl] at h1 <;> cases h1
    | some cs =>
      rw [hg] at h1
      obtain ⟨arr, el, fr, h2, h3⟩ := hgl g cs hg
      obtain ⟨agg, sz, v', h4, h5, h6⟩ := ldV_ok h1 (h3 σ) []
      have hpe : evE ρ x = .pointer (some ⟨g, off, none⟩) := by
        have := hE.op hx; simp only [den] at this; exact (Option.some.inj this).symm
      refine k.gload ho hw Nat.zero_ne_one hs hh h6 h2 ?_
      simp only [execOp]
      refine LoadT.of fun w hw' => ?_
      rw [hpe]
      unfold Instr.loadAt
      rw [run_bind_ok (a := (⟨g, off, none⟩ : Addr)) (w' := w) rfl]
      exact run_loadVar h4 hw' (by simpa using h5)
  · cases hr
end
end Go.Proofs.Zz

namespace Go.Proofs.Zz
open Go
variable [LoopOk]
section
variable {P : Program}

theorem bltLt {a b : Nat} (h : Nat.blt a b = true) : a < b := by simpa [Nat.blt_eq] using h
theorem den_gp {σ : Sg} {g off : Nat} {v' : Value} (h : den σ (.gp g off) = some v') : v' = .pointer (some ⟨g, off, none⟩) := by simp only [den] at h; cases h; rfl

theorem hFA_ok (s : TypeId) (x : Operand) (f : Nat) : HdOk P ⟨hFA s x f⟩ (.fieldAddr s x f) := by
  intro ops bs ord K PK Rl i is ρ I F own dst ty pos af g σ nx nx' h h' π v e ld cx ho hw _ hP hgl hor hcall hr hE hs hh hrl k
  subst hP
  simp only [hFA] at hr
  split at hr
  · rename_i b off d hx hf
    obtain ⟨rfl, rfl, rfl, rfl⟩ := okV_inv hr
    have := xF_ok hf
    obtain ⟨y, hy, hpe⟩ := den_ptr (hE.op hx)
    exact DX.fa ho hw hpe (k.here hs hh (by simp only [den, hy]))
  · rename_i b off d hx hf
    obtain ⟨rfl, rfl, rfl, rfl⟩ := okV_inv hr
    have := xF_ok hf
    exact DX.fa ho hw (den_gp (hE.op hx)) (k.here hs hh (by simp only [den]))
  · cases hr

theorem hNil_ok (x : Operand) : HdOk P ⟨hNil x⟩ (.nilCheck x) := by
  intro ops bs ord K PK Rl i is ρ I F own dst ty pos af g σ nx nx' h h' π v e ld cx ho hw _ hP hgl hor hcall hr hE hs hh hrl k
  simp only [hNil] at hr
  split at hr
  · rename_i u hu
    cases hb : ncV u with
    | false => rw [hb] at hr; cases hr
    | true =>
      rw [hb] at hr
      obtain ⟨rfl, rfl, rfl, rfl⟩ := okV_inv hr
      have hd := hE.op hu
      refine k.pure ho hw Nat.zero_ne_one hs hh hd fun w => ?_
      simp only [execOp]
      cases u <;> try (cases hb; done)
      · obtain ⟨y, hy, hpe⟩ := den_ptr hd; rw [hpe]; rfl
      · rw [den_gp hd]; rfl
      · obtain ⟨y, hy, hpe⟩ := den_map hd; rw [hpe]; rfl
      · rename_i fn a c
        cases fn with
        | func q =>
          simp only [den] at hd
          cases ha : denL σ a with
          | none => rw [ha] at hd; cases hd
          | some a' => cases hc : denL σ c with
            | none => rw [ha, hc] at hd; cases hd
            | some c' => rw [ha, hc] at hd; rw [← Option.some.inj hd]; rfl
        | yield l =>
          simp only [den] at hd
          cases hl : σ l with
          | none => rw [hl] at hd; cases hd
          | some y =>
            rw [hl] at hd
            cases a with
            | cons _ _ => cases hd
            | nil => cases c with
              | cons _ _ => cases hd
              | nil => rw [← Option.some.inj hd]; rfl
        | method _ => cases hb
        | methodOf _ _ => cases hb
        | via _ _ _ _ => cases hb
  · cases hr

theorem hExt_ok (x : Operand) (n : Nat) : HdOk P ⟨hExt x n⟩ (.extract x n) := by
  intro ops bs ord K PK Rl i is ρ I F own dst ty pos af g σ nx nx' h h' π v e ld cx ho hw _ hP hgl hor hcall hr hE hs hh hrl k
  simp only [hExt] at hr
  split at hr
  · rename_i l hx
    obtain ⟨h1, rfl, rfl, rfl⟩ := okO_inv hr
    rw [nthL_eq] at h1
    obtain ⟨l', hl, hpe⟩ := den_tup (hE.op hx)
    obtain ⟨v', h2, h3⟩ := denL_get hl h1
    exact DX.ex ho hw hpe (by simpa using h2) (k.here hs hh h3)
  · cases hr

theorem hIface_ok (t : TypeId) (x : Operand) : HdOk P ⟨hIface t x⟩ (.makeInterface t x) := by
  intro ops bs ord K PK Rl i is ρ I F own dst ty pos af g σ nx nx' h h' π v e ld cx ho hw hc hP hgl hor hcall hr hE hs hh hrl k
  simp only [hIface] at hr
  split at hr
  · rename_i u hu
    obtain ⟨rfl, rfl, rfl, rfl⟩ := okV_inv hr
    have hd := hE.op hu
    refine k.pure (v' := .iface t (evE ρ x)) ho hw Nat.zero_ne_one hs hh (by simp only [den, hd]) ?_
    simp only [execOp]
    refine PureT.of fun w => ?_
    simp only [opOk] at hc
    cases hu : tU P t with
    | none => rw [hu] at hc; cases hc
    | some d =>
      rw [hu] at hc
      unfold Instr.makeInterface
      rw [run_bind_ok (run_und (tU_ok hu))]
      cases d <;> first | rfl | cases hc
  · cases hr

theorem hMkF_ok (fn : Fn) (first capt : Array Operand) : HdOk P ⟨hMkF fn first capt⟩ (.makeFunc fn first capt) := by
  intro ops bs ord K PK Rl i is ρ I F own dst ty pos af g σ nx nx' h h' π v e ld cx ho hw hc hP hgl hor hcall hr hE hs hh hrl k
  simp only [hMkF] at hr
  split at hr
  · rename_i a b ha hb
    obtain ⟨rfl, rfl, rfl, rfl⟩ := okV_inv hr
    have h1 := hE.ops ha
    have h2 := hE.ops hb
    refine DX.mf (fv := (first.toList.map (evE ρ)).toArray) (cv := (capt.toList.map (evE ρ)).toArray) ho hw (by simp) (by simp) (k.here hs hh ?_)
    cases fn <;> first | (cases hc; done) | (simp only [den, h1, h2])
  · cases hr

theorem hMkMap_ok (t : TypeId) (r : Option Operand) : HdOk P ⟨hMkMap⟩ (.makeMap t r) := by
  intro ops bs ord K PK Rl i is ρ I F own dst ty pos af g σ nx nx' h h' π v e ld cx ho hw hc hP hgl hor hcall hr hE hs hh hrl k
  obtain ⟨rfl, rfl, rfl, rfl⟩ := okN_inv hr
  rw [T.get_set] at k
  cases r with
  | some _ => cases hc
  | none =>
    refine k.mk ho hw Nat.one_ne_zero hs hh fun w => ⟨.map (some w.heap.size), .map #[] 0, w.drawn, 0, rfl, ?_, ?_⟩
    · simp only [den, upF_self]
    · exact ⟨0, upF_self _ _ _, [], rfl, rfl⟩

theorem hUn_ok (op : UnOp) (t : TypeId) (x : Operand) : HdOk P ⟨hUn op x⟩ (.unOp op t x) := by
  intro ops bs ord K PK Rl i is ρ I F own dst ty pos af g σ nx nx' h h' π v e ld cx ho hw hc hP hgl hor hcall hr hE hs hh hrl k
  simp only [hUn] at hr
  split at hr
  · rename_i a ha
    obtain ⟨h1, rfl, rfl, rfl⟩ := okO_inv hr
    have hd := hE.op ha
    unfold unV at h1
    split at h1
    · cases h1; exact DX.not ho hw (den_bool hd) (k.here hs hh rfl)
    · cases h1; exact DX.neg ho hw (den_int hd) rfl (k.here hs hh rfl)
    · rename_i kk a
      simp only [arith] at h1
      cases h1
      refine k.pure ho hw Nat.zero_ne_one hs hh rfl ?_
      simp only [execOp, den_int hd]
      refine PureT.of fun w => ?_
      simp only [Op.unary, Op.intBits]
      cases kk.signed <;> rfl
    · cases h1
  · cases hr

theorem asN_den {σ : Sg} {v : V} {n : Nat} {v' : Value} (h : asN v = some n) (hd : den σ v = some v') : ∃ k, v' = .int k (n : Int) := by
  unfold asN at h
  split at h
  · cases h; exact ⟨_, den_int hd⟩
  · cases h

theorem arrT_ok {t : TypeId} {n sz : Nat} {el : TypeId} (h : arrT P t = some (n, el, sz)) : ∃ i, P.underlying t = some (.array n el) ∧ P.info? el = some i ∧ i.size = sz := by
  unfold arrT at h
  split at h
  · rename_i n' el' h1
    split at h
    · rename_i i h2; cases h; exact ⟨i, tU_ok h1, tI_ok h2, rfl⟩
    · cases h
  · cases h

theorem run_indexAt_arr {w : World} {t el : TypeId} {n j sz : Nat} {i : TypeInfo} {b off : Nat} {k : IntKind} (h1 : P.underlying t = some (.array n el)) (h2 : P.info? el = some i) (h3 : i.size = sz) (hlt : j < n) :
    (Instr.indexAt t (.pointer (some ⟨b, off, none⟩)) (.int k (j : Int))).run P w = .ok (.pointer (some ⟨b, off + j * sz, none⟩)) w := by
  unfold Instr.indexAt
  rw [run_bind_ok (a := (k, (j : Int))) (w' := w) rfl]
  simp only
  rw [run_bind_ok (run_und h1)]
  simp only
  rw [run_bind_ok (a := (⟨b, off, none⟩ : Addr)) (w' := w) rfl, run_bind_ok (run_pure _), run_bind_ok (run_und h1)]
  simp only
  rw [if_pos ⟨Int.natCast_nonneg j, by exact_mod_cast hlt⟩, run_bind_ok (run_sizeOf h2), h3, addr_add]
  rfl

theorem hIxA_ok (t : TypeId) (x ix : Operand) : HdOk P ⟨hIxA t x ix⟩ (.indexAddr t x ix) := by
  intro ops bs ord K PK Rl i is ρ I F own dst ty pos af g σ nx nx' h h' π v e ld cx ho hw hc hP hgl hor hcall hr hE hs hh hrl k
  subst hP
  simp only [hIxA] at hr
  split at hr
  · rename_i u iv hu hi
    split at hr
    · rename_i j hj
      obtain ⟨h1, rfl, rfl, rfl⟩ := okO_inv hr
      obtain ⟨kk, hie⟩ := asN_den hj (hE.op hi)
      have hd := hE.op hu
      unfold ixA at h1
      split at h1
      · rename_i b off len cap gr
        split at h1
        · rename_i el sz by' hsl
          cases hb : Nat.blt j len with
          | false => rw [hb] at h1; cases h1
          | true =>
            rw [hb] at h1; cases h1
            obtain ⟨y, hy, hpe, _⟩ := den_sl hd
            have := xS_ok hsl
            exact DX.ia ho hw hpe hie (bltLt hb) (k.here hs hh (by simp only [den, hy]))
        · cases h1
      · rename_i b off
        split at h1
        · rename_i n el sz har
          cases hb : Nat.blt j n with
          | false => rw [hb] at h1; cases h1
          | true =>
            rw [hb] at h1; cases h1
            obtain ⟨y, hy, hpe⟩ := den_ptr hd
            obtain ⟨i', a1, a2, a3⟩ := arrT_ok har
            refine k.pure (v' := .pointer (some ⟨y.1, off + j * sz, none⟩)) ho hw Nat.zero_ne_one hs hh (by simp only [den, hy]) ?_
            simp only [execOp, hpe, hie]
            exact PureT.of fun w => run_indexAt_arr a1 a2 a3 (bltLt hb)
        · cases h1
      · rename_i b off
        split at h1
        · rename_i n el sz har
          cases hb : Nat.blt j n with
          | false => rw [hb] at h1; cases h1
          | true =>
            rw [hb] at h1; cases h1
            obtain ⟨i', a1, a2, a3⟩ := arrT_ok har
            refine k.pure (v' := .pointer (some ⟨b, off + j * sz, none⟩)) ho hw Nat.zero_ne_one hs hh (by simp only [den]) ?_
            simp only [execOp, den_gp hd, hie]
            exact PureT.of fun w => run_indexAt_arr a1 a2 a3 (bltLt hb)
        · cases h1
      · cases h1
    · cases hr
  · cases hr

end
end Go.Proofs.Zz

namespace Go.Proofs.Zz
open Go
variable [LoopOk]
section
variable {P : Program}

theorem vNil_ok {σ : Sg} {v : V} {b : Bool} {v' : Value} {d : TypeDesc} (h : vNil v = some b) (ht : nilTd d v = true) (hd : den σ v = some v') : nilB v' = some b ∧ nilT d v' = true ∧ (b = true → nilV v' = true) := by
  cases v <;> try (cases h; done)
  · cases h; obtain ⟨x, hx, rfl⟩ := den_ptr hd; cases d <;> first | (cases ht; done) | exact ⟨rfl, rfl, fun e => by cases e⟩
  · cases h; rw [den_gp hd]; cases d <;> first | (cases ht; done) | exact ⟨rfl, rfl, fun e => by cases e⟩
  · cases h; simp only [den] at hd; cases hd; cases d <;> first | (cases ht; done) | exact ⟨rfl, rfl, fun _ => rfl⟩
  · cases h; obtain ⟨x, hx, rfl, _⟩ := den_sl hd; cases d <;> first | (cases ht; done) | exact ⟨rfl, rfl, fun e => by cases e⟩
  · cases h; simp only [den] at hd; cases hd; cases d <;> first | (cases ht; done) | exact ⟨rfl, rfl, fun _ => rfl⟩
  · cases h; obtain ⟨x, hx, rfl⟩ := den_map hd; cases d <;> first | (cases ht; done) | exact ⟨rfl, rfl, fun e => by cases e⟩
  · cases h; simp only [den] at hd; cases hd; cases d <;> first | (cases ht; done) | exact ⟨rfl, rfl, fun _ => rfl⟩
  · rename_i fn a c
    cases h
    have hf : ∃ fn' a' c', v' = .func fn' a' c' := by
      cases fn with
      | yield l =>
        simp only [den] at hd
        cases hl : σ l with
        | none => rw [hl] at hd; cases hd
        | some y =>
          rw [hl] at hd
          cases a with
          | cons _ _ => cases hd
          | nil => cases c with
            | cons _ _ => cases hd
            | nil => exact ⟨_, _, _, (Option.some.inj hd).symm⟩
      | _ =>
        simp only [den] at hd
        cases ha : denL σ a with
        | none => rw [ha] at hd; cases hd
        | some a' => cases hc : denL σ c with
          | none => rw [ha, hc] at hd; cases hd
          | some c' => rw [ha, hc] at hd; exact ⟨_, _, _, (Option.some.inj hd).symm⟩
    obtain ⟨fn', a', c', rfl⟩ := hf
    cases d <;> first | (cases ht; done) | exact ⟨rfl, rfl, fun e => by cases e⟩
  · cases h; simp only [den] at hd; cases hd; cases d <;> first | (cases ht; done) | exact ⟨rfl, rfl, fun _ => rfl⟩
  · cases d <;> cases ht
  · cases d <;> cases ht
  · cases h; obtain ⟨x, hx, rfl, _⟩ := den_se hd; cases d <;> first | (cases ht; done) | exact ⟨rfl, rfl, fun e => by cases e⟩

theorem binE_inv {op : BinOp} {r : Option Bool} {v : V} (h : binE op r = some v) : ∃ b c, r = some b ∧ eqC op b = some c ∧ v = .bool c := by
  unfold binE at h
  split at h
  · rename_i b
    split at h
    · rename_i c hc; cases h; exact ⟨b, c, rfl, hc, rfl⟩
    · cases h
  · cases h

theorem run_eqc {op : BinOp} {t : TypeId} {a b : Value} {r c : Bool} (hc : eqC op r = some c) {w : World} (heq : (Op.equal t a b).run P w = .ok r w) (hab : ∀ k x k' y, ¬ (a = .int k x ∧ b = .int k' y)) (hst : ∀ x y, ¬ (a = .string x ∧ b = .string y))
    (hfl : ∀ k x k' y, ¬ (a = .float k x ∧ b = .float k' y)) (hcx : ∀ k x y k' z u, ¬ (a = .complex k x y ∧ b = .complex k' z u)) : (binOp op t a b).run P w = .ok (.bool c) w := by
  cases op <;> try (cases hc; done)
  · cases hc
    have : binOp .eql t a b = (Op.equal t a b >>= fun b => Pure.pure (Value.bool b)) := by
      cases a <;> cases b <;> first | rfl | exact absurd ⟨rfl, rfl⟩ (hab _ _ _ _) | exact absurd ⟨rfl, rfl⟩ (hst _ _) | exact absurd ⟨rfl, rfl⟩ (hfl _ _ _ _) | exact absurd ⟨rfl, rfl⟩ (hcx _ _ _ _ _ _)
    rw [this, run_bind_ok heq]; rfl
  · cases hc
    have : binOp .neq t a b = (Op.equal t a b >>= fun b => Pure.pure (Value.bool (!b))) := by
      cases a <;> cases b <;> first | rfl | exact absurd ⟨rfl, rfl⟩ (hab _ _ _ _) | exact absurd ⟨rfl, rfl⟩ (hst _ _) | exact absurd ⟨rfl, rfl⟩ (hfl _ _ _ _) | exact absurd ⟨rfl, rfl⟩ (hcx _ _ _ _ _ _)
    rw [this, run_bind_ok heq]; rfl

theorem run_equal_ptr {w : World} {t el : TypeId} {j : TypeInfo} (h1 : P.underlying t = some (.pointer el)) (h2 : P.info? el = some j) (a : Addr) : (Op.equal t (.pointer (some a)) (.pointer (some a))).run P w = .ok true w := by
  unfold Op.equal
  rw [show Op.maxDepth = 9999 + 1 from rfl]
  unfold Op.equalIn
  rw [run_bind_ok (run_und h1)]
  simp only
  rw [run_bind_ok (run_sizeOf h2)]
  by_cases h0 : j.size = 0
  · simp [h0]
  · simp [h0, run_sameAddr_same]

theorem run_equal_if {w : World} {t : TypeId} {ms : Array (String × TypeId)} (h1 : P.underlying t = some (.interface ms)) (d : TypeId) (u : Value) : (Op.equal t (.iface d u) .nilIface).run P w = .ok false w := by
  unfold Op.equal
  rw [show Op.maxDepth = 9999 + 1 from rfl]
  unfold Op.equalIn
  rw [run_bind_ok (run_und h1)]
  rfl
theorem run_equal_nn {w : World} {t : TypeId} {ms : Array (String × TypeId)} (h1 : P.underlying t = some (.interface ms)) : (Op.equal t .nilIface .nilIface).run P w = .ok true w := by
  unfold Op.equal
  rw [show Op.maxDepth = 9999 + 1 from rfl]
  unfold Op.equalIn
  rw [run_bind_ok (run_und h1)]
  rfl

def isCst : Operand → Bool
  | .const _ => true
  | _ => false

theorem hBin_ok (op : BinOp) (t t' : TypeId) (x y : Operand) : HdOk P ⟨hBin op t x y⟩ (.binOp op t x y t') := by
  intro ops bs ord K PK Rl i is ρ I F own dst ty pos af g σ nx nx' h h' π v e ld cx ho hw hc hP hgl hor hcall hr hE hs hh hrl k
  subst hP
  simp only [hBin] at hr
  split at hr
  · rename_i a b ha hb
    have hda := hE.op ha
    have hdb := hE.op hb
    have oracle : okO (cx.orc op a b) h nx = some (v, h', nx', ld) → DX cx.P ops bs ord K PK Rl (i :: is) ρ I (own ++ F) := fun hr => by
      obtain ⟨h1, rfl, rfl, rfl⟩ := okO_inv hr
      obtain ⟨k1, n1, k2, n2, v', e1, e2, e3, e4⟩ := hor.orc _ _ _ _ h1 σ _ _ hda hdb
      refine k.pure ho hw Nat.zero_ne_one hs hh e3 ?_
      simp only [execOp, e1, e2]
      refine PureT.of fun w => ?_
      rw [run_bind_ok (run_eqGuard_plain trivial w)]
      exact e4 t w
    split at hr
    · exact oracle hr
    · exact oracle hr
    rename_i n1 n2
    clear n1 n2
    obtain ⟨h1, rfl, rfl, rfl⟩ := okO_inv hr
    unfold binV at h1
    split at h1
    · rename_i ka x1 kb y1
      have e1 := den_int hda
      have e2 := den_int hdb
      have arc : ∀ c, arith op ka x1 y1 = some c → ka = kb → v = .int ka c → DX cx.P ops bs ord K PK Rl (i :: is) ρ I (own ++ F) := fun c hc hk hv => by
        subst hk hv
        exact DX.ar ho hw e1 e2 hc (k.here hs hh rfl)
      have icc : ∀ c, icmp op x1 y1 = some c → ka = kb → v = .bool c → DX cx.P ops bs ord K PK Rl (i :: is) ρ I (own ++ F) := fun c hc hk hv => by
        subst hk hv
        exact DX.ic ho hw e1 e2 hc (k.here hs hh rfl)
      have shc : ∀ n c, y1 = .ofNat n → shC op ka x1 n = some c → v = .int ka c → DX cx.P ops bs ord K PK Rl (i :: is) ρ I (own ++ F) := fun n c hn hc hv => by
        subst hn hv
        exact DX.sh ho hw e1 e2 hc (k.here hs hh rfl)
      have gen : (bif decide (ka = kb) then binI op ka x1 y1 else none) = some v → DX cx.P ops bs ord K PK Rl (i :: is) ρ I (own ++ F) := fun h1 => by
        by_cases hk : ka = kb
        · rw [decide_eq_true hk] at h1
          simp only [cond_true, binI] at h1
          split at h1
          · rename_i c hc; cases h1; exact arc c hc hk rfl
          · split at h1
            · rename_i c hc; cases h1; exact icc c hc hk rfl
            · cases h1
        · rw [decide_eq_false hk] at h1; cases h1
      cases op <;> first | exact gen h1 | skip
      · cases y1 with
        | ofNat n =>
          simp only at h1
          split at h1
          · rename_i c hc; cases h1; exact shc n c rfl hc rfl
          · cases h1
        | negSucc n => cases h1
      · cases y1 with
        | ofNat n =>
          simp only at h1
          split at h1
          · rename_i c hc; cases h1; exact shc n c rfl hc rfl
          · cases h1
        | negSucc n => cases h1
    · rename_i s1 s2
      have e1 := den_str hda
      have e2 := den_str hdb
      unfold binS at h1
      split at h1
      · rename_i c hc; cases h1; exact DX.sc ho hw e1 e2 hc (k.here hs hh rfl)
      · split at h1
        · cases hb2 : Nat.blt (s1.length + s2.length) 1000000 with
          | false => rw [hb2] at h1; cases h1
          | true =>
            rw [hb2] at h1; cases h1
            have := bltLt hb2
            exact DX.sadd ho hw e1 e2 (by omega) (k.here hs hh rfl)
        · cases h1
    · split at h1
      · rename_i d hd
        have hd := tU_ok hd
        obtain ⟨r, c, h2, h3, rfl⟩ := binE_inv h1
        have : UnT cx.P t d := ⟨hd⟩
        unfold eqN at h2
        split at h2
        · split at h2
          · cases h2; exact DX.bc ho hw (den_bool hda) (den_bool hdb) h3 (k.here hs hh rfl)
          · cases h2
        · rename_i b1 o1 b2 o2 _ _
          split at h2
          · rename_i el
            split at h2
            · rename_i j hj
              cases hbb : (Nat.beq b1 b2 && Nat.beq o1 o2) with
              | false => rw [hbb] at h2; cases h2
              | true =>
                rw [hbb] at h2; cases h2
                simp only [Bool.and_eq_true] at hbb
                have eb := Nat.eq_of_beq_eq_true hbb.1
                have eo := Nat.eq_of_beq_eq_true hbb.2
                subst eb eo
                obtain ⟨z1, hz1, p1⟩ := den_ptr hda
                obtain ⟨z2, hz2, p2⟩ := den_ptr hdb
                rw [hz1] at hz2; cases hz2
                refine k.pure ho hw Nat.zero_ne_one hs hh rfl ?_
                simp only [execOp, p1, p2]
                refine PureT.of fun w => ?_
                rw [run_bind_ok (run_eqGuard_plain trivial w)]
                exact run_eqc h3 (run_equal_ptr hd (tI_ok hj) _) (by rintro _ _ _ _ ⟨h, _⟩; cases h) (by rintro _ _ ⟨h, _⟩; cases h) (by rintro _ _ _ _ ⟨h, _⟩; cases h) (by rintro _ _ _ _ _ _ ⟨h, _⟩; cases h)
            · cases h2
          · cases h2
        · split at h2
          · cases h2
            obtain ⟨u, hu, p1⟩ := den_iface hda
            have p2 : evE ρ y = .nilIface := by simp only [den] at hdb; exact (Option.some.inj hdb).symm
            refine k.pure ho hw Nat.zero_ne_one hs hh rfl ?_
            simp only [execOp, p1, p2]
            refine PureT.of fun w => ?_
            rw [run_bind_ok (run_eqGuard_plain trivial w)]
            exact run_eqc h3 (run_equal_if hd _ _) (by rintro _ _ _ _ ⟨h, _⟩; cases h) (by rintro _ _ ⟨h, _⟩; cases h) (by rintro _ _ _ _ ⟨h, _⟩; cases h) (by rintro _ _ _ _ _ _ ⟨h, _⟩; cases h)
          · cases h2
        · split at h2
          · cases y with
            | const cv =>
              simp only [cond_true] at h2
              cases h2
              have p1 : evE ρ x = .nilIface := by simp only [den] at hda; exact (Option.some.inj hda).symm
              have p2 : evE ρ (.const cv) = .nilIface := by simp only [den] at hdb; exact (Option.some.inj hdb).symm
              refine k.pure ho hw Nat.zero_ne_one hs hh rfl ?_
              simp only [execOp, p1, p2]
              refine PureT.of fun w => ?_
              rw [run_bind_ok (a := ()) (w' := w) (by unfold eqGuard; cases op <;> first | rfl | (cases x <;> rfl))]
              exact run_eqc h3 (run_equal_nn hd) (by rintro _ _ _ _ ⟨h, _⟩; cases h) (by rintro _ _ ⟨h, _⟩; cases h) (by rintro _ _ _ _ ⟨h, _⟩; cases h) (by rintro _ _ _ _ _ _ ⟨h, _⟩; cases h)
            | _ => cases h2
          · cases h2
        · split at h2
          · rename_i b1 hn1 hn2
            cases hbb : (nilTd d a && nilTd d b) with
            | false => rw [hbb] at h2; cases h2
            | true =>
              rw [hbb] at h2; cases h2
              simp only [Bool.and_eq_true] at hbb
              obtain ⟨q1, q2, _⟩ := vNil_ok hn1 hbb.1 hda
              obtain ⟨r1, r2, r3⟩ := vNil_ok hn2 hbb.2 hdb
              exact DX.nl ho hw rfl rfl (r3 rfl) q1 q2 r2 h3 (k.here hs hh rfl)
          · cases h2
      · cases h1
  · cases hr
end
end Go.Proofs.Zz
