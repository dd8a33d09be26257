import Derived.Test.YtjmamidgbollgaaGreatDoorZzFf
import Derived.LoopNIn
import Derived.RangeFuncIn
import Derived.RecoverIn
set_option linter.all false
set_option linter.unusedVariables false
set_option linter.unusedSimpArgs false
namespace Go.Proofs.Zz
open Go
variable [LoopOk]

/-! ### Regions -/
mutual
theorem sameV_ok : ∀ (a b : V), sameV a b = true → a = b
  | .bool a, v, h => by
    cases v with
    | bool b => simp only [sameV, beq_iff_eq] at h; rw [h]
    | _ => simp only [sameV] at h; cases h
  | .int k n, v, h => by
    cases v with
    | int j m =>
      simp only [sameV] at h
      by_cases hk : k = j
      · subst hk; simp at h; rw [h]
      · rw [decide_eq_false hk] at h; cases h
    | _ => simp only [sameV] at h; cases h
  | .str s, v, h => by
    cases v with
    | str t => simp only [sameV, decide_eq_true_eq] at h; rw [h]
    | _ => simp only [sameV] at h; cases h
  | .ptr b o, v, h => by
    cases v with
    | ptr c p => simp only [sameV, Bool.and_eq_true] at h; rw [Nat.eq_of_beq_eq_true h.1, Nat.eq_of_beq_eq_true h.2]
    | _ => simp only [sameV] at h; cases h
  | .gp b o, v, h => by
    cases v with
    | gp c p => simp only [sameV, Bool.and_eq_true] at h; rw [Nat.eq_of_beq_eq_true h.1, Nat.eq_of_beq_eq_true h.2]
    | _ => simp only [sameV] at h; cases h
  | .nptr, v, h => by
    cases v with
    | nptr => rfl
    | _ => simp only [sameV] at h; cases h
  | .sl b o n c g, v, h => by
    cases v with
    | sl b' o' n' c' g' => simp only [sameV, Bool.and_eq_true, beq_iff_eq] at h; rw [Nat.eq_of_beq_eq_true h.1, Nat.eq_of_beq_eq_true h.2.1, Nat.eq_of_beq_eq_true h.2.2.1, Nat.eq_of_beq_eq_true h.2.2.2.1, h.2.2.2.2]
    | _ => simp only [sameV] at h; cases h
  | .nsl, v, h => by
    cases v with
    | nsl => rfl
    | _ => simp only [sameV] at h; cases h
  | .map b, v, h => by
    cases v with
    | map c => simp only [sameV] at h; rw [Nat.eq_of_beq_eq_true h]
    | _ => simp only [sameV] at h; cases h
  | .nmap, v, h => by
    cases v with
    | nmap => rfl
    | _ => simp only [sameV] at h; cases h
  | .func f a b, v, h => by
    cases v with
    | func f' a' b' =>
      simp only [sameV, Bool.and_eq_true] at h
      obtain ⟨h1, h2, h3⟩ := h
      rw [sameL_ok _ _ h2, sameL_ok _ _ h3]
      cases f <;> cases f' <;> first | (cases h1; done) | rw [Nat.eq_of_beq_eq_true h1]
    | _ => simp only [sameV] at h; cases h
  | .nfn, v, h => by
    cases v with
    | nfn => rfl
    | _ => simp only [sameV] at h; cases h
  | .iface t x, v, h => by
    cases v with
    | iface u y => simp only [sameV, Bool.and_eq_true] at h; rw [Nat.eq_of_beq_eq_true h.1, sameV_ok _ _ h.2]
    | _ => simp only [sameV] at h; cases h
  | .nif, v, h => by
    cases v with
    | nif => rfl
    | _ => simp only [sameV] at h; cases h
  | .agg l, v, h => by
    cases v with
    | agg m => simp only [sameV] at h; rw [sameL_ok _ _ h]
    | _ => simp only [sameV] at h; cases h
  | .tup l, v, h => by
    cases v with
    | tup m => simp only [sameV] at h; rw [sameL_ok _ _ h]
    | _ => simp only [sameV] at h; cases h
  | .sym i, v, h => by
    cases v with
    | sym j => simp only [sameV] at h; rw [Nat.eq_of_beq_eq_true h]
    | _ => simp only [sameV] at h; cases h
  | .se b o n c g, v, h => by
    cases v with
    | se b' o' n' c' g' => simp only [sameV, Bool.and_eq_true, beq_iff_eq] at h; rw [Nat.eq_of_beq_eq_true h.1, Nat.eq_of_beq_eq_true h.2.1, Nat.eq_of_beq_eq_true h.2.2.1, Nat.eq_of_beq_eq_true h.2.2.2.1, h.2.2.2.2]
    | _ => simp only [sameV] at h; cases h
theorem sameL_ok : ∀ (a b : List V), sameL a b = true → a = b
  | [], l, h => by
    cases l with
    | nil => rfl
    | cons _ _ => simp only [sameL] at h; cases h
  | a :: l, m, h => by
    cases m with
    | nil => simp only [sameL] at h; cases h
    | cons b m => simp only [sameL, Bool.and_eq_true] at h; rw [sameV_ok _ _ h.1, sameL_ok _ _ h.2]
end
/-- What has not changed in the run has not changed in the world. -/
theorem sameO_ok {σ σ' : Sg} {b : Nat} {o o' : Option O} {p p' : Nat × Obj} {ob : O} (h : sameO o o' = true) (hle : σ.le σ') (ho : o = some ob) (h1 : OR σ b ob p) (h2 : ∀ ob', o' = some ob' → OR σ' b ob' p') : o' ≠ none ∧ p' = p := by
  unfold sameO at h
  split at h
  · rename_i l e fz l' e' fz'
    cases ho
    simp only [Bool.and_eq_true] at h
    obtain ⟨h1', h2', h3', h4'⟩ := h
    have q1 := Nat.eq_of_beq_eq_true h1'
    have q2 : fz.1 = fz'.1 := Nat.eq_of_beq_eq_true h2'
    have q3 : fz.2 = fz'.2 := Nat.eq_of_beq_eq_true h3'
    have q4 := sameL_ok _ _ h4'
    clear h1' h2' h3' h4'
    obtain ⟨c, r1, ls, r2, r3⟩ := h1
    obtain ⟨c', s1, ls', s2, s3⟩ := h2 _ rfl
    refine ⟨by simp, ?_⟩
    rw [hle _ _ r1] at s1
    have qz : fz = fz' := Prod.ext q2 q3
    subst q1 q4 qz
    rw [denL_mono hle _ _ r2] at s2
    cases s2
    obtain ⟨p1, p2⟩ := p
    obtain ⟨p1', p2'⟩ := p'
    simp only at r3 s3 s1
    injection s1 with s1
    injection s1 with s1 _
    subst s1
    rw [r3, s3]
  · cases h

theorem hidGo_mem : ∀ {m : Nat} {rl : List (Nat × Option Nat)} {l : List Nat}, hidGo m rl = some l → ∀ i n, (i, n) ∈ rl → Nat.testBit m i = true ∨ ∃ b, n = some b ∧ b ∈ l
  | m, [], l, h, i, n, hm => by cases hm
  | m, (i0, n0) :: rl, l, h, i, n, hm => by
    unfold hidGo at h
    cases ht : Nat.testBit m i0 with
    | true =>
      rw [ht] at h
      rcases List.mem_cons.1 hm with e | hm
      · cases e; exact .inl ht
      · exact hidGo_mem h i n hm
    | false =>
      rw [ht] at h
      simp only [cond_false] at h
      cases n0 with
      | none => cases h
      | some b =>
       cases h2 : hidGo m rl with
       | none => rw [h2] at h; cases h
       | some l' =>
        rw [h2] at h
        cases h
        rcases List.mem_cons.1 hm with e | hm
        · cases e
          refine .inr ⟨b, rfl, ?_⟩
          cases hc : l'.contains b with
          | true => simpa using hc
          | false => simp
        · rcases hidGo_mem h2 i n hm with h3 | ⟨b', h3, h4⟩
          · exact .inl h3
          · refine .inr ⟨b', h3, ?_⟩
            cases hc : l'.contains b with
            | true => simpa using h4
            | false => simp [h4]

theorem den_bool_inv {σ : Sg} {v : V} {c : Bool} (h : den σ v = some (.bool c)) : v = .bool c := by
  cases v <;> try (first
    | (simp only [den] at h; cases h; done)
    | (obtain ⟨x, hx, h⟩ := den_ptr h; cases h; done)
    | (obtain ⟨x, hx, h, _⟩ := den_sl h; cases h; done)
    | (obtain ⟨x, hx, h, _⟩ := den_se h; cases h; done)
    | (obtain ⟨x, hx, h⟩ := den_map h; cases h; done)
    | (obtain ⟨x, hx, h⟩ := den_iface h; cases h; done)
    | (obtain ⟨x, hx, h⟩ := den_agg h; cases h; done)
    | (obtain ⟨x, hx, h⟩ := den_tup h; cases h; done))
  · simp only [den] at h; cases h; rfl
  · rename_i f a b
    simp only [den] at h
    cases f <;> (simp only at h; split at h <;> cases h)
  · simp only [den] at h; exact absurd (Option.some.inj h) (LoopOk.nobool _ _)

def RlRel (dr : Bool) (I : IM) (f : Nat → Option O) (π : Nat → Nat × Obj) (rl : List (Nat × Option Nat)) (Rl : List (Nat × (Nat × Obj))) : Prop :=
  dr = true → ∀ e ∈ Rl, I e.2.1 = some e.2.2 ∨ ∃ n, (e.1, n) ∈ rl ∧ ∀ b, n = some b → f b ≠ none ∧ e.2 = π b

def FAok (P : Program) (cF : Fn → List V → List V → T O → Nat → R) (I : IM) : Prop :=
  ∀ (fn : Fn) (args capt : List V) (h : T O) (nx : Nat) (v : V) (h' : T O) (nx' : Nat) (σ : Sg) (π : Nat → Nat × Obj) (own : HL) (fn' : Value) (args' : List Value), cF fn args capt h nx = some (v, h', nx') →
      Sc σ nx → HR σ h.get π own → den σ (.func fn [] capt) = some fn' → denL σ args = some args' →
      EffT P (Deferred.ofValue fn' args'.toArray >>= fun d => invoke d.target d.args) I own (Rq σ nx h.get π v h'.get nx')

section
variable {P : Program} {ops : Array Oper}

theorem runOps_nil {cx : Cx} {rl : List (Nat × Option Nat)} {s : S} : runOps cx [] rl s = some s := rfl
theorem runOps_cons {cx : Cx} {p : Pr} {l : List Pr} {rl : List (Nat × Option Nat)} {s : S} : runOps cx (p :: l) rl s =
    bif wantV p.guard s.e then nxtOp p (runOps cx l) rl s.e (onOp (hidOf p.mask rl) p.hw cx s.e s.h s.nx) else runOps cx l rl ⟨putE p.dst u0 s.e, s.h, s.nx⟩ := by
  rw [← bool_rec]; rfl

theorem want_ok {σ : Sg} {e : T V} {ρ : Env} (hE : ER σ e ρ) (o : Oper) : wantV (gdOf ops o.guard) e = wantedE ops ρ o := by
  unfold wantedE Region.wanted gdOf
  cases hg : o.guard with
  | none => rfl
  | some g =>
    obtain ⟨j, b⟩ := g
    simp only [yieldedE]
    cases hj : ops[j]? with
    | none => rfl
    | some oj =>
      simp only [Option.bind_some]
      cases hd : oj.dst with
      | none => rfl
      | some d =>
        simp only [wantV]
        have h := hE d
        unfold slot at h
        cases hv : e.get d with
        | none =>
          rw [hv] at h
          simp only [den, denL] at h
          rw [← Option.some.inj h]
          rfl
        | some v =>
          rw [hv] at h
          cases v with
          | bool c =>
            rw [den_bool h]
            cases c <;> cases b <;> rfl
          | _ =>
            have key : ∀ c, ρ d ≠ .bool c := fun c hc => by
              rw [hc] at h
              have := den_bool_inv h
              cases this
            generalize ρ d = x at key
            cases x <;> first | rfl | exact absurd rfl (key _)

theorem runOps_ok {bs : List Nat} {K : Env → IM → HL → Prop} {PK : List PanicEntry → IM → HL → Prop} {cx : Cx} {dr : Bool} {msl : List Nat} {ord : Nat → Nat → Bool} {F : HL} {I0 : IM}
    (hbs : bs = bsOf P ops) (hcv : cvOk P ops = true) (hord : ord = if dr then ordM msl else fun _ _ => true) (hP : cx.P = P)
    (hor : OrOk P cx) (hgl : ∀ I, I0.le I → GLok cx.gl I) (hfa : ∀ I, I0.le I → FAok P cx.callF I) :
    ∀ (is : List Nat) (hlt : ∀ i ∈ is, i < ops.size) {rl : List (Nat × Option Nat)} {s s' : S} {Rl : List (Nat × (Nat × Obj))} {ρ : Env} {I : IM} {σ : Sg} {π : Nat → Nat × Obj} {own : HL},
      runOps cx (is.flatMap (prep ops (if dr then some msl else none) bs)) rl s = some s' → ER σ s.e ρ → Sc σ s.nx → HR σ s.h.get π own → RlRel dr I s.h.get π rl Rl → I0.le I →
      (∀ σ' π' own' I' ρ', ER σ' s'.e ρ' → σ.le σ' → Sc σ' s'.nx → HR σ' s'.h.get π' own' → I.le I' → Ext false σ s.h.get s'.h.get π π' → K ρ' I' (own' ++ F)) →
      DX P ops bs ord K PK Rl is ρ I (own ++ F) := by
  intro is
  induction is with
  | nil =>
    intro hlt rl s s' Rl ρ I σ π own hr hE hs hh hrl hI k
    cases hr
    exact .nil (.refl _) (k σ π own I ρ hE (.refl _) hs hh (.refl _) (.refl _ _ _ _))
  | cons i is ih =>
    intro hlt rl s s' Rl ρ I σ π own hr hE hs hh hrl hI k
    have hi := hlt i List.mem_cons_self
    have ho : ops[i]? = some ops[i] := Array.getElem?_eq_getElem hi
    have hlt' : ∀ j ∈ is, j < ops.size := fun j hj => hlt j (List.mem_cons_of_mem _ hj)
    simp only [List.flatMap_cons, prep, ho, List.singleton_append] at hr
    rw [runOps_cons] at hr
    simp only at hr
    rw [want_ok hE] at hr
    generalize hoo : ops[i] = o at *
    cases hw : wantedE ops ρ o with
    | false =>
      rw [hw] at hr
      simp only [cond_false] at hr
      refine .skip ho hw ?_
      exact ih hlt' hr (hE.put rfl _) hs hh hrl hI k
    | true =>
      rw [hw] at hr
      simp only [cond_true] at hr
      have hok : opOk P bs o.op = true := by
        rw [hbs]
        have hm : o ∈ ops.toList := Array.mem_toList_iff.2 (Array.mem_of_getElem? ho)
        exact List.all_eq_true.1 hcv o hm
      obtain ⟨dst, op, ty, pos, af, g⟩ := o
      simp only at hr hok
      generalize hmk : mkOf (if dr then some msl else none) (opCls bs op) i = mask at hr
      have hmask : (dr = false → mask = none) ∧ (dr = true → opCls bs op = 2 → mask = some (maskOf msl i)) ∧ (dr = true → opCls bs op ≠ 2 → mask = none) := by
        subst hmk
        refine ⟨fun h => by subst h; rfl, fun h h2 => by subst h; simp [h2, mkOf], fun h h2 => ?_⟩
        subst h
        have : Nat.beq (opCls bs op) 2 = false := by
          cases hb : Nat.beq (opCls bs op) 2 with
          | false => rfl
          | true => exact absurd (Nat.eq_of_beq_eq_true hb) h2
        simp [this, mkOf]
      unfold nxtOp at hr
      split at hr
      · rename_i v h' nx' ld hop
        unfold onOp at hop
        split at hop
        · cases hop
        · rename_i hid hhid
          have go : (opTab op).f cx s.e s.h s.nx = some (v, h', nx', ld) → (∀ b ∈ hid, sameO (s.h.get b) (h'.get b) = true) → DX P ops bs ord K PK Rl (i :: is) ρ I (own ++ F) := by
            intro hf hsame
            have hkeep2 : ∀ {σ' : Sg} {π' : Nat → Nat × Obj} {own' : HL}, σ.le σ' → HR σ' h'.get π' own' → ∀ b ∈ hid, s.h.get b ≠ none → h'.get b ≠ none ∧ π' b = π b := by
              intro σ' π' own' hle hh' b hb hn
              cases hg : s.h.get b with
              | none => exact absurd hg hn
              | some ob =>
                have := sameO_ok (p := π b) (p' := π' b) (hsame b hb) hle hg (hh.at hg) (fun ob' ho' => hh'.at ho')
                exact this
            have hrlok : opCls bs op = 2 → RlR ord Rl i I F (Rq σ s.nx s.h.get π v h'.get nx') := by
              intro hc e he
              cases hdr : dr with
              | false => left; rw [hord, hdr]; rfl
              | true =>
                rcases hrl hdr e he with h | ⟨n, h3, h4⟩
                · exact .inr (.inl h)
                · have hm := hmask.2.1 hdr hc
                  rw [hm] at hhid
                  rcases hidGo_mem hhid _ _ h3 with h5 | ⟨b, h5, h6⟩
                  · left; rw [hord, hdr]; exact h5
                  · obtain ⟨h7, h8⟩ := h4 b h5
                    right; right; right
                    rintro u I' own' ⟨v', σ', π', _, q1, q2, q3, q4, q5⟩
                    obtain ⟨z1, z2⟩ := hkeep2 q1 q4 b h6 h7
                    rw [h8, ← z2]
                    cases hg : h'.get b with
                    | none => exact absurd hg z1
                    | some ob => exact q4.mem hg
            refine opTab_ok op (P := P) ho hw hok hP (hgl I hI) hor (hfa I hI) hf hE hs hh hrlok ?_
            intro σ' π' v' I' own' Rl' hle hs' hv' hh' hext hIle hrn
            refine ih hlt' hr ((hE.mono hle).put hv' _) hs' hh' ?_ (hI.trans hIle) fun σ2 π2 own2 I2 ρ2 c1 c2 c3 c4 c5 c6 => k σ2 π2 own2 I2 ρ2 c1 (hle.trans c2) c3 c4 (hIle.trans c5) (hext.weak.trans hle c6)
            intro hdr e he
            -- which loads still stand
            by_cases hc : opCls bs op = 2
            · have hm := hmask.2.1 hdr hc
              rcases hrn e he with h | h | ⟨b, h3, h4, h5⟩
              · rcases hrl hdr e h with h | ⟨n, h3, h4⟩
                · exact .inl (hIle _ _ h)
                · right
                  rw [hm] at hhid ⊢
                  rcases hidGo_mem hhid _ _ h3 with h5 | ⟨b, h5, h6⟩
                  · refine ⟨none, ?_, fun b hb => by cases hb⟩
                    have : (e.1, (none : Option Nat)) ∈ stale (some (maskOf msl i)) rl := List.mem_map.2 ⟨(e.1, n), h3, by simp only [h5]; rfl⟩
                    unfold addL
                    split
                    · exact List.mem_cons_of_mem _ this
                    · exact this
                  · obtain ⟨h7, h8⟩ := h4 b h5
                    by_cases ht : Nat.testBit (maskOf msl i) e.1 = true
                    · refine ⟨none, ?_, fun b hb => by cases hb⟩
                      have : (e.1, (none : Option Nat)) ∈ stale (some (maskOf msl i)) rl := List.mem_map.2 ⟨(e.1, n), h3, by simp only [ht]; rfl⟩
                      unfold addL
                      split
                      · exact List.mem_cons_of_mem _ this
                      · exact this
                    · refine ⟨some b, ?_, fun b' hb' => ?_⟩
                      · have ht : Nat.testBit (maskOf msl i) e.1 = false := by simpa using ht
                        have : (e.1, some b) ∈ stale (some (maskOf msl i)) rl := List.mem_map.2 ⟨(e.1, n), h3, by simp only [ht]; rw [h5]; rfl⟩
                        unfold addL
                        split
                        · exact List.mem_cons_of_mem _ this
                        · exact this
                      · cases hb'
                        obtain ⟨z1, z2⟩ := hkeep2 hle hh' b h6 h7
                        exact ⟨z1, by rw [h8, z2]⟩
              · exact .inl h
              · right
                refine ⟨none, ?_, fun b hb => by cases hb⟩
                rw [hm, h3, h5]
                exact List.mem_cons_self
            · have hm := hmask.2.2 hdr hc
              rw [hm] at hhid ⊢
              cases hhid
              have hq : (!(Nat.beq (opCls bs op) 2)) = true := by
                cases hb : Nat.beq (opCls bs op) 2 with
                | false => rfl
                | true => exact absurd (Nat.eq_of_beq_eq_true hb) hc
              have hkeep : ∀ b, s.h.get b ≠ none → h'.get b ≠ none ∧ π' b = π b := hext.2 hq
              rcases hrn e he with h | h | ⟨b, h3, h4, h5⟩
              · rcases hrl hdr e h with h | ⟨n, h3, h4⟩
                · exact .inl (hIle _ _ h)
                · right
                  refine ⟨n, ?_, fun b hb => ?_⟩
                  · unfold addL stale
                    split
                    · exact List.mem_cons_of_mem _ h3
                    · exact h3
                  · obtain ⟨h7, h8⟩ := h4 b hb
                    obtain ⟨a1, a2⟩ := hkeep b h7
                    exact ⟨a1, by rw [h8, a2]⟩
              · exact .inl h
              · right
                subst h5
                obtain ⟨a1, a2⟩ := hkeep b h4
                refine ⟨some b, ?_, fun b' hb' => ?_⟩
                · rw [h3]; exact List.mem_cons_self
                · cases hb'; exact ⟨a1, a2.symm⟩
          split at hop
          · exact go hop (fun b hb => by cases hb)
          · rename_i hid' hne
            split at hop
            · rename_i v0 hx nx0 ld0 hf
              cases hall : (hid.all fun b => sameO (s.h.get b) (hx.get b)) with
              | false => rw [hall] at hop; cases hop
              | true =>
                rw [hall] at hop
                cases hop
                exact go hf (fun b hb => List.all_eq_true.1 hall b hb)
            · cases hop
      · cases hr
end
end Go.Proofs.Zz

namespace Go.Proofs.Zz
open Go
variable [LoopOk]

section
variable {P : Program} {r : Option Nat} {N : Nat} {W : Nat → Bool} {Q Q' : Post} {ρ : Env} {I : IM} {H : HL}

theorem D.monoI {c : Code} (h : D P r N W c Q ρ I H) (hq : ∀ e ρ' I' H', I.le I' → Q e ρ' I' H' → Q' e ρ' I' H') : D P r N W c Q' ρ I H :=
  fun w0 w F ms dt a ha hs hd hst => wpIn_mono (h w0 w F ms dt a ha hs hd hst) fun _ _ _ ⟨I', H', ms', h1, h2, h3, h4, h5, h6⟩ => ⟨I', H', ms', h1, h2, h3, h4, h5, hq _ _ _ _ h1 h6⟩

/-- A loop of at most so many rounds. -/
def DR (P : Program) (r : Option Nat) (N : Nat) (W : Nat → Bool) (c : Code) (Q : Post) : Nat → Env → IM → HL → Prop
  | 0, _, _, _ => False
  | m + 1, ρ, I, H => D P r N W c (thn (DR P r N W c Q m) Q) ρ I H

theorem DR.loop {c : Code} : ∀ {m : Nat} {ρ : Env} {I : IM} {H : HL}, DR P r N W c Q m ρ I H → D P r N W (.loop c) Q ρ I H := by
  intro m ρ I H h w0 w F ms dt a ha hs hd hst
  refine wpIn_loop_rounds m ?_
  have key : ∀ (m : Nat) (ρ' : Env) (I' : IM) (H' : HL) (ms' : List Nat) (a' : Act) (w' : World), DR P r N W c Q m ρ' I' H' → I.le I' → a'.tmps.size = N → a'.defers = ms'.map mark ++ dt → envA a' = ρ' → (∀ t, W t = false → envA a' t = ρ t) → St w0 I' (H' ++ (dm ms' ++ F)) w' →
      Code.roundsIn (fence r) 0 P c (fun e a' w' => ∃ I' H' ms', I.le I' ∧ a'.tmps.size = N ∧ a'.defers = ms'.map mark ++ dt ∧ (∀ t, W t = false → envA a' t = ρ t) ∧ St w0 I' (H' ++ (dm ms' ++ F)) w' ∧ Q e (envA a') I' H') m a' w' := by
    intro m
    induction m with
    | zero => intro _ _ _ _ _ _ h; exact h.elim
    | succ m ih =>
      intro ρ' I' H' ms' a' w' h hle hs hd ha hf hst
      rw [roundsIn_succ]
      refine wpIn_mono (h w0 w' F ms' dt a' ha hs hd hst) ?_
      rintro e a2 w2 ⟨I2, H2, ms2, h1, h2, h3, h4, h5, h6⟩
      have hf2 : ∀ t, W t = false → envA a2 t = ρ t := fun t ht => (h4 t ht).trans (by rw [← ha]; exact hf t ht)
      cases e with
      | normal => exact ih _ I2 H2 ms2 a2 w2 h6 (hle.trans h1) h2 h3 rfl hf2 h5
      | exit id => exact ⟨I2, H2, ms2, hle.trans h1, h2, h3, hf2, h5, h6⟩
      | goto l => exact ⟨I2, H2, ms2, hle.trans h1, h2, h3, hf2, h5, h6⟩
      | ret => exact ⟨I2, H2, ms2, hle.trans h1, h2, h3, hf2, h5, h6⟩
      | panic ch => exact ⟨I2, H2, ms2, hle.trans h1, h2, h3, hf2, h5, h6⟩
      | outgrown => exact ⟨I2, H2, ms2, hle.trans h1, h2, h3, hf2, h5, h6⟩
  exact key m ρ I H ms a w h (.refl _) hs hd ha (fun t _ => by rw [ha]) hst
end

def exX : Ex → Exit
  | .normal => .normal
  | .exit i => .exit i
  | .ret => .ret
  | .goto l => .goto l

def EvQ (σ : Sg) (f : Nat → Option O) (π : Nat → Nat × Obj) (I0 : IM) (x : Ex) (s' : S) : Post := fun e ρ' I' H' =>
  e = exX x ∧ ∃ σ' π', ER σ' s'.e ρ' ∧ σ.le σ' ∧ Sc σ' s'.nx ∧ HR σ' s'.h.get π' H' ∧ Ext false σ f s'.h.get π π' ∧ I0.le I'

theorem EvQ.trans {σ σ1 : Sg} {f f1 : Nat → Option O} {π π1 : Nat → Nat × Obj} {I I1 : IM} {x : Ex} {s' : S} {e : Exit} {ρ' : Env} {I' : IM} {H' : HL} (hle : σ.le σ1) (hx : Ext false σ f f1 π π1) (hI : I.le I1) (h : EvQ σ1 f1 π1 I1 x s' e ρ' I' H') : EvQ σ f π I x s' e ρ' I' H' := by
  obtain ⟨h1, σ', π', h2, h3, h4, h5, h6, h7⟩ := h
  exact ⟨h1, σ', π', h2, hle.trans h3, h4, h5, hx.trans hle h6, hI.trans h7⟩

def EvGood (P : Program) (Ib : IM) (self : Ev) : Prop := ∀ {N : Nat} {r r' : Option Nat} {c : Code} {s : S} {x : Ex} {s' : S} {σ : Sg} {π : Nat → Nat × Obj} {ρ : Env} {I : IM} {H : HL},
  self N r c s = some (x, s') → (r = none → r' = none) → okCode P N c = true → ER σ s.e ρ → Sc σ s.nx → HR σ s.h.get π H → Ib.le I → D P r' N allW c (EvQ σ s.h.get π I x s') ρ I H

/-- The functions for which other code stands. -/
def AltGood (P : Program) (B : Bx) (Ib : IM) (self : Ev) : Prop := ∀ (k : FuncId) (c : Code), B.alt k = some c → ∀ {args : List V} {h h' : T O} {nx nx' : Nat} {v : V} {σ : Sg} {π : Nat → Nat × Obj} {own : HL} {args' : List Value} {I : IM},
  callBody P B self k args h nx = some (v, h', nx') → Sc σ nx → HR σ h.get π own → denL σ args = some args' → Ib.le I → Call P k args'.toArray I own (Rq σ nx h.get π v h'.get nx')

structure BxOk (P : Program) (B : Bx) (Ib : IM) : Prop where
  gl : GLok B.gl Ib
  orc : ∀ cF, OrOk P ⟨P, B.gl, B.orc, B.orl, cF⟩
  kn : ∀ (I : IM), Ib.le I → ∀ (k : FuncId) (args : List V) (h : T O) (nx : Nat) (v : V) (h' : T O) (nx' : Nat) (σ : Sg) (π : Nat → Nat × Obj) (own : HL) (args' : List Value), B.kn k args h nx = some (some (v, h', nx')) →
    Sc σ nx → HR σ h.get π own → denL σ args = some args' → EffT P (callFunc k args'.toArray) I own (Rq σ nx h.get π v h'.get nx')
  ok : ∀ (k : FuncId) (fn : Func) (c : Code), fI P k = some fn → B.ok k = true → B.alt k = none → fn.body = some c → okCode P fn.ntmps c = true ∧ (fn.name == "runtime.NumGoroutine") = false
  alt : ∀ m, (∀ j, j ≤ m → EvGood P Ib (ev P B j)) → AltGood P B Ib (ev P B m)
  mixed : P.follows .mixedOrders = true
  loop : ∀ N as bd, LoopOk.ok N as bd ↔ okCode P N as = true ∧ okCode P N bd = true

section
variable {P : Program} {B : Bx} {Ib : IM}

theorem GLok.mono {gl : Nat → Option (List V)} {I J : IM} (h : GLok gl I) (hle : I.le J) : GLok gl J := fun g l hg => by
  obtain ⟨cs, e, fr, h1, h2⟩ := h g l hg
  exact ⟨cs, e, fr, hle _ _ h1, h2⟩

theorem envOf_slot : ∀ (l : List V) (i : Nat) (e : T V) (t : Nat), slot (envOf i l e) t = if i ≤ t then (match l[t - i]? with | some v => v | none => slot e t) else slot e t
  | [], i, e, t => by simp [envOf]
  | v :: l, i, e, t => by
    rw [envOf, envOf_slot l, slot_set]
    by_cases h : i ≤ t
    · by_cases h2 : t = i
      · subst h2
        have : ¬ t + 1 ≤ t := by omega
        simp [this]
      · have h3 : i + 1 ≤ t := by omega
        have hb : Nat.beq t i = false := by
          cases hb : Nat.beq t i with
          | false => rfl
          | true => exact absurd (Nat.eq_of_beq_eq_true hb) h2
        have h4 : t - i = (t - (i + 1)) + 1 := by omega
        simp only [h, h3, if_true, hb, cond_false, h4, List.getElem?_cons_succ]
    · have h3 : ¬ i + 1 ≤ t := by omega
      have hb : Nat.beq t i = false := by
        cases hb : Nat.beq t i with
        | false => rfl
        | true => have := Nat.eq_of_beq_eq_true hb; omega
      simp [h, h3, hb]

theorem ER.args {σ : Sg} {args : List V} {args' : List Value} (h : denL σ args = some args') : ER σ (envOf 0 args .lf) (env0 args'.toArray) := by
  intro t
  rw [envOf_slot]
  simp only [Nat.zero_le, if_true, Nat.sub_zero]
  have hl := denL_length h
  cases hg : args[t]? with
  | some v =>
    obtain ⟨v', h1, h2⟩ := denL_get h hg
    simp only [h2, env0, Array.getD_eq_getD_getElem?, List.getElem?_toArray, h1]
    rfl
  | none =>
    have : args'[t]? = none := by rw [List.getElem?_eq_none_iff] at hg ⊢; omega
    simp only [env0, Array.getD_eq_getD_getElem?, List.getElem?_toArray, this]
    simp [slot, T.get_lf, den, denL, undef]

theorem resV_at {σ : Sg} {s : S} {ρ : Env} {π : Nat → Nat × Obj} {own : HL} (hE : ER σ s.e ρ) (hh : HR σ s.h.get π own) {x : ResultVar} {v : V} (hv : resV P s x = some v) :
    ∃ v', den σ v = some v' ∧ match x with
      | .tmp t => ρ t = v'
      | .cell b t => ∃ ad, ρ b = .pointer (some ad) ∧ ∀ w, Lies s.h.get π w → (loadVar t ad).run P w = .ok v' w := by
  cases x with
  | tmp t => exact ⟨_, hE.op (show evO s.e (.tmp t) = some v from hv), rfl⟩
  | cell b t =>
    simp only [resV] at hv
    split at hv
    · rename_i bb off hb
      obtain ⟨y, hy, p1⟩ := den_ptr (hE.op hb)
      have p1 : ρ b = .pointer (some ⟨y.1, off, none⟩) := p1
      unfold kn? at hv
      cases hg : s.h.get bb with
      | none => rw [hg] at hv; unfold ldV at hv; cases hxl : xL P t <;> rw [hxl] at hv <;> cases hv
      | some ob =>
        rw [hg] at hv
        simp only at hv
        cases hk : ob.known with
        | none => rw [hk] at hv; unfold ldV at hv; cases hxl : xL P t <;> rw [hxl] at hv <;> cases hv
        | some cs =>
          rw [hk] at hv
          obtain ⟨cs', rest, el, fr, q1, q2⟩ := known_ok (hh.at hg) hk
          obtain ⟨agg, sz, v', q3, q4, q5⟩ := ldV_ok hv q1 rest
          have hblk := (hh.at hg).blk hy
          refine ⟨v', q5, _, p1, fun w hW => ?_⟩
          have hw' := hW _ _ hg
          rw [q2, ← hblk] at hw'
          exact run_loadVar q3 hw' q4
    · cases hv

theorem resV_den {σ : Sg} {s : S} {ρ : Env} {π : Nat → Nat × Obj} {own : HL} (hE : ER σ s.e ρ) (hh : HR σ s.h.get π own) : ∀ {rs : List ResultVar} {l : List V}, optL (resV P s) rs = some l → ∃ l', denL σ l = some l' ∧
    ∀ (g : ResultVar → Sem Value) (w : World), Lies s.h.get π w → (∀ t, g (.tmp t) = Sem.pure (ρ t)) → (∀ b t, g (.cell b t) = (asAddr (ρ b) >>= fun x => loadVar t x)) → (rs.mapM g).run P w = .ok l' w
  | [], l, h => by cases h; exact ⟨[], rfl, fun g w _ _ _ => rfl⟩
  | x :: rs, l, h => by
    rw [optL] at h
    split at h
    · rename_i v hv
      split at h
      · rename_i l2 hl2
        cases h
        obtain ⟨l', h1, h2⟩ := resV_den hE hh hl2
        obtain ⟨v', h3, h4⟩ := resV_at (P := P) hE hh hv
        refine ⟨v' :: l', denL_mk h3 h1, fun g w hW g1 g2 => ?_⟩
        have hx : (g x).run P w = .ok v' w := by
          cases x with
          | tmp t => rw [g1, show ρ t = v' from h4]; rfl
          | cell b t =>
            obtain ⟨ad, h5, h6⟩ := h4
            rw [g2, h5, run_bind_ok (a := ad) (w' := w) rfl]
            exact h6 w hW
        rw [List.mapM_cons, run_bind_ok hx, run_bind_ok (h2 g w hW g1 g2)]
        rfl
      · cases h
    · cases h

def resOf : List V → V
  | [v] => v
  | l => .tup l
theorem Results.of {σ : Sg} {s : S} {ρ : Env} {I : IM} {π : Nat → Nat × Obj} {own : HL} {fn : Func} {l : List V} (hE : ER σ s.e ρ) (hh : HR σ s.h.get π own) (h : optL (resV P s) fn.results.toList = some l) : ∃ v', den σ (resOf l) = some v' ∧ Results P fn ρ I own v' := by
  obtain ⟨l', h1, h2⟩ := resV_den (P := P) hE hh h
  have h2 : ∀ w0 w F (a : Act), envA a = ρ → St w0 I (own ++ F) w → (results fn a.tmps).run P w = .ok (if h : l'.length = 1 then l'[0] else .tuple l'.toArray) w := by
    intro w0 w F a ha hst
    subst ha
    unfold results
    rw [Array.mapM_eq_mapM_toList]
    generalize hg : (fun (x : ResultVar) => _ : ResultVar → Sem Value) = g
    have := h2 g w (fun b o hb => hst.own _ (List.mem_append_left _ (hh.mem hb))) (fun t => by rw [← hg]; rfl) (fun b t => by rw [← hg]; rfl)
    show ((List.mapM g fn.results.toList >>= fun l => Pure.pure l.toArray : Sem (Array Value)) >>= _).run P w = _
    rw [run_bind_ok (a := l'.toArray) (w' := w) (by rw [run_bind_ok this]; rfl)]
    simp only [List.size_toArray, List.getElem_toArray]
    rfl
  have hl := denL_length h1
  by_cases h3 : l.length = 1
  · obtain ⟨v, rfl⟩ := List.length_eq_one_iff.1 h3
    obtain ⟨v', hv, rfl⟩ := denL_1 h1
    exact ⟨v', hv, fun w0 w F a ha hst => by rw [h2 w0 w F a ha hst]; rfl⟩
  · refine ⟨.tuple l'.toArray, ?_, fun w0 w F a ha hst => by rw [h2 w0 w F a ha hst, dif_neg (by omega)]⟩
    have : resOf l = .tup l := by
      unfold resOf
      split
      · simp at h3
      · rfl
    rw [this]
    simp only [den, h1]

theorem callBody_ok (hB : BxOk P B Ib) {self : Ev} (hS : EvGood P Ib self) (hA : AltGood P B Ib self) {k : FuncId} {args : List V} {h h' : T O} {nx nx' : Nat} {v : V} {σ : Sg} {π : Nat → Nat × Obj} {own : HL} {args' : List Value} {I : IM}
    (hr : callBody P B self k args h nx = some (v, h', nx')) (hs : Sc σ nx) (hh : HR σ h.get π own) (hd : denL σ args = some args') (hI : Ib.le I) : Call P k args'.toArray I own (Rq σ nx h.get π v h'.get nx') := by
  cases halt : B.alt k with
  | some c => exact hA k c halt hr hs hh hd hI
  | none =>
  unfold callBody at hr
  split at hr
  · rename_i fn hfn
    cases hok : B.ok k with
    | false => rw [hok] at hr; cases hr
    | true =>
      rw [hok] at hr
      simp only [cond_true, bodyOf, halt] at hr
      split at hr
      · rename_i c hc
        obtain ⟨hoc, hnm⟩ := hB.ok k fn c hfn hok halt hc
        have hgo : GoFn P k fn c := ⟨by have := mkT_at hfn; simpa using this, hc, hnm⟩
        cases hle : Nat.ble args.length fn.ntmps with
        | false => rw [hle] at hr; cases hr
        | true =>
          rw [hle] at hr
          simp only [cond_true] at hr
          have hle := Nat.le_of_ble_eq_true hle
          have hl := denL_length hd
          unfold finF at hr
          split at hr
          · rename_i x s' hself
            refine Call.of_body hgo (by simp; omega) ?_
            have hD := hS (r' := none) (ρ := env0 args'.toArray) hself (fun _ => rfl) hoc (ER.args hd) hs hh hI
            refine D.monoI hD ?_
            rintro e ρ' I' H' hII ⟨rfl, σ', π', g1, g2, g3, g4, g5, g6⟩
            have fin : ∀ (l : List V), optL (resV P s') fn.results.toList = some l → v = resOf l → h' = s'.h → nx' = s'.nx → ∃ v' I2 H2, Results P fn ρ' I' H' v' ∧ Gh I' H' I2 H2 ∧ Rq σ nx h.get π v h'.get nx' (.ret v') I2 H2 := by
              intro l hl hv hh' hnx
              subst hv hh' hnx
              obtain ⟨v', q1, q2⟩ := Results.of (P := P) (I := I') g1 g4 hl
              exact ⟨v', I', H', q2, Gh.refl _ _, v', σ', π', rfl, g2, g3, q1, g4, g5⟩
            have fin2 : (match optL (resV P s') fn.results.toList with
                | some [v] => some (v, s'.h, s'.nx)
                | some l => some (.tup l, s'.h, s'.nx)
                | none => none : R) = some (v, h', nx') → ∃ v' I2 H2, Results P fn ρ' I' H' v' ∧ Gh I' H' I2 H2 ∧ Rq σ nx h.get π v h'.get nx' (.ret v') I2 H2 := by
              intro he
              split at he
              · rename_i u hu
                cases he
                exact fin _ hu rfl rfl rfl
              · rename_i l hne hu
                cases he
                refine fin _ hu ?_ rfl rfl
                unfold resOf
                split
                · exact absurd rfl (hne _)
                · rfl
              · cases he
            cases x with
            | normal => exact fin2 hr
            | ret => exact fin2 hr
            | exit id => cases hr
            | goto l => cases hr
          · cases hr
      · cases hr
  · cases hr
end
end Go.Proofs.Zz

namespace Go.Proofs.Zz
open Go
variable [LoopOk]
section
variable {P : Program} {B : Bx} {Ib : IM}

theorem callFn_ok (hB : BxOk P B Ib) {self : Ev} (hS : EvGood P Ib self) (hA : AltGood P B Ib self) {k : FuncId} {args capt : List V} {h h' : T O} {nx nx' : Nat} {v : V} {σ : Sg} {π : Nat → Nat × Obj} {own : HL} {args' capt' : List Value} {I : IM}
    (hr : callAny P B self (.func k) args capt h nx = some (v, h', nx')) (hs : Sc σ nx) (hh : HR σ h.get π own) (hd : denL σ args = some args') (hc : denL σ capt = some capt') (hI : Ib.le I) :
    EffT P (callFunc k (args' ++ capt').toArray) I own (Rq σ nx h.get π v h'.get nx') := by
  simp only [callAny] at hr
  have hdc := denL_append hd hc
  split at hr
  · rename_i r hk
    subst hr
    exact hB.kn I hI k _ h nx v h' nx' σ π own _ hk hs hh hdc
  · exact EffT.call (callBody_ok hB hS hA hr hs hh hdc hI)

theorem OR.lp {σ : Sg} {k : Nat} {st : LoopState} {pend : Option Code} {N : Nat} {e : T V} {ps : List Nat} {as bd : Code} {p : Nat × Obj} (h : OR σ k (.loop st pend N e ps as bd) p) :
    ∃ c fn tmps dm, σ k = some (p.1, c) ∧ p.2 = .loop { state := st, pending := pend, fn := fn, tmps := tmps, params := ps.toArray, assign := as, body := bd, defers := dm } ∧ tmps.size = N ∧ ER σ e (fun t => tmps.getD t undef) ∧ LoopOk.ok N as bd := by
  obtain ⟨c, h1, fn, tmps, dm, h2, h3, h4, h5⟩ := h
  exact ⟨c, fn, tmps, dm, h1, h2, h3, h4, h5⟩

theorem run_getLoop {w : World} {l : Nat} {lp : Loop} (h : w.heap[l]? = some (.loop lp)) : (Instr.getLoop l).run P w = .ok lp w := by
  unfold Instr.getLoop
  rw [run_bind_ok (run_getObj h)]
  rfl

theorem bind_ok {σ : Sg} : ∀ {ps : List Nat} {args : List V} {e : T V} {args' : List Value} {tmps : Array Value}, denL σ args = some args' → ps.length = args.length → ER σ e (fun t => tmps.getD t undef) → (∀ p ∈ ps, p < tmps.size) →
    ER σ (bindE ps args e) (fun t => ((ps.zip args').foldl (fun (tm : Array Value) x => tm.setIfInBounds x.1 x.2) tmps).getD t undef) ∧ ((ps.zip args').foldl (fun (tm : Array Value) x => tm.setIfInBounds x.1 x.2) tmps).size = tmps.size
  | [], args, e, args', tmps, h, hl, hE, hp => ⟨by cases args <;> simpa [bindE] using hE, by simp⟩
  | p :: ps, [], e, args', tmps, h, hl, hE, hp => by simp at hl
  | p :: ps, v :: vs, e, args', tmps, h, hl, hE, hp => by
    obtain ⟨v', t', h1, h2, rfl⟩ := denL_cons h
    have hE2 : ER σ (e.set p v) (fun t => (tmps.setIfInBounds p v').getD t undef) := by
      intro t
      rw [slot_set]
      have hps := hp p List.mem_cons_self
      cases hb : Nat.beq t p with
      | true =>
        have := Nat.eq_of_beq_eq_true hb
        subst this
        simp [hps, h1]
      | false =>
        have hne := Nat.ne_of_beq_eq_false hb
        have := hE t
        simp only [cond_false, Array.getD_eq_getD_getElem?, Array.getElem?_setIfInBounds, Ne.symm hne, if_false] at this ⊢
        exact this
    obtain ⟨a1, a2⟩ := bind_ok (ps := ps) (args := vs) (e := e.set p v) h2 (by simpa using hl) hE2 (fun q hq => by simpa using hp q (List.mem_cons_of_mem _ hq))
    exact ⟨by simpa [bindE] using a1, by simpa using a2⟩

theorem ps_lt {ps : List Nat} {N : Nat} (h : ps.all (fun p => Nat.blt p N) = true) : ∀ p ∈ ps, p < N := fun p hp => bltLt (List.all_eq_true.1 h p hp)

theorem run_beginRound {w : World} {l : Nat} {lp : Loop} (h : w.heap[l]? = some (.loop lp)) (hr : lp.state = .ready) : (Instr.beginRound l).run P w = .ok () { w with heap := w.heap.setIfInBounds l (.loop { lp with state := .busy }) } := by
  unfold Instr.beginRound
  rw [run_bind_ok (run_getLoop h), run_bind_ok (run_setObj h), hr]
  rfl
theorem run_endRound {w : World} {l : Nat} {lp : Loop} {j : Option Code} (h : w.heap[l]? = some (.loop lp)) : (Instr.endRound l j).run P w = .ok (.bool j.isNone) { w with heap := w.heap.setIfInBounds l (.loop { lp with state := if j.isNone then .ready else .done, pending := j }) } := by
  unfold Instr.endRound
  rw [run_bind_ok (run_getLoop h), run_bind_ok (run_setObj h)]
  rfl
theorem run_endLoop {w : World} {l : Nat} {lp : Loop} (h : w.heap[l]? = some (.loop lp)) (hr : lp.state ≠ .busy) : (Instr.endLoop l).run P w = .ok lp.pending { w with heap := w.heap.setIfInBounds l (.loop { lp with state := .exhausted }) } := by
  unfold Instr.endLoop
  rw [run_bind_ok (run_getLoop h)]
  have : (lp.state == .busy) = false := by cases hs : lp.state <;> first | rfl | exact absurd hs hr
  simp only [this, Bool.false_eq_true, if_false]
  rw [run_bind_ok (run_setObj h)]
  rfl

theorem run_yield {w : World} {l : Nat} {lp : Loop} {args : List Value} (h : w.heap[l]? = some (.loop lp)) (hs : args.length = lp.params.size) :
    (Instr.yield l args.toArray).run P w = .ok (.round l lp.fn ((lp.params.toList.zip args).foldl (fun (tm : Array Value) x => tm.setIfInBounds x.1 x.2) lp.tmps) lp.assign lp.body) w := by
  unfold Instr.yield
  rw [run_bind_ok (run_getLoop h)]
  have : ¬ (args.toArray.size ≠ lp.params.size) := by simp [hs]
  rw [if_neg this]
  have e : Array.foldl (fun (tmps : Array Value) (x : Tmp × Value) => tmps.setIfInBounds x.1 x.2) lp.tmps (lp.params.zip args.toArray) = ((lp.params.toList.zip args).foldl (fun (tm : Array Value) x => tm.setIfInBounds x.1 x.2) lp.tmps) := by
    rw [← Array.foldl_toList, Array.toList_zip]
  rw [← e]
  rfl

theorem Ext.set2 {σ : Sg} {k : Nat} {f : Nat → Option O} {π : Nat → Nat × Obj} {o' : O} (hk : f k = some o') (o : O) (p : Nat × Obj) : Ext false σ f (upF f k (some o)) π (upF π k p) := Ext.set hk o p

theorem callY_ok (hB : BxOk P B Ib) {self : Ev} (hS : EvGood P Ib self) {l : Nat} {args : List V} {h h' : T O} {nx nx' : Nat} {v : V} {σ : Sg} {π : Nat → Nat × Obj} {own : HL} {args' : List Value} {I : IM} {y : Nat × Nat}
    (hr : callY self l args h nx = some (v, h', nx')) (hs : Sc σ nx) (hh : HR σ h.get π own) (hd : denL σ args = some args') (hy : σ l = some y) (hI : Ib.le I) :
    EffT P (Instr.yield y.1 args'.toArray) I own (Rq σ nx h.get π v h'.get nx') := by
  unfold callY at hr
  split at hr
  · rename_i N e ps as bd hl
    cases hc : (Nat.beq ps.length args.length && ps.all (fun p => Nat.blt p N)) with
    | false => rw [hc] at hr; cases hr
    | true =>
      rw [hc] at hr
      simp only [cond_true] at hr
      simp only [Bool.and_eq_true] at hc
      have hpl := Nat.eq_of_beq_eq_true hc.1
      obtain ⟨c, fn, tmps, dm0, o1, o2, o3, o4, o5⟩ := (hh.at hl).lp
      have hblk := (hh.at hl).blk hy
      obtain ⟨ok1, ok2⟩ := (hB.loop N as bd).1 o5
      have hdl := denL_length hd
      subst o3
      obtain ⟨b1, b2⟩ := bind_ok hd hpl o4 (ps_lt hc.2)
      unfold round2 at hr
      split at hr
      · rename_i s1 hself1
        split at hr
        · rename_i N1 e1 ps1 as1 bd1 hl1
          unfold endRd at hr
          split at hr
          · rename_i x2 s2 hself2
            split at hr
            · rename_i pend2 N2 e2 ps2 as2 bd2 hl2
              cases hr
              intro w0 w F hst
              have hw := hst.own _ (List.mem_append_left _ (hh.mem hl))
              rw [o2, ← hblk] at hw
              rw [run_yield hw (by simpa using by omega)]
              show RoundIn Fence.wide 0 P y.1 fn _ as bd w _
              refine roundIn_of_wpIn trivial ?_
              -- the assignments
              have hD1 := hS (r' := some y.1) hself1 (fun e => by cases e) ok1 b1 hs hh hI
              refine wpIn_mono (hD1 w0 w F [] [] { tmps := _, defers := [] } rfl b2 rfl (by simpa [dm] using hst)) ?_
              rintro ex a1 w1 ⟨I1, H1, ms1, g1, g2, g3, -, g5, rfl, σ1, π1, q1, q2, q3, q4, q5, q6⟩
              show ∃ w2, _
              obtain ⟨c1, fn1, tmps1, dm1, p1, p2, p3, p4, p5⟩ := (q4.at hl1).lp
              have hblk1 := (q4.at hl1).blk (q2 _ _ hy)
              obtain ⟨own1, hp1, hh1⟩ := q4.split hl1
              have hst1 := g5.perm (hp1.append_right _)
              have hw1 := hst1.own _ List.mem_cons_self
              rw [p2] at hw1
              refine ⟨_, by rw [hblk1]; exact run_beginRound hw1 rfl, ?_⟩
              -- the body
              have hHR2 : HR σ1 (s1.h.set l (.loop .busy none N1 e1 ps1 as1 bd1)).get (upF π1 l ((π1 l).1, .loop { state := .busy, pending := none, fn := fn1, tmps := tmps1, params := ps1.toArray, assign := as1, body := bd1, defers := dm1 }))
                  (((π1 l).1, .loop { state := .busy, pending := none, fn := fn1, tmps := tmps1, params := ps1.toArray, assign := as1, body := bd1, defers := dm1 }) :: own1) := by
                rw [T.get_set]
                exact HR.set hp1 hh1 ⟨c1, p1, fn1, tmps1, dm1, rfl, p3, p4, p5⟩
              have hD2 := hS (r' := some y.1) (ρ := envA a1) (s := { s1 with h := s1.h.set l (.loop .busy none N1 e1 ps1 as1 bd1) }) hself2 (fun e => by cases e) ok2 q1 q3 hHR2 (hI.trans g1)
              refine wpIn_mono (hD2 w0 _ F ms1 [] a1 rfl g2 g3 hst1.set) ?_
              rintro ex2 a2 w2 ⟨I2, H2, ms2, k1, k2, k3, -, k5, rfl, σ2, π2, r1, r2, r3, r4, r5, r6⟩
              obtain ⟨c2, fn2, tmps2, dm2, t1, t2, t3, t4, t5⟩ := (r4.at hl2).lp
              have hblk2 := (r4.at hl2).blk (r2 _ _ (q2 _ _ hy))
              obtain ⟨own2, hp2, hh2⟩ := r4.split hl2
              have hst2 := k5.perm (hp2.append_right _)
              have hw2 := hst2.own _ List.mem_cons_self
              rw [t2] at hw2
              have hend : ∀ (j : Option Code), j = pendOf x2 → ∃ v' w', (Instr.endRound y.1 j).run P w2 = .ok v' w' ∧ ∃ I' own', I.le I' ∧ St w0 I' (own' ++ F) w' ∧
                  Rq σ nx h.get π (.bool (pendOf x2).isNone) (s2.h.set l (.loop (if (pendOf x2).isNone then .ready else .done) (pendOf x2) N2 e2 ps2 as2 bd2)).get s2.nx (.ret v') I' own' := by
                rintro j rfl
                refine ⟨_, _, by rw [hblk2]; exact run_endRound hw2, I2, ((π2 l).1, .loop { state := if (pendOf x2).isNone then .ready else .done, pending := pendOf x2, fn := fn2, tmps := tmps2, params := ps2.toArray, assign := as2, body := bd2, defers := dm2 }) :: own2, g1.trans k1, ?_, ?_⟩
                · have := hst2.set (ob' := .loop { state := if (pendOf x2).isNone then .ready else .done, pending := pendOf x2, fn := fn2, tmps := tmps2, params := ps2.toArray, assign := as2, body := bd2, defers := dm2 })
                  have hp : ((((π2 l).1, Obj.loop { state := if (pendOf x2).isNone then .ready else .done, pending := pendOf x2, fn := fn2, tmps := tmps2, params := ps2.toArray, assign := as2, body := bd2, defers := dm2 }) :: own2) ++ (dm ms2 ++ F)).Perm (dm ms2 ++ ((((π2 l).1, Obj.loop { state := if (pendOf x2).isNone then .ready else .done, pending := pendOf x2, fn := fn2, tmps := tmps2, params := ps2.toArray, assign := as2, body := bd2, defers := dm2 }) :: own2) ++ F)) := List.perm_append_comm_assoc _ _ _
                  exact St.sub (this.perm hp)
                · rw [T.get_set]
                  refine ⟨_, σ2, _, rfl, q2.trans r2, r3, rfl, HR.set hp2 hh2 ⟨c2, t1, fn2, tmps2, dm2, rfl, t3, t4, t5⟩, ?_⟩
                  refine q5.trans q2 ?_
                  have e1 : Ext false σ1 s1.h.get (s1.h.set l (.loop .busy none N1 e1 ps1 as1 bd1)).get π1 (upF π1 l ((π1 l).1, .loop { state := .busy, pending := none, fn := fn1, tmps := tmps1, params := ps1.toArray, assign := as1, body := bd1, defers := dm1 })) := by
                    rw [T.get_set]; exact Ext.set hl1 _ _
                  exact e1.trans (.refl _) (r5.trans r2 (Ext.set hl2 _ _))
              cases x2 with
              | normal => exact hend none rfl
              | ret => exact hend (some .ret) rfl
              | exit i => exact hend (some (.exit i)) rfl
              | goto t => exact hend (some (.goto t)) rfl
            · cases hr
          · cases hr
        · cases hr
      · cases hr
  · cases hr

theorem callAny_ok (hB : BxOk P B Ib) {self : Ev} (hS : EvGood P Ib self) (hA : AltGood P B Ib self) {I : IM} (hI : Ib.le I) : FAok P (callAny P B self) I := by
  intro fn args capt h nx v h' nx' σ π own fn' args' hr hs hh hdf hda
  cases fn with
  | func k =>
    simp only [den, denL] at hdf
    cases hc : denL σ capt with
    | none => rw [hc] at hdf; cases hdf
    | some capt' =>
      rw [hc] at hdf
      have := Option.some.inj hdf
      subst this
      have := callFn_ok hB hS hA hr hs hh hda hc hI
      have e : (args' ++ capt').toArray = (#[] ++ args'.toArray) ++ capt'.toArray := by apply Array.ext'; simp
      rw [e] at this
      exact this
  | yield l =>
    simp only [den] at hdf
    cases hl : σ l with
    | none => rw [hl] at hdf; cases hdf
    | some y =>
      rw [hl] at hdf
      cases capt with
      | cons _ _ => cases hdf
      | nil =>
        have := Option.some.inj hdf
        subst this
        have := callY_ok hB hS hr hs hh hda hl hI
        have e : args'.toArray = #[] ++ args'.toArray := by simp
        rw [e] at this
        exact this
  | method _ => cases hr
  | methodOf _ _ => cases hr
  | via _ _ _ _ => cases hr
end
end Go.Proofs.Zz

namespace Go.Proofs.Zz
open Go
variable [LoopOk]
section
variable {P : Program} {B : Bx} {Ib : IM}

theorem canon_lt {N : Nat} {W : Nat → Bool} {ops : Array Oper} {bs ms cn : List Nat} (h : calmB P N W ops bs ms cn = true) : ∀ i ∈ cn, i < ops.size := by
  simp only [calmB, Bool.and_eq_true, beq_iff_eq] at h
  obtain ⟨⟨⟨⟨⟨⟨hok, hcert⟩, hpairs⟩, hnd⟩, hlen⟩, hlt⟩, hmem⟩ := h
  exact fun i hi => by simpa using List.all_eq_true.1 hlt i hi

theorem region_ok (hB : BxOk P B Ib) {self : Ev} (hS : EvGood P Ib self) (hA : AltGood P B Ib self) {N id : Nat} {ops : Array Oper} {draw : Bool} {r r' : Option Nat} {s s' : S} {x : Ex} {σ : Sg} {π : Nat → Nat × Obj} {ρ : Env} {I : IM} {H : HL}
    (hr : cReg (Bool.rec (motive := fun _ => Program → List Pr) (fun P => prepN P ops) (fun P => prepD P ops) draw) P B self N r s = some (x, s')) (hok : okCode P N (.region id ops draw) = true)
    (hE : ER σ s.e ρ) (hs : Sc σ s.nx) (hh : HR σ s.h.get π H) (hI : Ib.le I) : D P r' N allW (.region id ops draw) (EvQ σ s.h.get π I x s') ρ I H := by
  unfold cReg regE at hr
  split at hr
  · rename_i s2 hrun
    cases hr
    simp only [okCode, Bool.and_eq_true] at hok
    obtain ⟨hcv, hok⟩ := hok
    have hK : ∀ {ord : Nat → Nat → Bool} (is : List Nat) (msl : List Nat), (ord = if draw then ordM msl else fun _ _ => true) → (∀ i ∈ is, i < ops.size) → runOps ⟨P, B.gl, B.orc, B.orl, callAny P B self⟩ (is.flatMap (prep ops (if draw then some msl else none) (bsOf P ops))) [] s = some s' →
        DX P ops (bsOf P ops) ord (fun ρ I' H => EvQ σ s.h.get π I .normal s' .normal ρ I' H) (fun c I' H => ∀ ρ, EvQ σ s.h.get π I .normal s' (.panic c) ρ I' H) [] is ρ I H := by
      intro ord is msl hord hlt hrun
      have := runOps_ok (P := P) (ops := ops) (bs := bsOf P ops) (ord := ord) (F := []) (I0 := I) (K := fun ρ I' H => EvQ σ s.h.get π I .normal s' .normal ρ I' H) (PK := fun c I' H => ∀ ρ, EvQ σ s.h.get π I .normal s' (.panic c) ρ I' H) (Rl := []) (own := H) rfl hcv (dr := draw) (msl := msl) hord (cx := ⟨P, B.gl, B.orc, B.orl, callAny P B self⟩) rfl
        (hB.orc _) (fun J hJ => hB.gl.mono (hI.trans hJ)) (fun J hJ => callAny_ok hB hS hA (hI.trans hJ)) is hlt hrun hE hs hh (fun _ e he => by cases he) (.refl _)
        (fun σ' π' own' I' ρ' h1 h2 h3 h4 h5 h6 => ⟨rfl, σ', π', h1, h2, h3, by simpa using h4, h6, h5⟩)
      simpa using this
    cases draw with
    | false =>
      exact D.region (bsOf P ops) (List.range ops.size) rfl hok (hK (ord := fun _ _ => true) (List.range ops.size) [] rfl (fun i hi => List.mem_range.1 hi) hrun)
    | true =>
      exact D.regionD hB.mixed (bsOf P ops) (masks ops) (canon ops (bsOf P ops)) hok (hK (ord := ordM (masks ops)) _ (masks ops) rfl (canon_lt hok) hrun)
  · cases hr

theorem D.thenE {r : Option Nat} {N : Nat} {c : Code} {Q Q' : Post} {ρ : Env} {I : IM} {H : HL} (h : D P r N allW c Q ρ I H) (hq : ∀ e ρ' I' H', I.le I' → Q e ρ' I' H' → Q' e ρ' I' H') : D P r N allW c Q' ρ I H := h.monoI hq

theorem St.permB {w0 w : World} {I : IM} {H H' : HL} (h : St w0 I H w) (p : H.Perm H') : St w0 I H' w := h.perm p

theorem rangeFunc_ok (hB : BxOk P B Ib) {self : Ev} (hS : EvGood P Ib self) (hA : AltGood P B Ib self) {N : Nat} {g : Operand} {ps : Array Nat} {as bd : Code} {r r' : Option Nat} {s s' : S} {x : Ex} {σ : Sg} {π : Nat → Nat × Obj} {ρ : Env} {I : IM} {H : HL}
    (hr : cRF g ps as bd P B self N r s = some (x, s')) (hrr : r = none → r' = none) (hok : okCode P N (.rangeFunc g ps as bd) = true)
    (hE : ER σ s.e ρ) (hs : Sc σ s.nx) (hh : HR σ s.h.get π H) (hI : Ib.le I) : D P r' N allW (.rangeFunc g ps as bd) (EvQ σ s.h.get π I x s') ρ I H := by
  unfold cRF at hr
  split at hr
  · rename_i k first capt hg
    have := hrr rfl
    subst this
    simp only [okCode, Bool.and_eq_true] at hok
    unfold endLp at hr
    split at hr
    · rename_i v h' nx' hcall
      intro w0 w F ms dt a ha hsz hd hst
      subst ha
      have hdg := hE.op hg
      simp only [den] at hdg
      cases hfi : denL σ first with
      | none => rw [hfi] at hdg; cases hdg
      | some first' =>
        cases hca : denL σ capt with
        | none => rw [hfi, hca] at hdg; cases hdg
        | some capt' =>
          rw [hfi, hca] at hdg
          have hgv := (Option.some.inj hdg).symm
          refine wpIn_rangeFunc fun fn _ => ?_
          -- the record is laid
          let dob : Obj := .deferred (some [])
          let lob : Obj := .loop { state := .ready, pending := none, fn := fn, tmps := a.tmps, params := ps, assign := as, body := bd, defers := w.heap.size }
          let w1 : World := { w with heap := (w.heap.push dob).push lob }
          have hsz1 : (w.heap.push dob).size = w.heap.size + 1 := by simp
          have he : (Instr.enterLoop fn a.tmps ps as bd none).run P w = .ok (w.heap.size + 1, [mark w.heap.size]) w1 := by
            unfold Instr.enterLoop
            simp only
            rw [run_bind_ok (a := w.heap.size) (w' := { w with heap := w.heap.push dob }) rfl, run_bind_ok (run_pure _), run_bind_ok (a := (w.heap.push dob).size) (w' := w1) rfl]
            rw [hsz1]; rfl
          have hst1 : St w0 I ((w.heap.size + 1, lob) :: (w.heap.size, dob) :: (H ++ (dm ms ++ F))) w1 := by
            have h1 := hst.push dob w.drawn
            have h2 := h1.push lob w.drawn
            have e : ({ w with heap := w.heap.push dob } : World).heap.size = w.heap.size + 1 := hsz1
            simp only [hsz1] at h2
            exact h2
          have hσ1 := hs.le (w.heap.size + 1, 0)
          have hHR1 : HR (upF σ s.nx (some (w.heap.size + 1, 0))) (s.h.set s.nx (.loop .ready none N s.e ps.toList as bd)).get (upF π s.nx (w.heap.size + 1, lob)) ((w.heap.size + 1, lob) :: H) := by
            rw [T.get_set]
            exact hh.new hs (p := (w.heap.size + 1, lob)) ⟨0, upF_self _ _ _, fn, a.tmps, w.heap.size, by simp only [lob], hsz, hE.mono hσ1, (hB.loop N as bd).2 hok⟩
          have hargs : denL (upF σ s.nx (some (w.heap.size + 1, 0))) (first ++ [.func (.yield s.nx) [] []]) = some (first' ++ [.func (.yield (w.heap.size + 1)) #[] #[]]) :=
            denL_append (denL_mono hσ1 _ _ hfi) (denL_mk (by simp only [den, upF_self]) rfl)
          have hC := callBody_ok hB hS hA hcall (hs.up _) hHR1 (denL_append hargs (denL_mono hσ1 _ _ hca)) hI
          have hperm : ((w.heap.size + 1, lob) :: (w.heap.size, dob) :: (H ++ (dm ms ++ F))).Perm (((w.heap.size + 1, lob) :: H) ++ (dm (w.heap.size :: ms) ++ F)) := by
            simp only [List.cons_append, dm, List.map_cons]
            refine List.Perm.cons _ ?_
            exact List.perm_middle.symm
          have hrun := hC.2 w0 w1 (dm (w.heap.size :: ms) ++ F) (hst1.perm hperm)
          refine ⟨w.heap.size + 1, [mark w.heap.size], w1, { target := .fn (.func k) capt'.toArray, args := first'.toArray ++ #[Value.func (.yield (w.heap.size + 1)) #[] #[]] }, w1, k, (first'.toArray ++ #[Value.func (.yield (w.heap.size + 1)) #[] #[]]) ++ capt'.toArray, w1, he, ?_, fun _ _ => trivial, hC.1 _ _, fun h => by simp [fence, Fence.wide] at h, ?_⟩
          · simp only [resolve, rangeCall, List.map_toArray, List.map_cons, List.map_nil]
            rw [eval_env, hgv]; rfl
          · have e : ((first' ++ [Value.func (.yield (w.heap.size + 1)) #[] #[]]) ++ capt').toArray = (first'.toArray ++ #[Value.func (.yield (w.heap.size + 1)) #[] #[]]) ++ capt'.toArray := by apply Array.ext'; simp
            rw [e] at hrun
            refine CallsIn.fence none (CallsIn.mono hrun ?_)
            rintro en w3 ⟨rx, I', H', rfl, hle, hst3, v', σ', π', rfl, q1, q2, q3, q4, q5⟩
            show ∃ jump w4, _
            -- the record is taken away
            have fin : ∀ {st : LoopState} {pend : Option Code} {N1 : Nat} {e1 : T V} {ps1 : List Nat} {as1 bd1 : Code}, h'.get s.nx = some (.loop st pend N1 e1 ps1 as1 bd1) → st ≠ .busy →
                ∃ w4, (Instr.endLoop (w.heap.size + 1)).run P w3 = .ok pend w4 ∧ ∀ (xx : Ex), ∃ I2 H2 ms2, I.le I2 ∧ ({ a with defers := [mark w.heap.size] ++ a.defers } : Act).tmps.size = N ∧ ({ a with defers := [mark w.heap.size] ++ a.defers } : Act).defers = ms2.map mark ++ dt ∧
                  (∀ t, allW t = false → envA { a with defers := [mark w.heap.size] ++ a.defers } t = envA a t) ∧ St w0 I2 (H2 ++ (dm ms2 ++ F)) w4 ∧ EvQ σ s.h.get π I xx ⟨s.e, h'.del s.nx, nx'⟩ (exX xx) (envA { a with defers := [mark w.heap.size] ++ a.defers }) I2 H2 := by
              intro st pend N1 e1 ps1 as1 bd1 hl hnb
              obtain ⟨c1, fn1, tmps1, dm1, p1, p2, p3, p4, p5⟩ := (q4.at hl).lp
              have hblk1 := (q4.at hl).blk (q1 _ _ (upF_self σ s.nx _))
              obtain ⟨own2, hp2, hh2⟩ := q4.split hl
              have hst4 := hst3.perm (hp2.append_right _)
              have hw3 := hst4.own _ List.mem_cons_self
              rw [p2] at hw3
              simp only at hblk1
              rw [← hblk1] at hw3
              have hend := run_endLoop (P := P) hw3 hnb
              have hst5 := (hst4.set (ob' := .loop { state := .exhausted, pending := pend, fn := fn1, tmps := tmps1, params := ps1.toArray, assign := as1, body := bd1, defers := dm1 }))
              rw [← hblk1] at hst5
              refine ⟨_, hend, fun xx => ⟨I', own2, w.heap.size :: ms, hle, hsz, by simp [hd], fun _ _ => rfl, St.drop hst5, rfl, σ', π', hE.mono (hσ1.trans q1), hσ1.trans q1, q2, ?_, ?_, hle⟩⟩
              · rw [T.get_del]; exact hh2
              · refine ⟨fun j hj hn => ?_, fun h => by cases h⟩
                have hjn : j ≠ s.nx := fun e => hj (by rw [e]; exact hs _ (Nat.le_refl _))
                have hj1 : (upF σ s.nx (some (w.heap.size + 1, 0))) j ≠ none := by rw [upF_ne _ _ hjn]; exact hj
                have hn1 : (s.h.set s.nx (.loop .ready none N s.e ps.toList as bd)).get j = none := by rw [T.get_set, upF_ne _ _ hjn]; exact hn
                obtain ⟨z1, z2⟩ := q5.1 j hj1 hn1
                refine ⟨by rw [T.get_del, upF_ne _ _ hjn]; exact z1, ?_⟩
                rw [z2, upF_ne _ _ hjn]
            split at hr
            · rename_i N1 e1 ps1 as1 bd1 hl
              cases hr
              obtain ⟨w4, h1, h2⟩ := fin hl (by simp)
              exact ⟨none, w4, h1, h2 .normal⟩
            · rename_i pend N1 e1 ps1 as1 bd1 hl
              obtain ⟨w4, h1, h2⟩ := fin hl (by simp)
              split at hr
              · rename_i xx hxx
                cases hr
                refine ⟨pend, w4, h1, ?_⟩
                unfold exPend at hxx
                split at hxx
                · cases hxx; exact h2 .normal
                · cases hxx; exact wpIn_ret (h2 .ret)
                · cases hxx; exact wpIn_exit (h2 (.exit _))
                · cases hxx
              · cases hr
            · cases hr
    · cases hr
  · cases hr
end
end Go.Proofs.Zz

namespace Go.Proofs.Zz
open Go
variable [LoopOk]
section
variable {P : Program} {B : Bx} {Ib : IM}

theorem loop_ok {m : Nat} (hS : ∀ k, k ≤ m → EvGood P Ib (ev P B k)) : ∀ (k : Nat), k ≤ m + 1 → ∀ {N : Nat} {r r' : Option Nat} {b : Code} {s s' : S} {x : Ex} {σ : Sg} {π : Nat → Nat × Obj} {ρ : Env} {I : IM} {H : HL},
    ev P B k N r (.loop b) s = some (x, s') → (r = none → r' = none) → okCode P N b = true → ER σ s.e ρ → Sc σ s.nx → HR σ s.h.get π H → Ib.le I → ∃ n, DR P r' N allW b (EvQ σ s.h.get π I x s') n ρ I H := by
  intro k
  induction k with
  | zero => intro _ N r r' b s s' x σ π ρ I H hr; cases hr
  | succ k ih =>
    intro hk N r r' b s s' x σ π ρ I H hr hrr hok hE hs hh hI
    have hr : thenN (ev P B k N r (.loop b)) (ev P B k N r b s) = some (x, s') := hr
    cases hb : ev P B k N r b s with
    | none => rw [hb] at hr; cases hr
    | some p =>
      obtain ⟨x1, s1⟩ := p
      rw [hb] at hr
      have hD := hS k (by omega) (r' := r') hb hrr hok hE hs hh hI
      cases x1 with
      | normal =>
        have hr : ev P B k N r (.loop b) s1 = some (x, s') := hr
        -- so many rounds as the rest takes: the same, whatever the names
        have : ∃ n, D P r' N allW b (thn (DR P r' N allW b (EvQ σ s.h.get π I x s') n) (EvQ σ s.h.get π I x s')) ρ I H := by
          have key : ∀ (k : Nat), k ≤ m + 1 → ∀ {s1 : S}, ev P B k N r (.loop b) s1 = some (x, s') → ∃ n, ∀ {σ1 : Sg} {π1 : Nat → Nat × Obj} {ρ1 : Env} {I1 : IM} {H1 : HL} {Q : Post}, ER σ1 s1.e ρ1 → Sc σ1 s1.nx → HR σ1 s1.h.get π1 H1 → Ib.le I1 →
              (∀ e ρ I H, EvQ σ1 s1.h.get π1 I1 x s' e ρ I H → Q e ρ I H) → DR P r' N allW b Q n ρ1 I1 H1 := by
            intro k
            induction k with
            | zero => intro _ s1 h; cases h
            | succ k ih2 =>
              intro hk2 s1 h
              have h : thenN (ev P B k N r (.loop b)) (ev P B k N r b s1) = some (x, s') := h
              cases hb : ev P B k N r b s1 with
              | none => rw [hb] at h; cases h
              | some p =>
                obtain ⟨x2, s2⟩ := p
                rw [hb] at h
                cases x2 with
                | normal =>
                  obtain ⟨n, hn⟩ := ih2 (by omega) h
                  refine ⟨n + 1, fun hE hs hh hI hq => ?_⟩
                  refine (hS k (by omega) (r' := r') hb hrr hok hE hs hh hI).monoI ?_
                  rintro e ρ' I' H' hle ⟨rfl, σ', π', q1, q2, q3, q4, q5, q6⟩
                  exact hn q1 q3 q4 (hI.trans hle) fun e ρ I H he => hq e ρ I H (he.trans q2 q5 hle)
                | exit i =>
                  cases h
                  refine ⟨1, fun hE hs hh hI hq => (hS k (by omega) (r' := r') hb hrr hok hE hs hh hI).monoI ?_⟩
                  rintro e ρ' I' H' hle he
                  have := hq e ρ' I' H' he
                  obtain ⟨rfl, _⟩ := he
                  exact this
                | ret =>
                  cases h
                  refine ⟨1, fun hE hs hh hI hq => (hS k (by omega) (r' := r') hb hrr hok hE hs hh hI).monoI ?_⟩
                  rintro e ρ' I' H' hle he
                  have := hq e ρ' I' H' he
                  obtain ⟨rfl, _⟩ := he
                  exact this
                | goto i =>
                  cases h
                  refine ⟨1, fun hE hs hh hI hq => (hS k (by omega) (r' := r') hb hrr hok hE hs hh hI).monoI ?_⟩
                  rintro e ρ' I' H' hle he
                  have := hq e ρ' I' H' he
                  obtain ⟨rfl, _⟩ := he
                  exact this
          obtain ⟨n, hn⟩ := key k (by omega) hr
          refine ⟨n, hD.monoI ?_⟩
          rintro e ρ' I' H' hle ⟨rfl, σ', π', q1, q2, q3, q4, q5, q6⟩
          exact hn q1 q3 q4 (hI.trans hle) fun e ρ I H he => he.trans q2 q5 hle
        obtain ⟨n, hn⟩ := this
        exact ⟨n + 1, hn⟩
      | exit i =>
        cases hr
        refine ⟨1, hD.monoI ?_⟩
        rintro e ρ' I' H' hle he
        have := he
        obtain ⟨rfl, _⟩ := he
        exact this
      | ret =>
        cases hr
        refine ⟨1, hD.monoI ?_⟩
        rintro e ρ' I' H' hle he
        have := he
        obtain ⟨rfl, _⟩ := he
        exact this
      | goto i =>
        cases hr
        refine ⟨1, hD.monoI ?_⟩
        rintro e ρ' I' H' hle he
        have := he
        obtain ⟨rfl, _⟩ := he
        exact this

theorem ev_ok (hB : BxOk P B Ib) : ∀ (m k : Nat), k ≤ m → EvGood P Ib (ev P B k) := by
  intro m
  induction m with
  | zero =>
    intro k hk N r r' c s x s' σ π ρ I H hr
    have : k = 0 := by omega
    subst this
    cases hr
  | succ m ih =>
    intro k hk
    cases k with
    | zero => intro N r r' c s x s' σ π ρ I H hr; cases hr
    | succ k =>
    have hS : EvGood P Ib (ev P B k) := ih k (by omega)
    have hA : AltGood P B Ib (ev P B k) := hB.alt k fun j hj => ih j (by omega)
    intro N r r' c s x s' σ π ρ I H hr hrr hok hE hs hh hI
    have hr0 := hr
    have hr : (codeTab c).f P B (ev P B k) N r s = some (x, s') := hr
    have here : EvQ σ s.h.get π I .normal s .normal ρ I H := ⟨rfl, σ, π, hE, .refl _, hs, hh, .refl _ _ _ _, .refl _⟩
    cases c with
    | skip => cases hr; exact D.skip here
    | label l => cases hr; exact D.label here
    | region id ops draw => exact region_ok (r := r) hB hS hA hr hok hE hs hh hI
    | seq a b =>
      have hr : thenN (ev P B k N r b) (ev P B k N r a s) = some (x, s') := hr
      simp only [okCode, Bool.and_eq_true] at hok
      cases ha : ev P B k N r a s with
      | none => rw [ha] at hr; cases hr
      | some p =>
        obtain ⟨x1, s1⟩ := p
        rw [ha] at hr
        refine D.seq ((hS (r' := r') ha hrr hok.1 hE hs hh hI).monoI ?_)
        rintro e ρ' I' H' hle he
        cases x1 with
        | normal =>
          obtain ⟨rfl, σ', π', q1, q2, q3, q4, q5, q6⟩ := he
          have hr : ev P B k N r b s1 = some (x, s') := hr
          exact (hS (r' := r') hr hrr hok.2 q1 q3 q4 (hI.trans hle)).monoI fun e ρ I H _ he => he.trans q2 q5 hle
        | exit i => cases hr; have := he; obtain ⟨rfl, _⟩ := he; exact this
        | ret => cases hr; have := he; obtain ⟨rfl, _⟩ := he; exact this
        | goto i => cases hr; have := he; obtain ⟨rfl, _⟩ := he; exact this
    | cond c a b =>
      simp only [okCode, Bool.and_eq_true] at hok
      have hr : cCond c a b P B (ev P B k) N r s = some (x, s') := hr
      unfold cCond at hr
      split at hr
      · rename_i t hc
        refine D.cond (den_bool (hE.op hc)) ?_
        cases t with
        | true => exact hS (r' := r') hr hrr hok.1 hE hs hh hI
        | false => exact hS (r' := r') hr hrr hok.2 hE hs hh hI
      · cases hr
    | block id b =>
      simp only [okCode] at hok
      have hr : blk id (ev P B k N r b s) = some (x, s') := hr
      cases hb : ev P B k N r b s with
      | none => rw [hb] at hr; cases hr
      | some p =>
        obtain ⟨x1, s1⟩ := p
        rw [hb] at hr
        refine D.block ((hS (r' := r') hb hrr hok hE hs hh hI).monoI ?_)
        rintro e ρ' I' H' hle he
        cases x1 with
        | normal => cases hr; have := he; obtain ⟨rfl, _⟩ := he; exact this
        | exit i =>
          have hr : some ((bif Nat.beq i id then Ex.normal else .exit i), s1) = some (x, s') := hr
          obtain ⟨rfl, q⟩ := he
          show bif Nat.beq i id then _ else _
          cases hbi : Nat.beq i id with
          | true => rw [hbi] at hr; cases hr; exact ⟨rfl, q⟩
          | false => rw [hbi] at hr; cases hr; exact ⟨rfl, q⟩
        | ret => cases hr; have := he; obtain ⟨rfl, _⟩ := he; exact this
        | goto i => cases hr; have := he; obtain ⟨rfl, _⟩ := he; exact this
    | loop b =>
      simp only [okCode] at hok
      obtain ⟨n, hn⟩ := loop_ok (B := B) (m := m) ih (k + 1) (by omega) hr0 hrr hok hE hs hh hI
      exact DR.loop hn
    | exit id => cases hr; exact D.exit ⟨rfl, here.2⟩
    | scope b =>
      simp only [okCode] at hok
      have hr : scp (ev P B k N r b s) = some (x, s') := hr
      cases hb : ev P B k N r b s with
      | none => rw [hb] at hr; cases hr
      | some p =>
        obtain ⟨x1, s1⟩ := p
        rw [hb] at hr
        refine D.scope ((hS (r' := r') hb hrr hok hE hs hh hI).monoI ?_)
        rintro e ρ' I' H' hle he
        cases x1 with
        | normal => cases hr; have := he; obtain ⟨rfl, _⟩ := he; exact this
        | exit i => cases hr; have := he; obtain ⟨rfl, _⟩ := he; exact this
        | ret => cases hr; have := he; obtain ⟨rfl, _⟩ := he; exact this
        | goto i => cases hr
    | goto l => cases hr; exact D.goto ⟨rfl, here.2⟩
    | ret => cases hr; exact D.ret ⟨rfl, here.2⟩
    | rangeFunc g ps as bd => exact rangeFunc_ok hB hS hA hr hrr hok hE hs hh hI
    | _ => cases hr

/-- A function's run on plain data. -/
theorem call_ok (hB : BxOk P B Ib) (m : Nat) {k : FuncId} {args : List V} {h h' : T O} {nx nx' : Nat} {v : V} {σ : Sg} {π : Nat → Nat × Obj} {own : HL} {args' : List Value} {I : IM}
    (hr : callBody P B (ev P B m) k args h nx = some (v, h', nx')) (hs : Sc σ nx) (hh : HR σ h.get π own) (hd : denL σ args = some args') (hI : Ib.le I) : Call P k args'.toArray I own (Rq σ nx h.get π v h'.get nx') :=
  callBody_ok hB (ev_ok hB m m (Nat.le_refl _)) (hB.alt m fun j hj => ev_ok hB m j hj) hr hs hh hd hI
end
end Go.Proofs.Zz

namespace Go.Proofs.Zz
open Go
variable [LoopOk]
section
variable {P : Program} {B : Bx} {Ib : IM}

theorem leaveMarks {fn : Func} {tmps : Array Value} {R : Ending → World → Prop} {w0 : World} {I : IM} {H F : HL} {rest : List Deferred} : ∀ (ms : List Nat) (u : FrameMode) (w : World), u ≠ .run → St w0 I (H ++ (dm ms ++ F)) w →
    (∀ w', St w0 I (H ++ F) w' → LeavesInM Fence.wide 0 P fn tmps R rest u w') → LeavesInM Fence.wide 0 P fn tmps R (ms.map mark ++ rest) u w
  | [], u, w, _, hs, hk => hk w (by simpa [dm] using hs)
  | m :: ms, u, w, hu, hs, hk => by
    obtain ⟨w'', ht, hs'⟩ := dm_take (P := P) hs
    exact ⟨hu, .inl ⟨m, w'', rfl, ht, leaveMarks ms u w'' hu hs' hk⟩⟩

theorem regN {self : Ev} {N : Nat} {r : Option Nat} {m : Nat} {id : Nat} {ops : Array Oper} {d : Bool} {s s' : S} {x : Ex} (h : ev P B m N r (.region id ops d) s = some (x, s')) : x = .normal := by
  cases m with
  | zero => cases h
  | succ m =>
    have h : cReg (Bool.rec (motive := fun _ => Program → List Pr) (fun P => prepN P ops) (fun P => prepD P ops) d) P B (ev P B m) N r s = some (x, s') := h
    unfold cReg regE at h
    split at h
    · cases h; rfl
    · cases h

/-- A function that defers a closure that catches nothing when nothing was thrown. -/
theorem deferred_ok {k kc : FuncId} {fn fnc : Func} {cc : Code} {i0 id t2 t3 ty ty' : Nat} {ops0 : Array Oper} {d0 : Bool} {pos pos' : String} {af af' : Array Edge} {rest : Code}
    (hfn : P.funcs[k]? = some fn) (hnm : (fn.name == "runtime.NumGoroutine") = false)
    (hbody : fn.body = some (.seq (.region i0 ops0 d0) (.seq (.region id #[⟨some t3, .makeFunc (.func kc) #[] #[.tmp t2], ty, pos, af, none⟩, ⟨none, .defer { callee := .value (.tmp t3), args := #[], argTypes := #[] }, ty', pos', af', none⟩] false) rest)))
    (halt : B.alt k = some (.seq (.region i0 ops0 d0) (.seq (.region id #[⟨some t3, .makeFunc (.func kc) #[] #[.tmp t2], ty, pos, af, none⟩] false) rest)))
    (hgc : GoFn P kc fnc cc) (hcatch : ∀ (p : Value) (w : World), CallsDIn Fence.wide 0 P kc #[p] .returning w fun e u' w' => e = .returned (.tuple #[]) ∧ u' = .returning ∧ w' = w)
    (ht3 : t3 < fn.ntmps) (hok0 : okCode P fn.ntmps (.region i0 ops0 d0) = true) (hok2 : okCode P fn.ntmps rest = true)
    (m : Nat) (hG : ∀ j, j ≤ m → EvGood P Ib (ev P B j)) {args : List V} {h h' : T O} {nx nx' : Nat} {v : V} {σ : Sg} {π : Nat → Nat × Obj} {own : HL} {args' : List Value} {I : IM}
    (hr : callBody P B (ev P B m) k args h nx = some (v, h', nx')) (hs : Sc σ nx) (hh : HR σ h.get π own) (hd : denL σ args = some args') (hI : Ib.le I) :
    Call P k args'.toArray I own (Rq σ nx h.get π v h'.get nx') := by
  have hgo : GoFn P k fn _ := ⟨hfn, hbody, hnm⟩
  unfold callBody at hr
  split at hr
  · rename_i fn2 hfn2
    have : fn2 = fn := by have := mkT_at hfn2; rw [Array.getElem?_toList, hfn] at this; exact (Option.some.inj this).symm
    subst this
    cases hok : B.ok k with
    | false => rw [hok] at hr; cases hr
    | true =>
      rw [hok] at hr
      simp only [cond_true, bodyOf, halt] at hr
      cases hle : Nat.ble args.length fn2.ntmps with
      | false => rw [hle] at hr; cases hr
      | true =>
        rw [hle] at hr
        simp only [cond_true] at hr
        have hle := Nat.le_of_ble_eq_true hle
        have hl := denL_length hd
        unfold finF at hr
        split at hr
        · rename_i x s' hself
          -- the run in parts
          obtain ⟨m1, rfl⟩ : ∃ m1, m = m1 + 1 := by cases m with
            | zero => cases hself
            | succ m1 => exact ⟨m1, rfl⟩
          have hself : thenN (ev P B m1 fn2.ntmps none (.seq (.region id #[⟨some t3, .makeFunc (.func kc) #[] #[.tmp t2], ty, pos, af, none⟩] false) rest)) (ev P B m1 fn2.ntmps none (.region i0 ops0 d0) ⟨envOf 0 args .lf, h, nx⟩) = some (x, s') := hself
          cases h0 : ev P B m1 fn2.ntmps none (.region i0 ops0 d0) ⟨envOf 0 args .lf, h, nx⟩ with
          | none => rw [h0] at hself; cases hself
          | some p0 =>
            obtain ⟨x0, s1⟩ := p0
            have := regN (self := ev P B m1) h0
            subst this
            rw [h0] at hself
            have hself : ev P B m1 fn2.ntmps none (.seq (.region id #[⟨some t3, .makeFunc (.func kc) #[] #[.tmp t2], ty, pos, af, none⟩] false) rest) s1 = some (x, s') := hself
            obtain ⟨m2, rfl⟩ : ∃ m2, m1 = m2 + 1 := by cases m1 with
              | zero => cases h0
              | succ m2 => exact ⟨m2, rfl⟩
            have hself : thenN (ev P B m2 fn2.ntmps none rest) (ev P B m2 fn2.ntmps none (.region id #[⟨some t3, .makeFunc (.func kc) #[] #[.tmp t2], ty, pos, af, none⟩] false) s1) = some (x, s') := hself
            cases h1 : ev P B m2 fn2.ntmps none (.region id #[⟨some t3, .makeFunc (.func kc) #[] #[.tmp t2], ty, pos, af, none⟩] false) s1 with
            | none => rw [h1] at hself; cases hself
            | some p1 =>
              obtain ⟨x1, s2⟩ := p1
              have := regN (self := ev P B m2) h1
              subst this
              rw [h1] at hself
              have hself : ev P B m2 fn2.ntmps none rest s2 = some (x, s') := hself
              -- the closure is made
              obtain ⟨b, hb1, hb2⟩ : ∃ b, evO s1.e (.tmp t2) = some b ∧ s2 = ⟨s1.e.set t3 (.func (.func kc) [] [b]), s1.h, s1.nx⟩ := by
                cases m2 with
                | zero => cases h1
                | succ m3 =>
                  have h1 : regE (runOps ⟨P, B.gl, B.orc, B.orl, callAny P B (ev P B m3)⟩ [⟨0, ⟨hMkF (.func kc) #[] #[.tmp t2]⟩, some t3, none, none⟩] [] s1) = some (.normal, s2) := h1
                  rw [runOps_cons] at h1
                  have h1 : regE (nxtOp ⟨0, ⟨hMkF (.func kc) #[] #[.tmp t2]⟩, some t3, none, none⟩ (runOps ⟨P, B.gl, B.orc, B.orl, callAny P B (ev P B m3)⟩ []) [] s1.e (hMkF (.func kc) #[] #[.tmp t2] ⟨P, B.gl, B.orc, B.orl, callAny P B (ev P B m3)⟩ s1.e s1.h s1.nx)) = some (.normal, s2) := h1
                  unfold hMkF at h1
                  simp only [optL] at h1
                  cases hv : evO s1.e (.tmp t2) with
                  | none => rw [hv] at h1; cases h1
                  | some b => rw [hv] at h1; cases h1; exact ⟨b, rfl, rfl⟩
              refine ⟨hgo.enter, fun w0 w F hst => callsIn_of_wp_marks hfn hbody trivial ?_⟩
              refine wpIn_seq ?_
              have hD0 := hG (m2 + 1) (by omega) (r' := none) (ρ := env0 args'.toArray) h0 (fun _ => rfl) hok0 (ER.args hd) hs hh hI
              refine wpIn_mono (hD0 w0 w F [] [] _ (env0_act _ _) (by simp; omega) rfl (by simpa [dm] using hst)) ?_
              rintro e a1 w1 ⟨I1, H1, ms1, g1, g2, g3, -, g5, rfl, σ1, π1, q1, q2, q3, q4, q5, q6⟩
              refine wpIn_seq (wpIn_region ?_)
              rw [List.append_nil] at g3
              have hev : evE (envA a1) (.tmp t2) = envA a1 t2 := rfl
              have hd1 := q1.op hb1
              -- makeFunc, then defer
              show wpOpsIn Fence.wide 0 P _ _ [0, 1] a1 w1
              rw [wpOpsIn_cons, wpOpIn]
              simp only [List.getElem?_toArray, List.getElem?_cons_zero, Region.wanted, if_true]
              refine ⟨fun _ _ => trivial, ?_⟩
              have hsem1 : ((⟨some t3, .makeFunc (.func kc) #[] #[.tmp t2], ty, pos, af, none⟩ : Oper).semAt Fence.wide.round a1.eval).run P w1 = .ok (.value (.func (.func kc) #[] #[envA a1 t2])) w1 := by
                rw [Oper.semAt_eq _ _ _ (fun c hc => by cases hc), eval_env]
                show ((do pure (Next.value (← Instr.makeFunc (.func kc) ((#[] : Array Operand).map (evE (envA a1))) (#[Operand.tmp t2].map (evE (envA a1)))))) : Sem Next).run P w1 = _
                simp only [List.map_toArray, List.map_cons, List.map_nil]
                rfl
              rw [hsem1, Oper.uponIn_value]
              rw [wpOpsIn_cons, wpOpIn]
              simp only [List.getElem?_toArray, List.getElem?_cons_zero, List.getElem?_cons_succ, Region.wanted, if_true]
              refine ⟨fun _ _ => trivial, ?_⟩
              have hput := envA_put a1 (some t3) (.func (.func kc) #[] #[envA a1 t2]) (fun t ht => by cases ht; rw [g2]; exact ht3)
              have hsem2 : ((⟨none, .defer { callee := .value (.tmp t3), args := #[], argTypes := #[] }, ty', pos', af', none⟩ : Oper).semAt Fence.wide.round (a1.put (some t3) (.func (.func kc) #[] #[envA a1 t2])).eval).run P w1 =
                  .ok (.defer { target := .fn (.func kc) #[envA a1 t2], args := #[] }) w1 := by
                rw [eval_env, hput]
                have : evE (updE (envA a1) (some t3) (.func (.func kc) #[] #[envA a1 t2])) (.tmp t3) = .func (.func kc) #[] #[envA a1 t2] := by simp [evE, updE]
                show ((do pure (Next.defer (← resolve (evE _) _ ty'))) : Sem Next).run P w1 = _
                simp only [resolve, this, List.map_toArray, List.map_nil]
                rfl
              rw [hsem2, Oper.uponIn_defer]
              -- the rest
              have hER2 : ER σ1 s2.e (updE (envA a1) (some t3) (.func (.func kc) #[] #[envA a1 t2])) := by
                rw [hb2]
                exact q1.put (v := .func (.func kc) [] [b]) (by
                  simp only [den, denL, hd1]
                  rfl) (some t3)
              have hD2 := hG m2 (by omega) (r' := none) (ρ := updE (envA a1) (some t3) (.func (.func kc) #[] #[envA a1 t2])) hself (fun _ => rfl) hok2 hER2 (by rw [hb2]; exact q3) (by rw [hb2]; exact q4) (hI.trans g1)
              let a2 : Act := { a1.put (some t3) (.func (.func kc) #[] #[envA a1 t2]) with defers := { target := .fn (.func kc) #[envA a1 t2], args := #[] } :: a1.defers }
              show rest.wpIn Fence.wide 0 P (bodyPostM Fence.wide 0 P fn2 _) a2 w1
              refine wpIn_mono (hD2 w0 w1 (dm ms1 ++ F) [] ({ target := .fn (.func kc) #[envA a1 t2], args := #[] } :: ms1.map mark) a2 hput (by rw [← g2]; exact size_put _ _ _) (by simp [a2, g3]) (by simpa [dm] using g5)) ?_
              rintro e a3 w3 ⟨I3, H3, ms3, k1, k2, k3, -, k5, rfl, σ3, π3, r1, r2, r3, r4, r5, r6⟩
              have hxx : σ.le σ3 ∧ Ext false σ h.get s'.h.get π π3 := by
                refine ⟨q2.trans r2, q5.trans q2 ?_⟩
                have : s2.h = s1.h := by rw [hb2]
                rw [this] at r5
                exact r5
              have fin : ∀ (l : List V), optL (resV P s') fn2.results.toList = some l → v = resOf l → h' = s'.h → nx' = s'.nx → LeavesInM Fence.wide 0 P fn2 a3.tmps (fun e w' => ∃ x I' H', e = Res.ending x ∧ I.le I' ∧ St w0 I' (H' ++ F) w' ∧ Rq σ nx h.get π v h'.get nx' x I' H') a3.defers .returning w3 := by
                intro l hl2 hv hh' hnx
                subst hv hh' hnx
                obtain ⟨v', z1, z2⟩ := Results.of (P := P) (I := I3) r1 r4 hl2
                rw [k3]
                refine leaveMarks ms3 _ _ (by simp) k5 fun w4 hst4 => ?_
                refine ⟨by simp, .inr ⟨fun h => by simp [Fence.wide] at h, .func kc, #[envA a1 t2], kc, #[envA a1 t2], rfl, ?_, fun _ _ => trivial, ?_⟩⟩
                · show (callFunc kc (#[] ++ #[envA a1 t2])).run P w4 = _
                  rw [show (#[] ++ #[envA a1 t2] : Array Value) = #[envA a1 t2] by simp]
                  exact hgc.enter w4 _
                · refine CallsDIn.mono (hcatch (envA a1 t2) w4) ?_
                  rintro e u' w5 ⟨rfl, rfl, rfl⟩
                  show LeavesInM _ _ _ _ _ _ (ms1.map mark) (settle .returning) w5
                  have := leaveMarks (P := P) (fn := fn2) (tmps := a3.tmps) (R := fun e w' => ∃ x I' H', e = Res.ending x ∧ I.le I' ∧ St w0 I' (H' ++ F) w' ∧ Rq σ nx h.get π (resOf l) s'.h.get s'.nx x I' H') (rest := []) ms1 .returning w5 (by simp) hst4 fun w6 hst6 =>
                    ⟨v', z2 w0 w6 F a3 rfl hst6, _, I3, H3, rfl, g1.trans k1, hst6, v', σ3, π3, rfl, hxx.1, r3, z1, r4, hxx.2⟩
                  rw [List.append_nil] at this
                  exact this
              have fin2 : (match optL (resV P s') fn2.results.toList with
                  | some [v] => some (v, s'.h, s'.nx)
                  | some l => some (.tup l, s'.h, s'.nx)
                  | none => none : R) = some (v, h', nx') → LeavesInM Fence.wide 0 P fn2 a3.tmps (fun e w' => ∃ x I' H', e = Res.ending x ∧ I.le I' ∧ St w0 I' (H' ++ F) w' ∧ Rq σ nx h.get π v h'.get nx' x I' H') a3.defers .returning w3 := by
                intro he
                split at he
                · rename_i u hu
                  cases he
                  exact fin _ hu rfl rfl rfl
                · rename_i l hne hu
                  cases he
                  refine fin _ hu ?_ rfl rfl
                  unfold resOf
                  split
                  · exact absurd rfl (hne _)
                  · rfl
                · cases he
              cases x with
              | normal => exact fin2 hr
              | ret => exact fin2 hr
              | exit id => cases hr
              | goto l => cases hr
        · cases hr
  · cases hr
end
end Go.Proofs.Zz
