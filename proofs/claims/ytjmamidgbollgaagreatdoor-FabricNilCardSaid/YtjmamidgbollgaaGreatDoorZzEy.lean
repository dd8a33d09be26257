import Derived.Test.YtjmamidgbollgaaGreatDoorZzEs
import Derived.Lib.Builder
set_option linter.all false
set_option linter.unusedVariables false
set_option linter.unusedSimpArgs false
namespace Go.Proofs.Zz
open Go
variable [LoopOk]
section
variable {P : Program}

theorem run_part {w : World} {t : TypeId} {agg : Bool} {sz off : Nat} {cs : Array Value} {v : Value} (ht : TyL P t agg sz) (hv : readV agg sz cs off = some v) : (part t cs off).run P w = .ok v w := by
  obtain ⟨d, i, h1, h2, h3, h4⟩ := ht.get
  unfold part
  rw [run_bind_ok (run_isAgg h1), h3]
  unfold readV at hv
  cases agg with
  | true =>
    simp only at hv
    cases hb : Nat.ble (off + sz) cs.size with
    | false => rw [hb] at hv; cases hv
    | true =>
      rw [hb] at hv; cases hv
      simp only [if_true]
      rw [run_bind_ok (run_sizeOf h2), h4]
      show Result.ok _ _ = _
      congr 2
      apply Array.ext'
      simp [cut, List.extract_eq_drop_take']
  | false =>
    simp only at hv
    simp only [hv, Bool.false_eq_true, if_false]
    rfl

theorem hFld_ok (s : TypeId) (x : Operand) (f : Nat) : HdOk P ⟨hFld s x f⟩ (.field s x f) := by
  intro ops bs ord K PK Rl i is ρ I F own dst ty pos af g σ nx nx' h h' π v e ld cx ho hw hc hP hgl hor hcall hr hE hs hh hrl k
  subst hP
  simp only [hFld] at hr
  split at hr
  · rename_i l hx
    obtain ⟨h1, rfl, rfl, rfl⟩ := okO_inv hr
    obtain ⟨l', hl, hpe⟩ := den_agg (hE.op hx)
    unfold fldV at h1
    split at h1
    · rename_i fs hu
      split at h1
      · rename_i fl hf
        rw [nthL_eq] at hf
        obtain ⟨agg, sz, v', h2, h3, h4⟩ := ldV_ok h1 hl []
        refine k.pure ho hw Nat.zero_ne_one hs hh h4 ?_
        simp only [execOp, hpe]
        refine PureT.of fun w => ?_
        unfold Instr.field
        rw [run_bind_ok (run_und (tU_ok hu))]
        have hf' : fs[f]? = some fl := by simpa using hf
        simp only [hf']
        rw [run_bind_ok (a := l'.toArray) (w' := w) rfl]
        exact run_part h2 (by simpa using h3)
      · cases h1
    · cases h1
  · cases hr

theorem hIx_ok (t : TypeId) (x ix : Operand) : HdOk P ⟨hIx t x ix⟩ (.index t x ix) := by
  intro ops bs ord K PK Rl i is ρ I F own dst ty pos af g σ nx nx' h h' π v e ld cx ho hw hc hP hgl hor hcall hr hE hs hh hrl k
  subst hP
  simp only [hIx] at hr
  split at hr
  · rename_i u iv hu hi
    split at hr
    · rename_i j hj
      obtain ⟨h1, rfl, rfl, rfl⟩ := okO_inv hr
      obtain ⟨kk, hie⟩ := asN_den hj (hE.op hi)
      have hd := hE.op hu
      unfold ixV at h1
      split at h1
      · rename_i s
        split at h1
        · rename_i d hd2
          split at h1
          · rename_i c hcc
            cases h1
            rw [nthL_eq] at hcc
            have : UnT cx.P t .string := ⟨tU_ok hd2⟩
            exact DX.ixs ho hw (den_str hd) hie hcc (k.here hs hh rfl)
          · cases h1
        · cases h1
      · rename_i l
        split at h1
        · rename_i n el sz har
          cases hb : Nat.blt j n with
          | false => rw [hb] at h1; cases h1
          | true =>
            rw [hb] at h1
            obtain ⟨l', hl, hpe⟩ := den_agg hd
            obtain ⟨agg, sz', v', h2, h3, h4⟩ := ldV_ok h1 hl []
            obtain ⟨i', a1, a2, a3⟩ := arrT_ok har
            refine k.pure ho hw Nat.zero_ne_one hs hh h4 ?_
            simp only [execOp, hpe, hie]
            refine PureT.of fun w => ?_
            unfold Instr.index
            rw [run_bind_ok (a := (kk, (j : Int))) (w' := w) rfl]
            simp only
            rw [run_bind_ok (run_und a1)]
            simp only
            rw [if_pos ⟨Int.natCast_nonneg j, by exact_mod_cast bltLt hb⟩, run_bind_ok (run_sizeOf a2), a3]
            exact run_part h2 (by simpa using h3)
        · cases h1
      · cases h1
    · cases hr
  · cases hr

theorem evOO_some {e : T V} {x : Operand} {v : V} (h : evOO e (some x) = some (some v)) : evO e x = some v := by
  simp only [evOO] at h
  split at h
  · rename_i w hw; cases h; exact hw
  · cases h

theorem bndV_ok {σ : Sg} {e : T V} {ρ : Env} (hE : ER σ e ρ) {o : Option Operand} {r : Option V} {d n : Nat} (h : evOO e o = some r) (hb : bndV r d = some n) : BndIs ρ o d n := by
  cases o with
  | none => cases h; cases hb; exact BndIs.none
  | some x =>
    simp only [evOO] at h
    split at h
    · rename_i v hv
      cases h
      obtain ⟨k, hk⟩ := asN_den hb (hE.op hv)
      exact BndIs.some hk
    · cases h

theorem run_sliceAt_arr {ρ : Env} {w : World} {t el : TypeId} {n sz b off l u : Nat} {i : TypeInfo} {lo hi : Option Operand} (h1 : P.underlying t = some (.array n el)) (h2 : P.info? el = some i) (h3 : i.size = sz)
    (hl : BndIs ρ lo 0 l) (hu : BndIs ρ hi n u) (hlu : l ≤ u) (hun : u ≤ n) :
    (Instr.sliceAt t (.pointer (some ⟨b, off, none⟩)) (lo.map (evE ρ)) (hi.map (evE ρ)) none).run P w = .ok (.slice (some ⟨b, (bif Nat.beq n l then off else off + l * sz), none⟩) (u - l) (n - l)) w := by
  unfold Instr.sliceAt
  rw [run_bind_ok (run_und h1)]
  simp only
  rw [run_bind_ok (a := (⟨b, off, none⟩ : Addr)) (w' := w) rfl, run_bind_ok (run_bounds2 hl hu hlu hun w), run_bind_ok (run_sizeOf h2), h3]
  have : (if n = l then (⟨b, off, none⟩ : Addr) else Addr.add ⟨b, off, none⟩ (l * sz)) = ⟨b, (bif Nat.beq n l then off else off + l * sz), none⟩ := by
    by_cases hnl : n = l
    · subst hnl; simp
    · have : Nat.beq n l = false := by cases hb : Nat.beq n l with | false => rfl | true => exact absurd (Nat.eq_of_beq_eq_true hb) hnl
      simp [hnl, this, addr_add]
  simp only [this]
  rfl

theorem okRoom_ok {σ : Sg} {h : T O} {π : Nat → Nat × Obj} {own : HL} (hh : HR σ h.get π own) {b off cap sz u : Nat} {y : Nat × Nat} (hr : okRoom h b off cap sz u = true) (hy : σ b = some y) : cap + u ≤ y.2 := by
  unfold okRoom at hr
  split at hr
  · rename_i l e gsz st fz hb
    simp only [Bool.and_eq_true] at hr
    obtain ⟨r1, r2, r3, r4⟩ := hr
    have r1 := Nat.eq_of_beq_eq_true r1
    have r2 := bltLt r2
    have r3 := Nat.le_of_ble_eq_true r3
    have r4 := Nat.le_of_ble_eq_true r4
    subst r1
    obtain ⟨c, hc1, l', rest, fr, h2, h3, h4, h5⟩ := hh.at hb
    rw [hy] at hc1
    have hyc : y.2 = c := by have := Option.some.inj hc1; rw [this]
    have hl := denL_length h2
    rw [List.length_append] at h4
    rw [hyc]
    refine Nat.le_of_mul_le_mul_right (c := gsz) ?_ r2
    rw [Nat.add_mul]; omega
  · cases hr

theorem hSlice_ok (t : TypeId) (x : Operand) (lo hi mx : Option Operand) : HdOk P ⟨hSlice t x lo hi mx⟩ (.slice t x lo hi mx) := by
  intro ops bs ord K PK Rl i is ρ I F own dst ty pos af g σ nx nx' h h' π v e ld cx ho hw hc hP hgl hor hcall hr hE hs hh hrl k
  subst hP
  simp only [hSlice] at hr
  split at hr
  · rename_i u a b c hx h1 h2 h3
    obtain ⟨hv, rfl, rfl, rfl⟩ := okO_inv hr
    have hd := hE.op hx
    unfold sliceV at hv
    split at hv
    · -- two indexes
      have hmx : mx = none := by
        cases mx with
        | none => rfl
        | some m => simp only [evOO] at h3; split at h3 <;> cases h3
      subst hmx
      split at hv
      · rename_i s
        split at hv
        · rename_i l u' q1 q2 q3
          cases hb : (Nat.ble l u' && Nat.ble u' s.length) with
          | false => rw [hb] at hv; cases hv
          | true =>
            rw [hb] at hv; cases hv
            simp only [Bool.and_eq_true] at hb
            have : UnT cx.P t .string := ⟨tU_ok q1⟩
            exact DX.slS ho hw (den_str hd) (bndV_ok hE h1 q2) (bndV_ok hE h2 q3) (Nat.le_of_ble_eq_true hb.1) (Nat.le_of_ble_eq_true hb.2) (k.here hs hh rfl)
        · cases hv
      · split at hv
        · rename_i y q1 q2 q3
          cases hv
          obtain ⟨el, sz, by'⟩ := y
          have := xS_ok q1
          have p1 : evE ρ x = .slice none 0 0 := by simp only [den] at hd; exact (Option.some.inj hd).symm
          exact DX.slL ho hw p1 (bndV_ok hE h1 q2) (bndV_ok hE h2 q3) (Nat.le_refl _) (Nat.le_refl _) (k.here hs hh rfl)
        · cases hv
      · rename_i b0 off len cap gr
        split at hv
        · rename_i el sz by' l u' q1 q2 q3
          have := xS_ok q1
          obtain ⟨y, hy, p1, hg⟩ := den_sl hd
          unfold slPart at hv
          cases gr with
          | true =>
            simp only [cond_true] at hv p1
            have hg := hg rfl
            cases hb : (Nat.ble l u' && (Nat.ble u' len || okRoom h' b0 off cap sz u')) with
            | false => rw [hb] at hv; cases hv
            | true =>
             rw [hb] at hv
             simp only [Bool.and_eq_true] at hb
             have b1 := Nat.le_of_ble_eq_true hb.1
             have b2 : cap + u' ≤ y.2 := by
               rcases Bool.or_eq_true_iff.1 hb.2 with h | h
               · have := Nat.le_of_ble_eq_true h; omega
               · exact okRoom_ok hh h hy
             simp only [cond_true] at hv
             cases hc2 : (Nat.blt l u' || Nat.beq l 0) with
             | false =>
              rw [hc2] at hv; cases hv
              simp only [Bool.or_eq_false_iff] at hc2
              have c1 : ¬ l < u' := fun hh => by have := Nat.blt_eq.symm ▸ hh; rw [show Nat.blt l u' = true by simpa [Nat.blt_eq] using hh] at hc2; cases hc2.1
              have c2 : l = u' := by omega
              subst c2
              refine DX.slL ho hw p1 (bndV_ok hE h1 q2) (bndV_ok hE h2 q3) b1 (by omega) (k.here hs hh ?_)
              rw [mk_se hy (by omega)]
              simp only [cond_true]
              by_cases hcl : y.2 - cap = l
              · have : Nat.beq y.2 (cap + l) = true := by
                  rw [show y.2 = cap + l by omega]; exact Nat.beq_refl _
                rw [this, if_pos hcl]
                simp only [cond_true, Nat.sub_self]
                congr 2; omega
              · have : Nat.beq y.2 (cap + l) = false := by
                  cases hbb : Nat.beq y.2 (cap + l) with
                  | false => rfl
                  | true => have := Nat.eq_of_beq_eq_true hbb; omega
                rw [this, if_neg hcl]
                simp only [cond_false, Nat.sub_self, Option.map_some, addr_add]
                congr 2; omega
             | true =>
              rw [hc2] at hv; cases hv
              simp only [Bool.or_eq_true] at hc2
              refine DX.slL ho hw p1 (bndV_ok hE h1 q2) (bndV_ok hE h2 q3) b1 (by omega) (k.here hs hh ?_)
              rw [mk_sl hy (fun _ => by omega)]
              simp only [cond_true]
              congr 2
              · rcases hc2 with h5 | h5
                · have := bltLt h5
                  rw [if_neg (by omega)]
                  simp [addr_add]
                · have := Nat.eq_of_beq_eq_true h5
                  subst this
                  split <;> simp [addr_add]
              · omega
          | false =>
            simp only [cond_false] at hv p1
            cases hb : (Nat.ble l u' && Nat.ble u' cap) with
            | false => rw [hb] at hv; cases hv
            | true =>
              rw [hb] at hv; cases hv
              simp only [Bool.and_eq_true] at hb
              refine DX.slL ho hw p1 (bndV_ok hE h1 q2) (bndV_ok hE h2 q3) (Nat.le_of_ble_eq_true hb.1) (Nat.le_of_ble_eq_true hb.2) (k.here hs hh ?_)
              rw [mk_sl hy (fun e => by cases e)]
              simp only [cond_false]
              congr 2
              by_cases hcl : cap = l
              · subst hcl; simp
              · have : Nat.beq cap l = false := by cases hb : Nat.beq cap l with | false => rfl | true => exact absurd (Nat.eq_of_beq_eq_true hb) hcl
                simp [hcl, this, addr_add]
        · cases hv
      · rename_i b0 off alt cap gr
        split at hv
        · rename_i y q1 q2 q3
          cases hv
          obtain ⟨el, sz, by'⟩ := y
          have := xS_ok q1
          obtain ⟨y, hy, p1, hg⟩ := den_se hd
          refine DX.slL ho hw p1 (bndV_ok hE h1 q2) (bndV_ok hE h2 q3) (Nat.le_refl _) (Nat.zero_le _) (k.here hs hh ?_)
          rw [hd, p1]
          simp only [Nat.zero_mul, Nat.sub_zero, Option.map_some, addr_add, Nat.add_zero, ite_self]
        · cases hv
      · split at hv
        · rename_i n el sz har
          split at hv
          · rename_i l u' q2 q3
            cases hb : (Nat.ble l u' && Nat.ble u' n) with
            | false => rw [hb] at hv; cases hv
            | true =>
              rw [hb] at hv; cases hv
              simp only [Bool.and_eq_true] at hb
              obtain ⟨y, hy, p1⟩ := den_ptr hd
              obtain ⟨i', a1, a2, a3⟩ := arrT_ok har
              refine k.pure ho hw Nat.zero_ne_one hs hh (mk_sl hy (fun e => by cases e)) ?_
              simp only [execOp, p1]
              exact PureT.of fun w => run_sliceAt_arr a1 a2 a3 (bndV_ok hE h1 q2) (bndV_ok hE h2 q3) (Nat.le_of_ble_eq_true hb.1) (Nat.le_of_ble_eq_true hb.2)
          · cases hv
        · cases hv
      · cases hv
    · -- three
      rename_i m
      split at hv
      · rename_i b0 off len cap gr uv
        split at hv
        · rename_i el sz by' u' m' q1 q2 q3
          have := xS_ok q1
          obtain ⟨y, hy, p1, hg⟩ := den_sl hd
          cases hb : (Nat.ble u' m' && (Nat.ble m' (bif gr then len else cap) || (gr && okRoom h' b0 off cap sz m'))) with
          | false => rw [hb] at hv; cases hv
          | true =>
            rw [hb] at hv; cases hv
            simp only [Bool.and_eq_true] at hb
            have hlo : lo = none := by
              cases lo with
              | none => rfl
              | some _ => simp only [evOO] at h1; split at h1 <;> cases h1
            cases hi with
            | none => cases h2
            | some hi =>
              cases mx with
              | none => cases h3
              | some mx =>
                have z1 := evOO_some h2
                have z2 := evOO_some h3
                obtain ⟨k1, e1⟩ := asN_den q2 (hE.op z1)
                obtain ⟨k2, e2⟩ := asN_den q3 (hE.op z2)
                subst hlo
                refine DX.sl3 ho hw p1 e1 e2 (Nat.le_of_ble_eq_true hb.1) ?_ (k.here hs hh (mk_sl hy (fun e => by cases e)))
                cases gr with
                | true =>
                  have := hg rfl
                  simp only [cond_true, Bool.true_and] at hb ⊢
                  rcases Bool.or_eq_true_iff.1 hb.2 with h | h
                  · have := Nat.le_of_ble_eq_true h; omega
                  · have := okRoom_ok hh h hy; omega
                | false =>
                  simp only [cond_false, Bool.false_and, Bool.or_false] at hb ⊢
                  exact Nat.le_of_ble_eq_true hb.2
        · cases hv
      · rename_i b0 off len cap gr lv uv
        split at hv
        · rename_i el sz by' l' u' m' q1 q0 q2 q3
          have := xS_ok q1
          obtain ⟨y, hy, p1, hg⟩ := den_sl hd
          cases hb : (Nat.ble l' u' && (Nat.ble u' m' && (Nat.ble m' (bif gr then len else cap) || (gr && okRoom h' b0 off cap sz m')))) with
          | false => rw [hb] at hv; cases hv
          | true =>
            rw [hb] at hv; cases hv
            simp only [Bool.and_eq_true] at hb
            obtain ⟨hb0, hb1, hb2⟩ := hb
            cases lo with
            | none => cases h1
            | some lo =>
            cases hi with
            | none => cases h2
            | some hi =>
              cases mx with
              | none => cases h3
              | some mx =>
                have z0 := evOO_some h1
                have z1 := evOO_some h2
                have z2 := evOO_some h3
                obtain ⟨k0, e0⟩ := asN_den q0 (hE.op z0)
                obtain ⟨k1, e1⟩ := asN_den q2 (hE.op z1)
                obtain ⟨k2, e2⟩ := asN_den q3 (hE.op z2)
                refine DX.sl4 ho hw p1 e0 e1 e2 (Nat.le_of_ble_eq_true hb0) (Nat.le_of_ble_eq_true hb1) ?_ (k.here hs hh ?_)
                · cases gr with
                  | true =>
                    have := hg rfl
                    simp only [cond_true, Bool.true_and] at hb2 ⊢
                    rcases Bool.or_eq_true_iff.1 hb2 with h | h
                    · have := Nat.le_of_ble_eq_true h; omega
                    · have := okRoom_ok hh h hy; omega
                  | false =>
                    simp only [cond_false, Bool.false_and, Bool.or_false] at hb2 ⊢
                    exact Nat.le_of_ble_eq_true hb2
                · rw [mk_sl hy (fun e => by cases e)]
                  simp only [cond_false]
                  congr 2
                  by_cases hml : m' = l'
                  · subst hml; simp
                  · have : Nat.beq m' l' = false := by cases hb : Nat.beq m' l' with | false => rfl | true => exact absurd (Nat.eq_of_beq_eq_true hb) hml
                    simp [hml, this, addr_add]
        · cases hv
      · rename_i uv
        split at hv
        · rename_i y q1 q2 q3
          cases hv
          obtain ⟨el, sz, by'⟩ := y
          have := xS_ok q1
          have p1 : evE ρ x = .slice none 0 0 := by simp only [den] at hd; exact (Option.some.inj hd).symm
          have hlo : lo = none := by
            cases lo with
            | none => rfl
            | some _ => simp only [evOO] at h1; split at h1 <;> cases h1
          cases hi with
          | none => cases h2
          | some hi =>
            cases mx with
            | none => cases h3
            | some mx =>
              obtain ⟨k1, e1⟩ := asN_den q2 (hE.op (evOO_some h2))
              obtain ⟨k2, e2⟩ := asN_den q3 (hE.op (evOO_some h3))
              subst hlo
              exact DX.sl3 ho hw p1 e1 e2 (Nat.le_refl _) (Nat.le_refl _) (k.here hs hh rfl)
        · cases hv
      · rename_i b0 off alt cap gr uv
        split at hv
        · rename_i y q1 q2 q3
          cases hv
          obtain ⟨el, sz, by'⟩ := y
          have := xS_ok q1
          obtain ⟨y, hy, p1, hg⟩ := den_se hd
          have hlo : lo = none := by
            cases lo with
            | none => rfl
            | some _ => simp only [evOO] at h1; split at h1 <;> cases h1
          cases hi with
          | none => cases h2
          | some hi =>
            cases mx with
            | none => cases h3
            | some mx =>
              obtain ⟨k1, e1⟩ := asN_den q2 (hE.op (evOO_some h2))
              obtain ⟨k2, e2⟩ := asN_den q3 (hE.op (evOO_some h3))
              subst hlo
              exact DX.sl3 ho hw p1 e1 e2 (Nat.le_refl _) (Nat.zero_le _) (k.here hs hh (mk_se hy hg))
        · cases hv
      · cases hv
  · cases hr
end
end Go.Proofs.Zz

namespace Go.Proofs.Zz
open Go
variable [LoopOk]
section
variable {P : Program}

theorem denL_putL {σ : Sg} {cs vs r : List V} {cs' vs' : List Value} {off : Nat} (h : putL cs off vs = some r) (hc : denL σ cs = some cs') (hv : denL σ vs = some vs') (rest : List Value) :
    denL σ r = some (cs'.take off ++ vs' ++ cs'.drop (off + vs'.length)) ∧ off + vs'.length ≤ cs'.length ∧ putC (cs' ++ rest).toArray off vs' = ((cs'.take off ++ vs' ++ cs'.drop (off + vs'.length)) ++ rest).toArray := by
  unfold putL at h
  cases hb : Nat.ble (off + vs.length) cs.length with
  | false => rw [hb] at h; cases h
  | true =>
    rw [hb] at h; cases h
    have hle := Nat.le_of_ble_eq_true hb
    have e1 := denL_length hc
    have e2 := denL_length hv
    refine ⟨?_, by omega, ?_⟩
    · have := denL_append (denL_append (denL_take off hc) hv) (denL_drop (off + vs.length) hc)
      rw [e2]; exact this
    · simp only [putC]
      rw [List.take_append_of_le_length (by omega), List.drop_append_of_le_length (by omega)]
      simp

theorem fillV_ok {σ : Sg} {place : Nat → Option (Nat × Nat)} : ∀ {parts : List (Nat × V)} {cells r : List V} {cells' : List Value} {parts' : List (Nat × Value)}, fillV place cells parts = some r → denL σ cells = some cells' →
    (parts'.map Prod.fst = parts.map Prod.fst) → denL σ (parts.map Prod.snd) = some (parts'.map Prod.snd) → ∃ r', denL σ r = some r' ∧ fillL place cells'.toArray parts' = some r'.toArray
  | [], cells, r, cells', parts', h, hc, hf, hs => by
    cases h
    cases parts' with
    | nil => exact ⟨cells', hc, rfl⟩
    | cons _ _ => cases hf
  | (i, v) :: ps, cells, r, cells', parts', h, hc, hf, hs => by
    cases parts' with
    | nil => cases hf
    | cons p' ps' =>
      obtain ⟨i', v'⟩ := p'
      simp only [List.map_cons, List.cons.injEq] at hf
      obtain ⟨rfl, hf⟩ := hf
      simp only [List.map_cons] at hs
      obtain ⟨w, t, hv, ht, he⟩ := denL_cons hs
      simp only [List.cons.injEq] at he
      obtain ⟨rfl, rfl⟩ := he
      simp only [fillV] at h
      split at h
      · rename_i off sz hp
        cases hb : Nat.beq v.cs.length sz with
        | false => rw [hb] at h; cases h
        | true =>
          rw [hb] at h
          simp only [cond_true] at h
          split at h
          · rename_i l hl
            have hcs := den_cs hv
            have hlen := denL_length hcs
            obtain ⟨a1, a2, a3⟩ := denL_putL hl hc hcs []
            obtain ⟨r', b1, b2⟩ := fillV_ok h a1 hf ht
            refine ⟨r', b1, ?_⟩
            simp only [fillL, hp]
            have hsz : v'.cells.size = sz := by
              have := Nat.eq_of_beq_eq_true hb
              simp only [Array.length_toList] at hlen
              omega
            have hc1 : (Nat.beq v'.cells.size sz && Nat.ble (off + sz) cells'.toArray.size) = true := by
              rw [hsz, Nat.beq_refl, Bool.true_and]
              refine Nat.ble_eq_true_of_le ?_
              simp only [Array.length_toList] at a2
              simp; omega
            rw [hc1]
            simp only [List.append_nil] at a3
            simp only [cond_true, a3]
            exact b2
          · cases h
      · cases h

theorem evP_ok {σ : Sg} {e : T V} {ρ : Env} (hE : ER σ e ρ) : ∀ {l : List (Nat × Operand)} {r : List (Nat × V)}, optL (evP e) l = some r → r.map Prod.fst = l.map Prod.fst ∧ denL σ (r.map Prod.snd) = some (l.map fun p => evE ρ p.2)
  | [], r, h => by cases h; exact ⟨rfl, rfl⟩
  | p :: l, r, h => by
    rw [optL] at h
    split at h
    · rename_i b hb
      split at h
      · rename_i l' hl
        cases h
        obtain ⟨h1, h2⟩ := evP_ok hE hl
        unfold evP at hb
        split at hb
        · rename_i v hv
          cases hb
          exact ⟨by simp [h1], denL_mk (hE.op hv) h2⟩
        · cases hb
      · cases h
    · cases h

theorem xPl_ok : ∀ {l : List Field} {r : List (Nat × Nat)}, xPl P l = some r → l.mapM (fun f => (P.info? f.type).map fun i => (f.offset, i.size)) = some r
  | [], r, h => by cases h; rfl
  | f :: l, r, h => by
    rw [xPl] at h
    split at h
    · rename_i i l' h1 h2
      cases h
      simp [List.mapM_cons, tI_ok h1, xPl_ok h2]
    · cases h

theorem hBuild_ok (t : TypeId) (parts : Array (Nat × Operand)) : HdOk P ⟨hBuild t parts⟩ (.build t parts) := by
  intro ops bs ord K PK Rl i is ρ I F own dst ty pos af g σ nx nx' h h' π v e ld cx ho hw hc hP hgl hor hcall hr hE hs hh hrl k
  subst hP
  simp only [hBuild] at hr
  split at hr
  · rename_i pl z hpl hz
    split at hr
    · rename_i ps hps
      split at hr
      · rename_i l hl
        obtain ⟨rfl, rfl, rfl, rfl⟩ := okV_inv hr
        obtain ⟨z', hz', hzd⟩ := zV_ok hz
        obtain ⟨p1, p2⟩ := evP_ok hE hps
        have hzc := den_cs (hzd σ)
        obtain ⟨r', q1, q2⟩ := fillV_ok (parts' := parts.toList.map fun x => (x.1, evE ρ x.2)) hl hzc (by rw [p1]; simp [Function.comp_def]) (by rw [p2]; simp [Function.comp_def])
        have q2' : fillL pl z'.cells (parts.toList.map fun x => (x.1, evE ρ x.2)) = some r'.toArray := by simpa using q2
        unfold buildP at hpl
        split at hpl
        · rename_i fs hfs
          split at hpl
          · rename_i pl' hx
            cases hpl
            have st : StT cx.P t pl' z' := ⟨by
              unfold stP
              rw [tU_ok hfs, hz'.h]
              simp only [xPl_ok hx]⟩
            have e1 : (nthL pl') = (fun x => pl'[x]?) := funext fun n => nthL_eq _ _
            rw [e1] at q2'
            exact DX.bd ho hw q2' (k.here hs hh (by rw [den, q1]))
          · cases hpl
        · rename_i n el hfs
          split at hpl
          · rename_i j hj
            cases hpl
            refine k.pure (v' := .agg r'.toArray) ho hw Nat.zero_ne_one hs hh (by rw [den, q1]) ?_
            simp only [execOp]
            refine PureT.of fun w => ?_
            obtain ⟨i', a1, a2⟩ := hz'.get
            unfold Instr.build zeroValue
            rw [run_bind_ok (a := z') (w' := w) (by rw [run_bind_ok (run_info a1), a2]; rfl), run_bind_ok (run_und (tU_ok hfs))]
            simp only
            rw [run_bind_ok (run_sizeOf (tI_ok hj))]
            have := fill_eq _ _ _ _ q2'
            rw [map_toList, this]
            rfl
          · cases hpl
        · cases hpl
      · cases hr
    · cases hr
  · cases hr

theorem hBuildS_ok (t : TypeId) (len : Nat) (parts : Array (Nat × Operand)) : HdOk P ⟨hBuildS t len parts⟩ (.buildSlice t len parts) := by
  intro ops bs ord K PK Rl i is ρ I F own dst ty pos af g σ nx nx' h h' π v e ld cx ho hw hc hP hgl hor hcall hr hE hs hh hrl k
  subst hP
  simp only [hBuildS] at hr
  split at hr
  · rename_i el sz by' hsl
    split at hr
    · rename_i z ps hz hps
      cases hb : (Nat.beq z.cs.length sz && Nat.ble (len * sz) 16777216) with
      | false => rw [hb] at hr; cases hr
      | true =>
        rw [hb] at hr
        simp only [cond_true] at hr
        simp only [Bool.and_eq_true] at hb
        split at hr
        · rename_i l hl
          obtain ⟨rfl, rfl, rfl, rfl⟩ := okN_inv hr
          obtain ⟨z', hz', hzd⟩ := zV_ok hz
          have hE' : ER (upF σ nx (some (0, 0))) e ρ := hE.mono (hs.le _)
          obtain ⟨p1, p2⟩ := evP_ok hE hps
          have hzc := den_cs (hzd σ)
          have hzs : z'.cells.size = sz := by
            have := denL_length hzc
            have := Nat.eq_of_beq_eq_true hb.1
            simp only [Array.length_toList] at *
            omega
          obtain ⟨r', q1, q2⟩ := fillV_ok (parts' := parts.toList.map fun x => (x.1, evE ρ x.2)) hl (denL_rep len hzc) (by rw [p1]; simp [Function.comp_def]) (by rw [p2]; simp [Function.comp_def])
          have := xS_ok hsl
          rw [T.get_set] at k
          refine k.mk ho hw Nat.one_ne_zero hs hh fun w => ⟨.slice (some ⟨w.heap.size, 0, none⟩) len len, .cells r'.toArray el (0, 0), w.drawn, 0, ?_, ?_, ?_⟩
          · simp only [execOp]
            rw [run_bind_ok (run_buildSlice this hz' hzs hb.2 (by rw [map_toList]; exact q2) w)]
            rfl
          · rw [mk_sl (upF_self _ _ _) (fun e => by cases e)]; rfl
          · exact ⟨0, upF_self _ _ _, r', denL_mono (hs.le _) _ _ q1, rfl⟩
        · cases hr
    · cases hr
  · cases hr
end
end Go.Proofs.Zz

namespace Go.Proofs.Zz
open Go
variable [LoopOk]
section
variable {P : Program}

theorem Kt.newB {ops : Array Oper} {bs : List Nat} {ord : Nat → Nat → Bool} {K : Env → IM → HL → Prop} {PK : List PanicEntry → IM → HL → Prop}
  {Rl : List (Nat × (Nat × Obj))} {i : Nat} {is : List Nat} {ρ : Env} {I : IM} {F own : HL} {dst : Option Nat} {σ : Sg} {nx : Nat} {f : Nat → Option O} {π : Nat → Nat × Obj} {v : V} {q : Bool} {on : O}
    (k : Kt P ops bs ord K PK is ρ dst q i σ nx f π I F Rl v (upF f nx (some on)) (nx + 1) none) (hs : Sc σ nx) (hh : HR σ f π own) {v' : Value} (b cap : Nat) {ob : Obj}
    (hv : den (upF σ nx (some (b, cap))) v = some v') (ho : OR (upF σ nx (some (b, cap))) nx on (b, ob)) : DX P ops bs ord K PK Rl is (updE ρ dst v') I ((b, ob) :: (own ++ F)) :=
  k _ _ v' I _ Rl (hs.le _) (hs.up _) hv (hh.new hs (p := (b, ob)) ho) (Ext.new hs (hh.fresh hs (Nat.le_refl _)) _ _) (.refl _) fun e he => .inl he

theorem hMkS_ok (t : TypeId) (l c : Operand) : HdOk P ⟨hMkS t l c⟩ (.makeSlice t l c) := by
  intro ops bs ord K PK Rl i is ρ I F own dst ty pos af g σ nx nx' h h' π v e ld cx ho hw hc hP hgl hor hcall hr hE hs hh hrl k
  subst hP
  simp only [hMkS] at hr
  split at hr
  · rename_i lv cv hl hcv
    unfold mkSV at hr
    split at hr
    · rename_i el sz by' n m q1 q2 q3
      split at hr
      · rename_i z hz
        cases hb : (Nat.ble n m && Nat.ble m 1000000 && Nat.ble (by' * m) 1000000 && Nat.beq z.cs.length sz) with
        | false => rw [hb] at hr; cases hr
        | true =>
          rw [hb] at hr
          obtain ⟨rfl, rfl, rfl, rfl⟩ := okN_inv hr
          simp only [Bool.and_eq_true] at hb
          obtain ⟨⟨⟨b1, b2⟩, b3⟩, b4⟩ := hb
          have b1 := Nat.le_of_ble_eq_true b1
          have b2 := Nat.le_of_ble_eq_true b2
          have b3 := Nat.le_of_ble_eq_true b3
          have b4 := Nat.eq_of_beq_eq_true b4
          obtain ⟨z', hz', hzd⟩ := zV_ok hz
          have hzc := fun σ => den_cs (hzd σ)
          have hzs : z'.cells.size = sz := by
            have := denL_length (hzc σ)
            simp only [Array.length_toList] at this
            omega
          obtain ⟨k1, e1⟩ := asN_den q2 (hE.op hl)
          obtain ⟨k2, e2⟩ := asN_den q3 (hE.op hcv)
          have := xS_ok q1
          rw [T.get_set] at k
          refine DX.mkS2 b1 ho hw hzs e1 e2 (by omega) (by omega) fun b => ?_
          exact k.newB hs hh b 0 (by rw [mk_sl (upF_self _ _ _) (fun e => by cases e)]; rfl) ⟨0, upF_self _ _ _, _, denL_rep m (hzc _), rfl⟩
      · cases hr
    · cases hr
  · cases hr

theorem u8T_ok {t : TypeId} (h : u8T P t = true) : P.underlying t = some (.int .u8) := by
  unfold u8T at h
  split at h
  · rename_i h1; exact tU_ok h1
  · cases h

theorem denL_bytes (σ : Sg) : ∀ (l : List UInt8), denL σ (l.map fun c => .int .u8 c.toNat) = some (bytesV l)
  | [] => rfl
  | c :: l => denL_mk rfl (denL_bytes σ l)

theorem optL_byte {σ : Sg} : ∀ {l : List V} {s : List UInt8} {l' : List Value}, optL byteOf l = some s → denL σ l = some l' → l' = bytesV s
  | [], s, l', h, hd => by cases h; rw [denL] at hd; cases hd; rfl
  | v :: l, s, l', h, hd => by
    rw [optL] at h
    split at h
    · rename_i b hb
      split at h
      · rename_i t ht
        cases h
        obtain ⟨w, u, h1, h2, rfl⟩ := denL_cons hd
        have e1 := optL_byte ht h2
        unfold byteOf at hb
        split at hb
        · rename_i n
          cases hlt : Nat.blt n 256 with
          | false => rw [hlt] at hb; cases hb
          | true =>
            rw [hlt] at hb
            cases hb
            have := bltLt hlt
            rw [den_int h1, e1]
            simp only [bytesV, List.map_cons]
            congr 2
            simp
            omega
        · cases hb
      · cases h
    · cases h
end
end Go.Proofs.Zz

namespace Go.Proofs.Zz
open Go
variable [LoopOk]
section
variable {P : Program}

theorem run_b2s {w : World} {b off : Nat} {cs : Array Value} {e : TypeId} {fr : Nat × Nat} {ns : List Nat} {cap : Nat} (h : w.heap[b]? = some (.cells cs e fr)) (hle : off + ns.length ≤ cs.size)
    (hc : cut cs off ns.length = (ns.map fun (n : Nat) => Value.int .u8 (n : Int)).toArray) : (Conv.bytesToString (.slice (some ⟨b, off, none⟩) ns.length cap)).run P w = .ok (Zz.str (ns.map UInt8.ofNat)) w := by
  unfold Conv.bytesToString
  simp only
  rw [run_bind_ok (run_loadCells h hle), hc, ← Array.forIn_toList]
  simp only
  generalize hg : (fun (c : Value) (s : ByteArray) => _ : Value → ByteArray → Sem (ForInStep ByteArray)) = g
  have hgs : ∀ (n : Nat) (s : ByteArray), g (Value.int .u8 (n : Int)) s = pure (ForInStep.yield (s.push (UInt8.ofNat n))) := fun n s => by rw [← hg]; rfl
  have key : ∀ (ns : List Nat) (s : ByteArray), (forIn (m := Sem) (ns.map fun (n : Nat) => Value.int .u8 (n : Int)) s g).run P w = .ok (⟨(s.data.toList ++ ns.map UInt8.ofNat).toArray⟩) w := by
    intro ns
    induction ns with
    | nil => intro s; simp only [List.map_nil, List.forIn_nil, List.append_nil]; rfl
    | cons n ns ih =>
      intro s
      have := ih (s.push (UInt8.ofNat n))
      simp only [List.map_cons, List.forIn_cons, hgs]
      rw [run_bind_ok (run_pure _)]
      simp only
      rw [this]
      simp [ByteArray.push]
  rw [run_bind_ok (key ns ByteArray.empty)]
  rfl

theorem run_mark {w : World} {b off : Nat} {cs : Array Value} {e : TypeId} {lo hi : Nat} (h : w.heap[b]? = some (.cells cs e (lo, hi))) :
    (markStringish ⟨b, off, none⟩).run P w = .ok () { w with heap := w.heap.setIfInBounds b (.cells cs e (if lo == hi then (cs.size, cs.size + 1) else (min lo cs.size, max hi (cs.size + 1)))) } := by
  unfold markStringish
  simp only [shape, freeze]
  show Sem.run P (Sem.shape _ _) _ = _
  simp only [Sem.run, World.shape?, h]
  show Sem.run P (Sem.freeze _ _ _) _ = _
  simp only [Sem.run, World.freeze]
  simp
  apply Array.ext_getElem?
  intro k
  simp only [Array.getElem?_modify, Array.getElem?_setIfInBounds]
  split
  · rename_i hk
    subst hk
    have hlt := (Array.getElem?_eq_some_iff.1 h).1
    rw [h]; simp [hlt]
  · rfl

theorem EffT.of {s : Sem Next} {I : IM} {own : HL} {R : Res → IM → HL → Prop}
    (h : ∀ w0 w F, St w0 I (own ++ F) w → ∃ nx w' own', s.run P w = .ok nx w' ∧ St w0 I (own' ++ F) w' ∧ ((nx = .skip ∧ R (.ret undef) I own') ∨ ∃ v, nx = .value v ∧ R (.ret v) I own')) : EffT P s I own R := by
  intro w0 w F hst
  obtain ⟨nx, w', own', h1, h2, h3⟩ := h w0 w F hst
  rw [h1]
  rcases h3 with ⟨rfl, h3⟩ | ⟨v, rfl, h3⟩
  · exact ⟨I, own', IM.le.refl _, h2, h3⟩
  · exact ⟨I, own', IM.le.refl _, h2, h3⟩

/-- A block is changed: the run's step. -/
theorem Rq.set {σ : Sg} {nx : Nat} {f : Nat → Option O} {π : Nat → Nat × Obj} {v : V} {v' : Value} {b : Nat} {o o' : O} {own own' : HL} {I : IM} {ob : Obj} (hs : Sc σ nx) (hb : f b = some o)
    (hp : own.Perm (π b :: own')) (hh : HR σ (upF f b none) π own') (hv : den σ v = some v') (ho : OR σ b o' ((π b).1, ob)) : Rq σ nx f π v (upF f b (some o')) nx (.ret v') I (((π b).1, ob) :: own') :=
  ⟨v', σ, _, rfl, .refl _, hs, hv, HR.set hp hh ho, Ext.set hb _ _⟩

/-- An effect on one block. -/
theorem EffT.one {s : Sem Value} {σ : Sg} {nx : Nat} {f : Nat → Option O} {π : Nat → Nat × Obj} {v : V} {v' : Value} {b : Nat} {o o' : O} {own : HL} {I : IM} {ob : Obj} (hs : Sc σ nx) (hh : HR σ f π own) (hb : f b = some o)
    (hv : den σ v = some v') (ho : OR σ b o' ((π b).1, ob))
    (hr : ∀ w : World, w.heap[(π b).1]? = some (π b).2 → s.run P w = .ok v' { w with heap := w.heap.setIfInBounds (π b).1 ob }) : EffT P (do pure (Next.value (← s))) I own (Rq σ nx f π v (upF f b (some o')) nx) := by
  obtain ⟨own', hp, hh'⟩ := hh.split hb
  refine EffT.of fun w0 w F hst => ?_
  have hst' := hst.perm (hp.append_right F)
  refine ⟨.value v', { w with heap := w.heap.setIfInBounds (π b).1 ob }, ((π b).1, ob) :: own', ?_, ?_, .inr ⟨_, rfl, Rq.set hs hb hp hh' hv ho⟩⟩
  · rw [run_bind_ok (hr w (hst'.own _ List.mem_cons_self))]; rfl
  · exact hst'.set
theorem EffT.oneU {s : Sem Unit} {σ : Sg} {nx : Nat} {f : Nat → Option O} {π : Nat → Nat × Obj} {b : Nat} {o o' : O} {own : HL} {I : IM} {ob : Obj} (hs : Sc σ nx) (hh : HR σ f π own) (hb : f b = some o)
    (ho : OR σ b o' ((π b).1, ob))
    (hr : ∀ w : World, w.heap[(π b).1]? = some (π b).2 → s.run P w = .ok () { w with heap := w.heap.setIfInBounds (π b).1 ob }) : EffT P (do s; pure Next.skip) I own (Rq σ nx f π u0 (upF f b (some o')) nx) := by
  obtain ⟨own', hp, hh'⟩ := hh.split hb
  refine EffT.of fun w0 w F hst => ?_
  have hst' := hst.perm (hp.append_right F)
  refine ⟨.skip, { w with heap := w.heap.setIfInBounds (π b).1 ob }, ((π b).1, ob) :: own', ?_, ?_, .inl ⟨rfl, Rq.set hs hb hp hh' rfl ho⟩⟩
  · rw [run_bind_ok (hr w (hst'.own _ List.mem_cons_self))]; rfl
  · exact hst'.set
/-- An effect that changes nothing. -/
theorem EffT.no {s : Sem Value} {σ : Sg} {nx : Nat} {f : Nat → Option O} {π : Nat → Nat × Obj} {v : V} {v' : Value} {own : HL} {I : IM} (hs : Sc σ nx) (hh : HR σ f π own)
    (hv : den σ v = some v') (hr : ∀ w : World, (∀ b o, f b = some o → w.heap[(π b).1]? = some (π b).2) → s.run P w = .ok v' w) : EffT P (do pure (Next.value (← s))) I own (Rq σ nx f π v f nx) := by
  refine EffT.of fun w0 w F hst => ⟨.value v', w, own, ?_, hst, .inr ⟨_, rfl, v', σ, π, rfl, .refl _, hs, hv, hh, .refl _ _ _ _⟩⟩
  rw [run_bind_ok (hr w fun b o hb => hst.own _ (List.mem_append_left _ (hh.mem hb)))]; rfl
theorem setSelf {w : World} {b : Nat} {o : Obj} (h : w.heap[b]? = some o) : { w with heap := w.heap.setIfInBounds b o } = w := by
  have : w.heap.setIfInBounds b o = w.heap := by
    apply Array.ext_getElem?
    intro k
    simp only [Array.getElem?_setIfInBounds]
    split
    · rename_i hk; subst hk; rw [h]; simp [(Array.getElem?_eq_some_iff.1 h).1]
    · rfl
  rw [this]
end
end Go.Proofs.Zz

namespace Go.Proofs.Zz
open Go
variable [LoopOk]
section
variable {P : Program}

theorem cls2 {bs : List Nat} {s d : TypeId} {x : Operand} (h : Nat.beq s d = true) : opCls bs (.convert s d x) = 2 := by simp [opCls, h]
theorem cls0 {bs : List Nat} {s d : TypeId} {x : Operand} (h : Nat.beq s d = false) (hb : bs.contains d = false) : opCls bs (.convert s d x) = 0 := by
  show (bif Nat.beq s d then 2 else if bs.contains d = true then 1 else 0) = 0
  rw [h, hb]; rfl

theorem OR.sz {σ : Sg} {k : Nat} {l : List V} {e : TypeId} {fz : Nat × Nat} {p : Nat × Obj} (h : OR σ k (.cells l e fz) p) : ∃ l', denL σ l = some l' ∧ p.2 = .cells l'.toArray e fz ∧ l'.toArray.size = l.length := by
  obtain ⟨c, h1, l', h2, h3⟩ := h
  exact ⟨l', h2, h3, by simpa using denL_length h2⟩

theorem hConv_ok (s d : TypeId) (x : Operand) : HdOk P ⟨hConv s d x⟩ (.convert s d x) := by
  intro ops bs ord K PK Rl i is ρ I F own dst ty pos af g σ nx nx' h h' π v e ld cx ho hw hc hP hgl hor hcall hr hE hs hh hrl k
  subst hP
  simp only [hConv] at hr
  split at hr
  · rename_i ds dd u hds hdd hu
    have hd := hE.op hu
    have u1 := tU_ok hds
    have u2 := tU_ok hdd
    cases hsd : Nat.beq s d with
    | true =>
      rw [hsd] at hr
      simp only [cond_true] at hr
      have hcls := cls2 (bs := bs) (x := x) hsd
      have e1 := Nat.eq_of_beq_eq_true hsd
      subst e1
      rw [hds] at hdd; cases hdd
      split at hr
      · rename_i el
        cases hu8 : u8T cx.P el with
        | false => rw [hu8] at hr; cases hr
        | true =>
          rw [hu8] at hr
          simp only [cond_true] at hr
          have u3 := u8T_ok hu8
          rw [hcls] at k
          simp only [Nat.beq_refl, Bool.not_true] at k
          have hconv : ∀ a n c w w', (markStringish a).run cx.P w = .ok () w' → (convert s s (.slice (some a) n c)).run cx.P w = .ok (.slice (some a) n c) w' := fun a n c w w' hm => by
            unfold convert
            rw [run_bind_ok (run_und u1), run_bind_ok (run_und u1)]
            simp only
            rw [run_bind_ok (run_und u3)]
            simp only [BEq.rfl]
            rw [run_bind_ok hm]
            rfl
          unfold markV at hr
          split at hr
          · rename_i b off len cap gr
            obtain ⟨y, hy, hpe, hgg⟩ := den_sl hd
            split at hr
            · rename_i l el' fz hb
              cases hr
              obtain ⟨l', h2, h3, h4⟩ := (hh.at hb).sz
              have hblk := (hh.at hb).blk hy
              refine k.eff ho hw hcls (hrl hcls) ?_
              rw [T.get_set]
              simp only [execOp]
              refine EffT.one (ob := .cells l'.toArray el' (if fz.1 == fz.2 then (l'.toArray.size, l'.toArray.size + 1) else (min fz.1 l'.toArray.size, max fz.2 (l'.toArray.size + 1)))) hs hh hb hd ⟨y.2, ?_, l', h2, ?_⟩ fun w hw' => ?_
              · rw [hy, ← hblk]
              · rw [h4]
                cases hz : Nat.beq fz.1 fz.2 with
                | true => rw [if_pos (by simp [Nat.eq_of_beq_eq_true hz])]; rfl
                | false => rw [if_neg (by simp [Nat.ne_of_beq_eq_false hz])]; rfl
              · rw [hpe]
                refine hconv _ _ _ _ _ ?_
                rw [hblk]
                obtain ⟨lo, hi⟩ := fz
                rw [h3] at hw'
                exact run_mark hw'
            · rename_i l el' sz fz hb
              cases hr
              obtain ⟨c, hc1, l', rest, fr, h2, h3, h4, h5⟩ := hh.at hb
              rw [cond_true] at h5
              have hblk := (hh.at hb).blk hy
              refine k.eff ho hw hcls (hrl hcls) ?_
              rw [T.get_set]
              simp only [execOp]
              obtain ⟨lo, hi⟩ := fr
              refine EffT.one (ob := .cells (l' ++ rest).toArray el' (if lo == hi then ((l' ++ rest).toArray.size, (l' ++ rest).toArray.size + 1) else (min lo (l' ++ rest).toArray.size, max hi ((l' ++ rest).toArray.size + 1)))) hs hh hb hd ⟨c, ?_, l', rest, _, h2, rfl, h4, ?_⟩ fun w hw' => ?_
              · rw [hc1]
              · rw [cond_true]
                have e2 : ((l' ++ rest).toArray.size) = c * sz := by simpa using h4
                rw [e2]
                simp only at h5
                split
                · right; simp
                · rename_i hne
                  simp only [beq_iff_eq] at hne
                  simp only
                  omega
              · rw [hpe]
                refine hconv _ _ _ _ _ ?_
                rw [hblk]
                rw [h3] at hw'
                exact run_mark (P := cx.P) (off := off) hw'
            · cases hr
          · cases hr
      · cases hr
    | false =>
      rw [hsd] at hr
      simp only [cond_false] at hr
      have hne : s ≠ d := fun e => by subst e; rw [Nat.beq_refl] at hsd; cases hsd
      simp only [opOk, mkCv, hds, hdd] at hc
      unfold cvV at hr
      split at hr
      · -- numbers
        rename_i _ kd _ n
        obtain ⟨rfl, rfl, rfl, rfl⟩ := okV_inv hr
        have hbs : bs.contains d = false := by simpa using hc
        have : CvI cx.P s d kd := ⟨by rw [u1]; rfl, u2⟩
        exact DX.cv ho hw hbs (den_int hd) rfl (k.here hs hh rfl)
      · rename_i l
        obtain ⟨rfl, rfl, rfl, rfl⟩ := okV_inv hr
        have hbs : bs.contains d = false := by simpa using hc
        refine k.pure ho hw (by rw [cls0 hsd hbs]; decide) hs hh hd ?_
        simp only [execOp]
        refine PureT.of fun w => ?_
        rw [den_str hd]
        unfold convert
        rw [run_bind_ok (run_und u1), run_bind_ok (run_und u2)]
        rfl
      · rename_i el l
        cases hu8 : u8T cx.P el with
        | false => rw [hu8] at hr; cases hr
        | true =>
          rw [hu8] at hr
          obtain ⟨rfl, rfl, rfl, rfl⟩ := okN_inv hr
          have hbs : bs.contains d = true := by simpa using hc
          have : CvS cx.P s d el := ⟨u1, u2, u8T_ok hu8⟩
          rw [T.get_set] at k
          refine DX.s2b (e := el) ho hw hbs (den_str hd) fun b cap sp q1 q2 => ?_
          refine k.newB hs hh b cap ?_ ⟨cap, upF_self _ _ _, _, sp, _, denL_bytes _ _, rfl, by simp [bytesV]; omega, ?_⟩
          · rw [mk_sl (upF_self _ _ _) (fun _ => by simpa using q1)]; simp
          · simp
      · rename_i el
        cases hu8 : u8T cx.P el with
        | false => rw [hu8] at hr; cases hr
        | true =>
          rw [hu8] at hr
          obtain ⟨rfl, rfl, rfl, rfl⟩ := okV_inv hr
          have hbs : bs.contains d = false := by simpa using hc
          refine k.pure (v' := Zz.str []) ho hw (by rw [cls0 hsd hbs]; decide) hs hh rfl ?_
          simp only [execOp]
          refine PureT.of fun w => ?_
          have p1 : evE ρ x = .slice none 0 0 := by simp only [den] at hd; exact (Option.some.inj hd).symm
          rw [p1]
          unfold convert
          rw [run_bind_ok (run_und u1), run_bind_ok (run_und u2)]
          simp only
          rw [run_bind_ok (run_und (u8T_ok hu8))]
          rfl
      · rename_i el b off len cap gr
        cases hu8 : u8T cx.P el with
        | false => rw [hu8] at hr; cases hr
        | true =>
          rw [hu8] at hr
          simp only [cond_true] at hr
          split at hr
          · rename_i l hl
            cases hle : Nat.ble (off + len) l.length with
            | false => rw [hle] at hr; cases hr
            | true =>
              rw [hle] at hr
              simp only [cond_true] at hr
              split at hr
              · rename_i sv hsv
                cases hr
                have hle := Nat.le_of_ble_eq_true hle
                have hbs : bs.contains d = false := by simpa using hc
                unfold kn? at hl
                cases hb : h.get b with
                | none => rw [hb] at hl; cases hl
                | some ob =>
                  rw [hb] at hl
                  obtain ⟨cs', rest, e', fr, h1, h2⟩ := known_ok (hh.at hb) hl
                  obtain ⟨y, hy, hpe, _⟩ := den_sl hd
                  have hblk := (hh.at hb).blk hy
                  have hcl := denL_length h1
                  have n0 := optL_byte hsv (denL_take len (denL_drop off h1))
                  obtain ⟨ns, n1, n2⟩ : ∃ ns : List Nat, List.take len (List.drop off cs') = ns.map (fun (n : Nat) => Value.int .u8 (n : Int)) ∧ sv = ns.map UInt8.ofNat := ⟨sv.map UInt8.toNat, by rw [n0]; simp [bytesV], by rw [List.map_map]; exact (List.map_id sv).symm.trans (List.map_congr_left fun b _ => by simp)⟩
                  have nl : ns.length = len := by
                    have := congrArg List.length n1
                    simp only [List.length_map, List.length_take, List.length_drop] at this
                    omega
                  refine k.load ho hw (by rw [cls0 hsd hbs]; decide) hs hh rfl hb ?_
                  simp only [execOp]
                  refine LoadT.of fun w hw' => ?_
                  rw [hpe, hblk]
                  rw [h2] at hw'
                  unfold convert
                  rw [run_bind_ok (run_und u1), run_bind_ok (run_und u2)]
                  simp only
                  rw [run_bind_ok (run_und (u8T_ok hu8))]
                  simp only
                  subst nl
                  rw [run_b2s hw' (by simp; omega), n2]
                  simp only [cut]
                  rw [List.drop_append_of_le_length (by omega), List.take_append_of_le_length (by simp; omega), n1]
              · cases hr
          · cases hr
      · rename_i ut b
        split at hr
        · rename_i l el fz hb
          cases hok : headOk cx.P el ut l.length with
          | false => rw [hok] at hr; cases hr
          | true =>
            rw [hok] at hr; cases hr
            have hbs : bs.contains d = false := by simpa using hc
            obtain ⟨l', h2, h3, h4⟩ := (hh.at hb).sz
            obtain ⟨y, hy, hpe⟩ := den_ptr hd
            have hblk := (hh.at hb).blk hy
            unfold headOk at hok
            split at hok
            · rename_i j hj
              simp only [Bool.and_eq_true, Bool.not_eq_true'] at hok
              refine k.load ho hw (by rw [cls0 hsd hbs]; decide) hs hh hd hb ?_
              simp only [execOp]
              refine LoadT.of fun w hw' => ?_
              rw [hpe, hblk]
              rw [h3] at hw'
              exact Go.Lib.run_to_unsafe _ _ u1 u2 (tI_ok hj) (Nat.ne_of_beq_eq_false hok.1.1) (e := el) (cells := l.length) (by simp [World.shape?, hw', ← h4]) (bltLt hok.1.2)
            · cases hok
        · cases hr
      · rename_i ut b
        split at hr
        · rename_i l el fz hb
          cases hok : headOk cx.P el ut l.length with
          | false => rw [hok] at hr; cases hr
          | true =>
            rw [hok] at hr; cases hr
            have hbs : bs.contains d = false := by simpa using hc
            obtain ⟨l', h2, h3, h4⟩ := (hh.at hb).sz
            obtain ⟨y, hy, hpe⟩ := den_ptr hd
            have hblk := (hh.at hb).blk hy
            unfold headOk at hok
            split at hok
            · rename_i j hj
              simp only [Bool.and_eq_true, Bool.not_eq_true'] at hok
              refine k.load ho hw (by rw [cls0 hsd hbs]; decide) hs hh hd hb ?_
              simp only [execOp]
              refine LoadT.of fun w hw' => ?_
              rw [hpe, hblk]
              rw [h3] at hw'
              exact Go.Lib.run_from_unsafe _ _ u1 u2 (tI_ok hj) (e := el) (cells := l.length) (by simp [World.shape?, hw', ← h4]) hok.2
            · cases hok
        · cases hr
      · cases hr
  · cases hr
end
end Go.Proofs.Zz

namespace Go.Proofs.Zz
open Go
variable [LoopOk]
section
variable {P : Program} {σ : Sg}

theorem denM_cons {k v : V} {b : Nat} {l : List (V × V × Nat)} {l' : List MapEntry} (h : denM σ ((k, v, b) :: l) = some l') : ∃ k' v' t', den σ k = some k' ∧ den σ v = some v' ∧ denM σ l = some t' ∧ l' = { key := k', val := v', born := b } :: t' := by
  rw [denM] at h
  split at h
  · rename_i k' v' t' h1 h2 h3; cases h; exact ⟨_, _, _, h1, h2, h3, rfl⟩
  · cases h
theorem denM_mk {k v : V} {b : Nat} {l : List (V × V × Nat)} {k' v' : Value} {t' : List MapEntry} (h1 : den σ k = some k') (h2 : den σ v = some v') (h3 : denM σ l = some t') : denM σ ((k, v, b) :: l) = some ({ key := k', val := v', born := b } :: t') := by
  rw [denM, h1, h2, h3]
theorem denM_length : ∀ {l : List (V × V × Nat)} {l' : List MapEntry}, denM σ l = some l' → l'.length = l.length
  | [], _, e => by rw [denM] at e; cases e; rfl
  | (k, v, b) :: l, _, e => by
    obtain ⟨k', v', t', h1, h2, h3, rfl⟩ := denM_cons e
    simp [denM_length h3]
theorem denM_append : ∀ {a b : List (V × V × Nat)} {a' b' : List MapEntry}, denM σ a = some a' → denM σ b = some b' → denM σ (a ++ b) = some (a' ++ b')
  | [], _, _, _, e, f => by rw [denM] at e; cases e; exact f
  | (k, v, b) :: l, _, _, _, e, f => by
    obtain ⟨k', v', t', h1, h2, h3, rfl⟩ := denM_cons e
    exact denM_mk h1 h2 (denM_append h3 f)
theorem denM_get : ∀ {l : List (V × V × Nat)} {l' : List MapEntry} {i : Nat} {k v : V} {b : Nat}, denM σ l = some l' → l[i]? = some (k, v, b) → ∃ k' v', l'[i]? = some { key := k', val := v', born := b } ∧ den σ k = some k' ∧ den σ v = some v'
  | [], _, i, _, _, _, e, h => by simp at h
  | (k0, v0, b0) :: l, _, i, k, v, b, e, h => by
    obtain ⟨k', v', t', h1, h2, h3, rfl⟩ := denM_cons e
    cases i with
    | zero => simp at h; obtain ⟨rfl, rfl, rfl⟩ := h; exact ⟨k', v', rfl, h1, h2⟩
    | succ i => simp at h; simpa using denM_get h3 h
theorem denM_modify {f : V × V × Nat → V × V × Nat} {g : MapEntry → MapEntry} : ∀ {l : List (V × V × Nat)} {l' : List MapEntry} {i : Nat}, denM σ l = some l' →
    (∀ k v b k' v', l[i]? = some (k, v, b) → den σ k = some k' → den σ v = some v' → den σ (f (k, v, b)).1 = some (g { key := k', val := v', born := b }).key ∧ den σ (f (k, v, b)).2.1 = some (g { key := k', val := v', born := b }).val ∧ (f (k, v, b)).2.2 = (g { key := k', val := v', born := b }).born) →
    denM σ (l.modify i f) = some (l'.modify i g)
  | [], _, i, e, h => by rw [denM] at e; cases e; cases i <;> rfl
  | (k0, v0, b0) :: l, _, i, e, h => by
    obtain ⟨k', v', t', h1, h2, h3, rfl⟩ := denM_cons e
    cases i with
    | zero =>
      obtain ⟨a1, a2, a3⟩ := h k0 v0 b0 k' v' rfl h1 h2
      simp only [List.modify_zero_cons]
      generalize f (k0, v0, b0) = p at a1 a2 a3
      obtain ⟨p1, p2, p3⟩ := p
      simp only at a1 a2 a3
      rw [denM_mk a1 a2 h3, a3]
    | succ i =>
      simp only [List.modify_succ_cons]
      exact denM_mk h1 h2 (denM_modify h3 fun k v b k' v' hg => h k v b k' v' (by simpa using hg))
theorem denM_erase : ∀ {l : List (V × V × Nat)} {l' : List MapEntry} (i : Nat), denM σ l = some l' → denM σ (l.eraseIdx i) = some (l'.eraseIdx i)
  | [], _, i, e => by rw [denM] at e; cases e; rfl
  | (k0, v0, b0) :: l, _, i, e => by
    obtain ⟨k', v', t', h1, h2, h3, rfl⟩ := denM_cons e
    cases i with
    | zero => simpa using h3
    | succ i => simp only [List.eraseIdx_cons_succ]; exact denM_mk h1 h2 (denM_erase i h3)

theorem str_beq (a b : List UInt8) : ((ByteArray.mk a.toArray) == (ByteArray.mk b.toArray)) = (a == b) := by
  show (a.toArray == b.toArray) = (a == b)
  simp

theorem same_ok {d : TypeDesc} {k k' : V} {kv kv' : Value} {b : Bool} (hkd : kindOk d k = true) (hk : den σ k = some kv) (hk' : den σ k' = some kv') (h : eqV 1 k k' = some b) : Instr.sameNow d kv kv' = some b ∧ (b = true → k' = k) := by
  unfold kindOk at hkd
  split at hkd
  · rename_i kk0 kk x
    rw [den_int hk]
    cases k' <;> try (cases h; done)
    rename_i kk' y
    rw [den_int hk']
    simp only [eqV] at h
    by_cases hkk : kk = kk'
    · subst hkk
      rw [decide_eq_true rfl] at h
      cases h
      exact ⟨by simp [Instr.sameNow], fun e => by simp at e; rw [e]⟩
    · rw [decide_eq_false hkk] at h; cases h
  · rename_i s
    rw [den_str hk]
    cases k' <;> try (cases h; done)
    rename_i s'
    rw [den_str hk']
    simp only [eqV] at h
    cases h
    exact ⟨by simp only [Instr.sameNow, Zz.str, str_beq], fun e => by simp at e; rw [e]⟩
  · rename_i x
    rw [den_bool hk]
    cases k' <;> try (cases h; done)
    rename_i y
    rw [den_bool hk']
    simp only [eqV] at h
    cases h
    exact ⟨rfl, fun e => by simp at e; rw [e]⟩
  · cases hkd

theorem find_ok {d : TypeDesc} {k : V} {kv : Value} (hkd : kindOk d k = true) (hk : den σ k = some kv) : ∀ (es : List (V × V × Nat)) (i : Nat) {r : Option (Nat × V × Nat)} {es' : List MapEntry}, findE k es i = some r → denM σ es = some es' →
    match r with
    | none => Instr.findNow d kv es' i = some none
    | some (j, v, bn) => ∃ v', Instr.findNow d kv es' i = some (some (j, v')) ∧ den σ v = some v' ∧ i ≤ j ∧ es[j - i]? = some (k, v, bn) ∧ es'[j - i]? = some { key := kv, val := v', born := bn }
  | [], i, r, es', h, hd => by rw [denM] at hd; cases hd; cases h; rfl
  | (k0, v0, b0) :: es, i, r, es', h, hd => by
    obtain ⟨k0', v0', t', h1, h2, h3, rfl⟩ := denM_cons hd
    rw [findE] at h
    split at h
    · rename_i he
      cases h
      obtain ⟨e1, e2⟩ := same_ok hkd hk h1 he
      have e2 := e2 rfl
      subst e2
      rw [hk] at h1; cases h1
      refine ⟨v0', ?_, h2, Nat.le_refl _, by simp, by simp⟩
      rw [Instr.findNow]; simp only [e1]
    · rename_i he
      obtain ⟨e1, _⟩ := same_ok hkd hk h1 he
      have ih := find_ok hkd hk es (Nat.succ i) h h3
      have hfn : ∀ (i : Nat), Instr.findNow d kv ({ key := k0', val := v0', born := b0 } :: t') i = Instr.findNow d kv t' (i + 1) := fun i => by
        rw [Instr.findNow]; simp only [e1]
      cases r with
      | none => rw [hfn]; exact ih
      | some p =>
        obtain ⟨j, v, bn⟩ := p
        obtain ⟨v', a1, a2, a3, a4, a5⟩ := ih
        refine ⟨v', by rw [hfn]; exact a1, a2, by omega, ?_, ?_⟩
        · rw [show j - i = (j - Nat.succ i) + 1 by omega]; simpa using a4
        · rw [show j - i = (j - Nat.succ i) + 1 by omega]; simpa using a5
    · cases h

theorem run_findKey {w : World} {kt : TypeId} {d : TypeDesc} {kv : Value} {es : List MapEntry} {r : Option (Nat × Value)} (hd : P.underlying kt = some d) (h : Instr.findNow d kv es 0 = some r) :
    (Instr.findKey kt kv es).run P w = .ok r w := by
  unfold Instr.findKey
  rw [run_bind_ok (run_und hd), h]
  rfl
theorem run_checkKey {w : World} {b : Bool} {kt : TypeId} {d : TypeDesc} {k : V} {kv : Value} (hd : P.underlying kt = some d) (hkd : kindOk d k = true) (hk : den σ k = some kv) : (Instr.checkKey b 10000 kt kv).run P w = .ok () w := by
  rw [show (10000 : Nat) = 9999 + 1 from rfl]
  unfold Instr.checkKey
  rw [run_bind_ok (run_und hd)]
  unfold kindOk at hkd
  split at hkd
  · rfl
  · rfl
  · rfl
  · cases hkd
theorem run_stays {w : World} {d : TypeDesc} {k : V} {kv : Value} (hkd : kindOk d k = true) (hk : den σ k = some kv) : (Instr.keyThatStays kv kv).run P w = .ok kv w := by
  unfold Instr.keyThatStays
  rw [show (10000 : Nat) = 9999 + 1 from rfl]
  unfold kindOk at hkd
  split at hkd
  · rw [den_int hk]; simp [Instr.sameBits]
  · rw [den_str hk]; simp only [Instr.sameBits, Zz.str, str_beq]; simp
  · rw [den_bool hk]; simp [Instr.sameBits]
  · cases hkd

theorem mapE_ok {t : TypeId} {d : TypeDesc} {z : Option V} (h : mapE P t = some (d, z)) : ∃ kt el, P.underlying t = some (.map kt el) ∧ P.underlying kt = some d ∧ (∀ zv, z = some zv → ∃ z', TyZ P el z' ∧ ∀ σ, den σ zv = some z') := by
  unfold mapE at h
  split at h
  · rename_i kt el h1
    split at h
    · rename_i d' h2
      cases h
      exact ⟨kt, el, tU_ok h1, tU_ok h2, fun zv hz => zV_ok hz⟩
    · cases h
  · cases h

theorem OR.map {k : Nat} {es : List (V × V × Nat)} {c : Nat} {p : Nat × Obj} (h : OR σ k (.map es c) p) : ∃ y es', σ k = some (p.1, y) ∧ denM σ es = some es' ∧ p.2 = .map es'.toArray c := by
  obtain ⟨y, h1, es', h2, h3⟩ := h; exact ⟨y, es', h1, h2, h3⟩

theorem run_getObj {w : World} {b : Nat} {o : Obj} (h : w.heap[b]? = some o) (hn : (match o with | .cells _ _ _ => false | _ => true) = true := by rfl) : (getObj b).run P w = .ok o w := by
  cases o <;> first | (cases hn; done) | simp [getObj, Sem.run, h]

theorem run_zero {w : World} {t : TypeId} {z : Value} (h : TyZ P t z) : (zeroValue t).run P w = .ok z w := by
  obtain ⟨i, h1, h2⟩ := h.get
  unfold zeroValue
  rw [run_bind_ok (run_info h1), h2]; rfl
end

section
variable {P : Program}
theorem hLook_ok (t : TypeId) (x kk : Operand) (c : Bool) : HdOk P ⟨hLook t x kk c⟩ (.lookup t x kk c) := by
  intro ops bs ord K PK Rl i is ρ I F own dst ty pos af g σ nx nx' h h' π v e ld cx ho hw hc hP hgl hor hcall hr hE hs hh hrl k
  subst hP
  simp only [hLook] at hr
  split at hr
  · rename_i m kv d z hm hkv hme
    obtain ⟨kt, el, u1, u2, hz⟩ := mapE_ok hme
    have hdm := hE.op hm
    have hdk := hE.op hkv
    cases hkd : kindOk d kv with
    | false => rw [hkd] at hr; cases hr
    | true =>
      rw [hkd] at hr
      simp only [cond_true] at hr
      split at hr
      · split at hr
        · rename_i zv
          obtain ⟨rfl, rfl, rfl, rfl⟩ := okV_inv hr
          obtain ⟨z', z1, z2⟩ := hz _ rfl
          have p1 : evE ρ x = .map none := by simp only [den] at hdm; exact (Option.some.inj hdm).symm
          refine k.pure (v' := if c then .tuple #[z', .bool false] else z') ho hw Nat.zero_ne_one hs hh ?_ ?_
          · cases c
            · exact z2 σ
            · simp only [lkV, cond_true, den, denL, z2 σ]; rfl
          · simp only [execOp, p1]
            refine PureT.of fun w => ?_
            unfold Instr.lookup
            rw [run_bind_ok (run_und u1)]
            simp only
            rw [run_bind_ok (run_pure _), run_bind_ok (run_checkKey u2 hkd hdk), run_bind_ok (a := (none : Option (Nat × Value))) (w' := w) (run_findKey u2 rfl)]
            simp only
            rw [run_bind_ok (run_zero z1), run_bind_ok (run_pure _)]
            cases c <;> rfl
        · cases hr
      · rename_i b
        obtain ⟨y, hy, p1⟩ := den_map hdm
        split at hr
        · rename_i es cl hb
          obtain ⟨yc, es', hy2, hes, hob⟩ := (hh.at hb).map
          have hblk := (hh.at hb).blk hy
          split at hr
          · rename_i j u bn hf
            cases hr
            obtain ⟨u', f1, f2, f3, f4, f5⟩ := find_ok hkd hdk es 0 hf hes
            refine k.load (v' := if c then .tuple #[u', .bool true] else u') ho hw Nat.zero_ne_one hs hh ?_ hb ?_
            · cases c
              · exact f2
              · simp only [lkV, cond_true, den, denL, f2]; rfl
            · simp only [execOp, p1, hblk]
              refine LoadT.of fun w hw' => ?_
              rw [hob] at hw'
              unfold Instr.lookup
              rw [run_bind_ok (run_und u1)]
              simp only
              rw [run_bind_ok (run_getObj hw')]
              simp only
              rw [run_bind_ok (run_pure _), run_bind_ok (run_checkKey u2 hkd hdk), run_bind_ok (run_findKey (es := es'.toArray.toList) u2 f1)]
              simp only
              rw [run_bind_ok (run_pure _)]
              cases c <;> rfl
          · rename_i hf
            split at hr
            · rename_i zv
              cases hr
              obtain ⟨z', z1, z2⟩ := hz _ rfl
              have f1 := find_ok hkd hdk es 0 hf hes
              refine k.load (v' := if c then .tuple #[z', .bool false] else z') ho hw Nat.zero_ne_one hs hh ?_ hb ?_
              · cases c
                · exact z2 σ
                · simp only [lkV, cond_true, den, denL, z2 σ]; rfl
              · simp only [execOp, p1, hblk]
                refine LoadT.of fun w hw' => ?_
                rw [hob] at hw'
                unfold Instr.lookup
                rw [run_bind_ok (run_und u1)]
                simp only
                rw [run_bind_ok (run_getObj hw')]
                simp only
                rw [run_bind_ok (run_pure _), run_bind_ok (run_checkKey u2 hkd hdk), run_bind_ok (run_findKey (es := es'.toArray.toList) u2 f1)]
                simp only
                rw [run_bind_ok (run_zero z1), run_bind_ok (run_pure _)]
                cases c <;> rfl
            · cases hr
          · cases hr
        · cases hr
      · cases hr
  · cases hr
end
end Go.Proofs.Zz

namespace Go.Proofs.Zz
open Go
variable [LoopOk]
section
variable {P : Program}

theorem run_setObj {w : World} {b : Nat} {o o' : Obj} (h : w.heap[b]? = some o) (hn : (match o with | .cells _ _ _ => false | _ => true) = true := by rfl) : (setObj b o').run P w = .ok () { w with heap := w.heap.setIfInBounds b o' } := by
  cases o <;> first | (cases hn; done) | simp [setObj, Sem.run, h]

/-- An effect that makes a block. -/
theorem EffT.new {s : Sem Value} {σ : Sg} {nx : Nat} {f : Nat → Option O} {π : Nat → Nat × Obj} {v : V} {on : O} {own : HL} {I : IM} (hs : Sc σ nx) (hh : HR σ f π own)
    (hr : ∀ w : World, (∀ b o, f b = some o → w.heap[(π b).1]? = some (π b).2) → ∃ v' ob n cap, s.run P w = .ok v' { w with heap := w.heap.push ob, drawn := n } ∧ den (upF σ nx (some (w.heap.size, cap))) v = some v' ∧ OR (upF σ nx (some (w.heap.size, cap))) nx on (w.heap.size, ob)) :
    EffT P (do pure (Next.value (← s))) I own (Rq σ nx f π v (upF f nx (some on)) (nx + 1)) := by
  refine EffT.of fun w0 w F hst => ?_
  obtain ⟨v', ob, n, cap, h1, h2, h3⟩ := hr w fun b o hb => hst.own _ (List.mem_append_left _ (hh.mem hb))
  refine ⟨.value v', _, (w.heap.size, ob) :: own, by rw [run_bind_ok h1]; rfl, hst.push ob n, .inr ⟨_, rfl, v', _, _, rfl, hs.le _, hs.up _, h2, hh.new hs (p := (w.heap.size, ob)) h3, Ext.new hs (hh.fresh hs (Nat.le_refl _)) _ _⟩⟩

theorem hUpd_ok (t : TypeId) (m kk x : Operand) : HdOk P ⟨hUpd t m kk x⟩ (.mapUpdate t m kk x) ∧ HdOk P ⟨hUpd t m kk x⟩ (.insert t m kk x) := by
  have main : ∀ {bs : List Nat} {ord : Nat → Nat → Bool} {ρ : Env} {I : IM} {own : HL} {σ : Sg} {nx nx' : Nat} {h h' : T O} {π : Nat → Nat × Obj} {v : V} {e : T V} {ld : Option Nat} {cx : Cx}, cx.P = P →
      hUpd t m kk x cx e h nx = some (v, h', nx', ld) → ER σ e ρ → Sc σ nx → HR σ h.get π own → v = u0 ∧ ld = none ∧ EffT P (do Instr.mapUpdate t (evE ρ m) (evE ρ kk) (evE ρ x); pure Next.skip) I own (Rq σ nx h.get π v h'.get nx') := by
    intro bs ord ρ I own σ nx nx' h h' π v e ld cx hP hr hE hs hh
    subst hP
    simp only [hUpd] at hr
    split at hr
    · rename_i b kv vv d z hm hkv hvv hme
      obtain ⟨kt, el, u1, u2, -⟩ := mapE_ok hme
      obtain ⟨y, hy, p1⟩ := den_map (hE.op hm)
      have hdk := hE.op hkv
      have hdv := hE.op hvv
      cases hkd : kindOk d kv with
      | false => rw [hkd] at hr; cases hr
      | true =>
        rw [hkd] at hr
        simp only [cond_true] at hr
        split at hr
        · rename_i es cl hb
          obtain ⟨yc, es', hy2, hes, hob⟩ := (hh.at hb).map
          have hblk := (hh.at hb).blk hy
          split at hr
          · rename_i j uv hf
            obtain ⟨u, bn⟩ := uv
            cases hr
            obtain ⟨u', f1, f2, f3, f4, f5⟩ := find_ok hkd hdk es 0 hf hes
            refine ⟨rfl, rfl, ?_⟩
            rw [T.get_set]
            refine EffT.oneU (ob := .map (es'.modify j fun e => { e with key := evE ρ kk, val := evE ρ x }).toArray cl) hs hh hb ⟨yc, hy2, _, denM_modify hes (fun k v b k' v' _ h1 h2 => ⟨hdk, hdv, rfl⟩), rfl⟩ fun w hw' => ?_
            rw [hob] at hw'
            unfold Instr.mapUpdate
            rw [run_bind_ok (run_und u1), p1, hblk]
            simp only
            rw [run_bind_ok (run_getObj hw')]
            simp only
            rw [run_bind_ok (run_checkKey u2 hkd hdk), run_bind_ok (run_findKey (es := es'.toArray.toList) u2 f1)]
            simp only [Nat.sub_zero] at f5 ⊢
            simp only [List.getElem?_toArray, f5, Option.map_some, Option.getD_some]
            rw [run_bind_ok (run_stays hkd hdk), run_setObj hw', List.modify_toArray]
          · rename_i hf
            cases hr
            have f1 := find_ok hkd hdk es 0 hf hes
            refine ⟨rfl, rfl, ?_⟩
            rw [T.get_set]
            refine EffT.oneU (ob := .map (es' ++ [({ key := evE ρ kk, val := evE ρ x, born := cl } : MapEntry)]).toArray (cl + 1)) hs hh hb ⟨yc, hy2, _, denM_append hes (denM_mk hdk hdv rfl), rfl⟩ fun w hw' => ?_
            rw [hob] at hw'
            unfold Instr.mapUpdate
            rw [run_bind_ok (run_und u1), p1, hblk]
            simp only
            rw [run_bind_ok (run_getObj hw')]
            simp only
            rw [run_bind_ok (run_checkKey u2 hkd hdk), run_bind_ok (run_findKey (es := es'.toArray.toList) u2 f1)]
            simp only
            rw [run_setObj hw', List.push_toArray]
          · cases hr
        · cases hr
    · cases hr
  constructor
  · intro ops bs ord K PK Rl i is ρ I F own dst ty pos af g σ nx nx' h h' π v e ld cx ho hw hc hP hgl hor hcall hr hE hs hh hrl k
    obtain ⟨rfl, rfl, h1⟩ := main (bs := bs) (ord := ord) (I := I) hP hr hE hs hh
    exact k.eff ho hw rfl (hrl rfl) h1
  · intro ops bs ord K PK Rl i is ρ I F own dst ty pos af g σ nx nx' h h' π v e ld cx ho hw hc hP hgl hor hcall hr hE hs hh hrl k
    obtain ⟨rfl, rfl, h1⟩ := main (bs := bs) (ord := ord) (I := I) hP hr hE hs hh
    exact k.eff ho hw rfl (hrl rfl) h1

theorem modify_same {α : Type} : ∀ (l : List α) (i : Nat) (f : α → α), (∀ a, l[i]? = some a → f a = a) → l.modify i f = l
  | [], i, f, h => by cases i <;> rfl
  | a :: l, 0, f, h => by simp [h a rfl]
  | a :: l, i + 1, f, h => by simp only [List.modify_succ_cons]; rw [modify_same l i f fun b hb => h b (by simpa using hb)]

theorem hMapEntry_ok (t : TypeId) (m kk : Operand) : HdOk P ⟨hMapEntry t m kk⟩ (.mapEntry t m kk) := by
  intro ops bs ord K PK Rl i is ρ I F own dst ty pos af g σ nx nx' h h' π v e ld cx ho hw hc hP hgl hor hcall hr hE hs hh hrl k
  subst hP
  simp only [hMapEntry] at hr
  split at hr
  · rename_i b kv d z hm hkv hme
    obtain ⟨kt, el, u1, u2, hz⟩ := mapE_ok hme
    obtain ⟨y, hy, p1⟩ := den_map (hE.op hm)
    have hdk := hE.op hkv
    cases hkd : kindOk d kv with
    | false => rw [hkd] at hr; cases hr
    | true =>
      rw [hkd] at hr
      simp only [cond_true] at hr
      split at hr
      · rename_i es cl hb
        obtain ⟨yc, es', hy2, hes, hob⟩ := (hh.at hb).map
        have hblk := (hh.at hb).blk hy
        split at hr
        · rename_i j u bn hf
          cases hr
          obtain ⟨u', f1, f2, f3, f4, f5⟩ := find_ok hkd hdk es 0 hf hes
          simp only [Nat.sub_zero] at f5
          refine k.eff ho hw rfl (hrl rfl) ?_
          rw [T.get_set]
          refine EffT.one (v' := .tuple #[u', .int .i64 bn]) (ob := .map es'.toArray cl) hs hh hb (by simp only [den, denL, f2]) ⟨yc, hy2, _, hes, rfl⟩ fun w hw' => ?_
          rw [hob] at hw'
          unfold Instr.mapEntry
          rw [run_bind_ok (run_und u1), p1, hblk]
          simp only
          rw [run_bind_ok (run_getObj hw')]
          simp only
          rw [run_bind_ok (run_checkKey u2 hkd hdk), run_bind_ok (run_findKey (es := es'.toArray.toList) u2 f1)]
          simp only [List.getElem?_toArray, f5, Option.map_some, Option.getD_some]
          rw [run_bind_ok (run_stays hkd hdk), run_bind_ok (run_setObj hw'), List.modify_toArray, modify_same _ _ _ (fun a ha => by rw [f5] at ha; cases ha; rfl)]
          rfl
        · rename_i hf
          split at hr
          · rename_i zv
            cases hr
            obtain ⟨z', z1, z2⟩ := hz _ rfl
            have f1 := find_ok hkd hdk es 0 hf hes
            refine k.eff ho hw rfl (hrl rfl) ?_
            rw [T.get_set]
            refine EffT.one (v' := .tuple #[z', .int .i64 cl]) (ob := .map (es' ++ [({ key := evE ρ kk, val := z', born := cl } : MapEntry)]).toArray (cl + 1)) hs hh hb (by simp only [den, denL, z2 σ]) ⟨yc, hy2, _, denM_append hes (denM_mk hdk (z2 σ) rfl), rfl⟩ fun w hw' => ?_
            rw [hob] at hw'
            unfold Instr.mapEntry
            rw [run_bind_ok (run_und u1), p1, hblk]
            simp only
            rw [run_bind_ok (run_getObj hw')]
            simp only
            rw [run_bind_ok (run_checkKey u2 hkd hdk), run_bind_ok (run_findKey (es := es'.toArray.toList) u2 f1)]
            simp only
            rw [run_bind_ok (run_zero z1), run_bind_ok (run_setObj hw'), List.push_toArray]
            rfl
          · cases hr
        · cases hr
      · cases hr
  · cases hr

theorem idxB_ok {σ : Sg} {bn : Nat} : ∀ (es : List (V × V × Nat)) (i : Nat) {j : Nat} {es' : List MapEntry}, idxB bn es i = some j → denM σ es = some es' → i ≤ j ∧ es'.findIdx? (fun e => (e.born : Int) == (bn : Int)) = some (j - i)
  | [], i, j, es', h, hd => by cases h
  | (k, v, b) :: es, i, j, es', h, hd => by
    obtain ⟨k', v', t', h1, h2, h3, rfl⟩ := denM_cons hd
    rw [idxB] at h
    cases hb : Nat.beq b bn with
    | true =>
      rw [hb] at h
      simp only [cond_true, Option.some.injEq] at h
      subst h
      have := Nat.eq_of_beq_eq_true hb
      subst this
      exact ⟨Nat.le_refl _, by simp [List.findIdx?_cons]⟩
    | false =>
      rw [hb] at h
      have hne := Nat.ne_of_beq_eq_false hb
      obtain ⟨a1, a2⟩ := idxB_ok es (Nat.succ i) h h3
      refine ⟨by omega, ?_⟩
      have : ¬ ((b : Int) = (bn : Int)) := by omega
      rw [List.findIdx?_cons]
      simp only [beq_iff_eq, this, if_false, a2, Option.map_some, Option.some.injEq]
      omega

theorem run_asInt {w : World} {k : IntKind} {n : Int} : (asInt (.int k n)).run P w = .ok n w := rfl

theorem hEntryStore_ok (t : TypeId) (m st x : Operand) : HdOk P ⟨hEntryStore m st x⟩ (.entryStore t m st x) := by
  intro ops bs ord K PK Rl i is ρ I F own dst ty pos af g σ nx nx' h h' π v e ld cx ho hw hc hP hgl hor hcall hr hE hs hh hrl k
  subst hP
  simp only [hEntryStore] at hr
  split at hr
  · rename_i b sv vv hm hsv hvv
    obtain ⟨y, hy, p1⟩ := den_map (hE.op hm)
    have hdv := hE.op hvv
    split at hr
    · rename_i es cl bn hb hbn
      obtain ⟨yc, es', hy2, hes, hob⟩ := (hh.at hb).map
      have hblk := (hh.at hb).blk hy
      obtain ⟨kk, p2⟩ := asN_den hbn (hE.op hsv)
      split at hr
      · rename_i j hj
        cases hr
        obtain ⟨-, hf⟩ := idxB_ok es 0 hj hes
        refine k.eff ho hw rfl (hrl rfl) ?_
        rw [T.get_set]
        refine EffT.oneU (ob := .map (es'.modify j fun e => { e with val := evE ρ x }).toArray cl) hs hh hb ⟨yc, hy2, _, denM_modify hes (fun k v b k' v' _ h1 h2 => ⟨h1, hdv, rfl⟩), rfl⟩ fun w hw' => ?_
        rw [hob] at hw'
        unfold Instr.entryStore
        simp only [p1, p2, hblk]
        rw [run_bind_ok (run_getObj hw')]
        simp only
        rw [run_bind_ok run_asInt]
        simp only [List.findIdx?_toArray, hf, Nat.sub_zero]
        rw [run_setObj hw', List.modify_toArray]
      · cases hr
    · cases hr
  · cases hr

theorem hRange_ok (t : TypeId) (x : Operand) : HdOk P ⟨hRange t x⟩ (.range t x) := by
  intro ops bs ord K PK Rl i is ρ I F own dst ty pos af g σ nx nx' h h' π v e ld cx ho hw hc hP hgl hor hcall hr hE hs hh hrl k
  subst hP
  simp only [hRange] at hr
  split at hr
  · rename_i s hu hx
    obtain ⟨rfl, rfl, rfl, rfl⟩ := okN_inv hr
    refine k.eff ho hw rfl (hrl rfl) ?_
    rw [T.get_set]
    refine EffT.new hs hh fun w hW => ⟨.pointer (some ⟨w.heap.size, 0, none⟩), .stringIter ⟨s.toArray⟩ 0, w.drawn, 0, ?_, by simp only [den, upF_self], ⟨0, upF_self _ _ _, rfl⟩⟩
    unfold Instr.range
    rw [run_bind_ok (run_und (tU_ok hu)), den_str (hE.op hx)]
    rfl
  · rename_i kt el hu hx
    obtain ⟨rfl, rfl, rfl, rfl⟩ := okN_inv hr
    refine k.eff ho hw rfl (hrl rfl) ?_
    rw [T.get_set]
    refine EffT.new hs hh fun w hW => ⟨.pointer (some ⟨w.heap.size, 0, none⟩), .mapIter none 0 #[] 0, w.drawn, 0, ?_, by simp only [den, upF_self], ⟨0, upF_self _ _ _, rfl⟩⟩
    unfold Instr.range
    have p1 : evE ρ x = .map none := by have := hE.op hx; simp only [den] at this; exact (Option.some.inj this).symm
    rw [run_bind_ok (run_und (tU_ok hu)), p1]
    rfl
  · rename_i kt el b hu hx
    split at hr
    · rename_i es cl hb
      obtain ⟨rfl, rfl, rfl, rfl⟩ := okN_inv hr
      obtain ⟨yc, es', hy2, hes, hob⟩ := (hh.at hb).map
      obtain ⟨y, hy, p1⟩ := den_map (hE.op hx)
      have hblk := (hh.at hb).blk hy
      refine k.eff ho hw rfl (hrl rfl) ?_
      rw [T.get_set]
      refine EffT.new hs hh fun w hW => ⟨.pointer (some ⟨w.heap.size, 0, none⟩), .mapIter (some y.1) cl #[] cl, w.drawn, 0, ?_, by simp only [den, upF_self], ⟨0, upF_self _ _ _, y, (hs.le _) _ _ hy, rfl⟩⟩
      have hw' := hW _ _ hb
      rw [hob, ← hblk] at hw'
      unfold Instr.range
      rw [run_bind_ok (run_und (tU_ok hu)), p1]
      simp only
      rw [run_bind_ok (run_getObj hw')]
      rfl
    · cases hr
  · cases hr

theorem hAssert_ok (x : Operand) (xt t : TypeId) (c : Bool) : HdOk P ⟨hAssert x t c⟩ (.typeAssert x xt t c) := by
  intro ops bs ord K PK Rl i is ρ I F own dst ty pos af g σ nx nx' h h' π v e ld cx ho hw hc hP hgl hor hcall hr hE hs hh hrl k
  subst hP
  simp only [hAssert] at hr
  split at hr
  · cases hr
  · rename_i d t' u hni hu hx
    cases hb : Nat.beq t t' with
    | false => rw [hb] at hr; cases hr
    | true =>
      rw [hb] at hr
      simp only [cond_true] at hr
      have := Nat.eq_of_beq_eq_true hb
      subst this
      obtain ⟨rfl, rfl, rfl, rfl⟩ := okV_inv hr
      obtain ⟨u', hu', p1⟩ := den_iface (hE.op hx)
      refine k.pure (v' := if c then .tuple #[u', .bool true] else u') ho hw Nat.zero_ne_one hs hh ?_ ?_
      · cases c
        · exact hu'
        · simp only [cond_true, if_true, den, denL, hu']
      · simp only [execOp, p1]
        refine PureT.of fun w => ?_
        unfold Instr.typeAssert
        rw [run_bind_ok (run_und (tU_ok hu))]
        cases d <;> first | (simp only [if_true]; rfl) | exact absurd rfl (hni _)
  · cases hr
end
end Go.Proofs.Zz
