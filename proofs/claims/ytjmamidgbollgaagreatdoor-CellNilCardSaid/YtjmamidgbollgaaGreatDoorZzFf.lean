import Derived.Test.YtjmamidgbollgaaGreatDoorZzEy
import Derived.Lib.UnsafeStr
set_option linter.all false
set_option linter.unusedVariables false
set_option linter.unusedSimpArgs false
namespace Go.Proofs.Zz
open Go
variable [LoopOk]
section
variable {P : Program}

theorem denM_filter {σ : Sg} {p : Nat → Bool} : ∀ {l : List (V × V × Nat)} {l' : List MapEntry}, denM σ l = some l' → denM σ (l.filter fun e => p e.2.2) = some (l'.filter fun e => p e.born)
  | [], _, e => by rw [denM] at e; cases e; rfl
  | (k0, v0, b0) :: l, _, e => by
    obtain ⟨k', v', t', h1, h2, h3, rfl⟩ := denM_cons e
    simp only [List.filter_cons]
    cases p b0 with
    | true => simp only [if_true]; exact denM_mk h1 h2 (denM_filter h3)
    | false => simpa using denM_filter h3
theorem denM_all {σ : Sg} {p : Nat → Bool} : ∀ {l : List (V × V × Nat)} {l' : List MapEntry}, denM σ l = some l' → l.all (fun e => p e.2.2) = l'.all fun e => p e.born
  | [], _, e => by rw [denM] at e; cases e; rfl
  | (k0, v0, b0) :: l, _, e => by
    obtain ⟨k', v', t', h1, h2, h3, rfl⟩ := denM_cons e
    simp only [List.all_cons]
    rw [denM_all h3]

theorem run_choose1 {w : World} {q : Question} (h : q.forced = true) : (choose q).run P w = .ok 0 w := by
  unfold choose
  rw [Sem.run, if_pos h]; rfl

theorem run_next {w : World} {b m : Nat} {since last cl : Nat} {seen : List Nat} {es : List MapEntry} {ty : TypeId} (h1 : w.heap[b]? = some (.mapIter (some m) since seen.toArray last)) (h2 : w.heap[m]? = some (.map es.toArray cl))
    (ha : es.all (fun e => Nat.blt e.born since && Nat.blt e.born last) = true) :
    (es.filter (fun e => !seen.contains e.born) = [] → (Instr.next (.pointer (some ⟨b, 0, none⟩)) false ty).run P w = .ok (.tuple #[.bool false]) w) ∧
    (∀ e, es.filter (fun e => !seen.contains e.born) = [e] → (Instr.next (.pointer (some ⟨b, 0, none⟩)) false ty).run P w = .ok (.tuple #[.bool true, e.key, e.val]) { w with heap := w.heap.setIfInBounds b (.mapIter (some m) since (seen ++ [e.born]).toArray cl) }) := by
  have hall : ∀ e ∈ es, e.born < since ∧ e.born < last := fun e he => by
    have := List.all_eq_true.1 ha e he
    simp only [Bool.and_eq_true] at this
    exact ⟨bltLt this.1, bltLt this.2⟩
  have hcond : (!seen.toArray.isEmpty && !es.toArray.isEmpty && es.toArray.all (·.born ≥ last)) = false := by
    cases es with
    | nil => simp
    | cons e es =>
      have := (hall e List.mem_cons_self).2
      simp
      intro _ h; omega
  have hold : (es.toArray.filter fun e => !seen.toArray.contains e.born) = (es.filter (fun e => !seen.contains e.born)).toArray := by simp
  have hf1 : ∀ l : List MapEntry, (∀ e ∈ l, e ∈ es) → l.toArray.filter (·.born < since) = l.toArray := fun l hl => by
    simp
    intro e he; exact (hall e (hl e he)).1
  have hf2 : ∀ l : List MapEntry, (∀ e ∈ l, e ∈ es) → l.toArray.filter (·.born ≥ since) = #[] := fun l hl => by
    simp
    intro e he; exact (hall e (hl e he)).1
  have hmem : ∀ e ∈ es.filter (fun e => !seen.contains e.born), e ∈ es := fun e he => (List.mem_filter.1 he).1
  constructor
  · intro hl
    unfold Instr.next
    simp only
    rw [run_bind_ok (run_getObj h1)]
    simp only
    rw [run_bind_ok (run_getObj h2)]
    simp only [hcond, hold]
    rw [hf1 _ hmem, hf2 _ hmem, hl]
    simp only [Bool.false_eq_true, if_false]
    rw [run_bind_ok (run_choose1 (by simp [Question.forced]))]
    simp only [List.isEmpty_toArray, List.isEmpty_nil, if_true, List.append_toArray, List.append_nil, List.nil_append, List.map_toArray, List.map_nil, List.getElem?_toArray, List.getElem?_cons_zero]
    rfl
  · intro e hl
    unfold Instr.next
    simp only
    rw [run_bind_ok (run_getObj h1)]
    simp only
    rw [run_bind_ok (run_getObj h2)]
    simp only [hcond, hold]
    rw [hf1 _ hmem, hf2 _ hmem, hl]
    simp only [Bool.false_eq_true, if_false]
    rw [run_bind_ok (run_choose1 (by simp [Question.forced]))]
    simp only [List.isEmpty_toArray, List.isEmpty_cons, Bool.false_eq_true, if_false]
    simp only [List.append_toArray, List.append_nil, List.nil_append, List.map_toArray, List.map_cons, List.map_nil, List.getElem?_toArray, List.getElem?_cons_zero]
    rw [run_bind_ok (run_setObj h1), List.push_toArray]
    rfl

theorem hNext_ok (x : Operand) (isS : Bool) : HdOk P ⟨hNext x isS⟩ (.next x isS) := by
  intro ops bs ord K PK Rl i is ρ I F own dst ty pos af g σ nx nx' h h' π v e ld cx ho hw hc hP hgl hor hcall hr hE hs hh hrl k
  subst hP
  simp only [hNext] at hr
  split at hr
  · rename_i b hx
    obtain ⟨y, hy, p1⟩ := den_ptr (hE.op hx)
    split at hr
    · rename_i hb
      obtain ⟨rfl, rfl, rfl, rfl⟩ := okV_inv hr
      have hblk := (hh.at hb).blk hy
      obtain ⟨c, hc1, hob⟩ := hh.at hb
      refine k.eff ho hw rfl (hrl rfl) ?_
      refine EffT.no hs hh rfl fun w hW => ?_
      have hw' := hW _ _ hb
      rw [hob] at hw'
      rw [p1, hblk]
      unfold Instr.next
      simp only
      rw [run_bind_ok (run_getObj hw')]
      rfl
    · rename_i m since seen last hb
      have hblk := (hh.at hb).blk hy
      obtain ⟨c, hc1, ym, hym, hob⟩ := hh.at hb
      split at hr
      · rename_i es cl hm
        obtain ⟨yc, es', hy2, hes, hobm⟩ := (hh.at hm).map
        have hblkm := (hh.at hm).blk hym
        have hall := denM_all (p := fun b => Nat.blt b since && Nat.blt b last) hes
        cases ha : es.all (fun p => Nat.blt p.2.2 since && Nat.blt p.2.2 last) with
        | false => rw [ha] at hr; cases hr
        | true =>
          rw [ha] at hr hall
          simp only [cond_true] at hr
          have hfil := denM_filter (p := fun b => !seen.contains b) hes
          split at hr
          · rename_i hl
            obtain ⟨rfl, rfl, rfl, rfl⟩ := okV_inv hr
            rw [hl] at hfil
            have hl' : es'.filter (fun e => !seen.contains e.born) = [] := by rw [denM] at hfil; exact (Option.some.inj hfil).symm
            refine k.eff ho hw rfl (hrl rfl) ?_
            refine EffT.no hs hh rfl fun w hW => ?_
            have hw1 := hW _ _ hb
            have hw2 := hW _ _ hm
            rw [hob, hblkm] at hw1
            rw [hobm] at hw2
            rw [p1, hblk]
            exact (run_next hw1 hw2 hall.symm).1 hl'
          · rename_i kk vv bn hl
            cases hr
            rw [hl] at hfil
            obtain ⟨k', v', t', d1, d2, d3, hl'⟩ := denM_cons hfil
            rw [denM] at d3; cases d3
            refine k.eff ho hw rfl (hrl rfl) ?_
            rw [T.get_set]
            have hbm : ∀ w : World, w.heap[(π b).1]? = some (π b).2 → True := fun _ _ => trivial
            obtain ⟨own', hp, hh'⟩ := hh.split hb
            refine EffT.of fun w0 w F hst => ?_
            have hst' := hst.perm (hp.append_right F)
            have hw1 := hst.own _ (List.mem_append_left _ (hh.mem hb))
            have hw2 := hst.own _ (List.mem_append_left _ (hh.mem hm))
            rw [hob, hblkm] at hw1
            rw [hobm] at hw2
            have hrun := (run_next (P := cx.P) (ty := ty) hw1 hw2 hall.symm).2 _ hl'
            refine ⟨.value (.tuple #[.bool true, k', v']), _, ((π b).1, .mapIter (some (π m).1) since (seen ++ [bn]).toArray cl) :: own', ?_, hst'.set, .inr ⟨_, rfl, Rq.set hs hb hp hh' (by simp only [den, denL, d1, d2]) ⟨c, hc1, ym, hym, by rw [hblkm]⟩⟩⟩
            simp only [execOp]
            rw [p1, hblk, run_bind_ok hrun]
            rfl
          · cases hr
      · cases hr
    · cases hr
  · cases hr

theorem find_born {σ : Sg} {bn : Nat} : ∀ {l : List (V × V × Nat)} {l' : List MapEntry} {k v : V} {b : Nat}, denM σ l = some l' → l.find? (fun p => Nat.beq p.2.2 bn) = some (k, v, b) → ∃ k' v', l'.find? (fun e => e.born == bn) = some { key := k', val := v', born := b } ∧ den σ k = some k' ∧ den σ v = some v'
  | [], _, _, _, _, e, h => by cases h
  | (k0, v0, b0) :: l, _, k, v, b, e, h => by
    obtain ⟨k', v', t', h1, h2, h3, rfl⟩ := denM_cons e
    rw [List.find?_cons] at h
    cases hb : Nat.beq b0 bn with
    | true =>
      simp only [hb] at h
      cases h
      have := Nat.eq_of_beq_eq_true hb
      subst this
      exact ⟨k', v', by simp, h1, h2⟩
    | false =>
      simp only [hb] at h
      obtain ⟨k2, v2, a1, a2⟩ := find_born h3 h
      refine ⟨k2, v2, ?_, a2⟩
      rw [List.find?_cons]
      have : (b0 == bn) = false := by simpa using Nat.ne_of_beq_eq_false hb
      simp only [this]
      exact a1

theorem hEntry_ok (x : Operand) : HdOk P ⟨hEntry x⟩ (.entry x) := by
  intro ops bs ord K PK Rl i is ρ I F own dst ty pos af g σ nx nx' h h' π v e ld cx ho hw hc hP hgl hor hcall hr hE hs hh hrl k
  subst hP
  simp only [hEntry] at hr
  split at hr
  · rename_i b hx
    obtain ⟨y, hy, p1⟩ := den_ptr (hE.op hx)
    split at hr
    · rename_i m since seen st hb
      have hblk := (hh.at hb).blk hy
      obtain ⟨c, hc1, ym, hym, hob⟩ := hh.at hb
      split at hr
      · rename_i es cl bn hm hlast
        obtain ⟨yc, es', hy2, hes, hobm⟩ := (hh.at hm).map
        have hblkm := (hh.at hm).blk hym
        cases hcs : Nat.beq cl st with
        | false => rw [hcs] at hr; cases hr
        | true =>
          rw [hcs] at hr
          simp only [cond_true] at hr
          have hcs := Nat.eq_of_beq_eq_true hcs
          subst hcs
          split at hr
          · rename_i kk vv b2 hfind
            obtain ⟨rfl, rfl, rfl, rfl⟩ := okV_inv hr
            obtain ⟨k', v', a1, a2, a3⟩ := find_born hes hfind
            refine k.eff ho hw rfl (hrl rfl) ?_
            refine EffT.no (v' := .tuple #[k', v']) hs hh (by simp only [den, denL, a2, a3]) fun w hW => ?_
            have hw1 := hW _ _ hb
            have hw2 := hW _ _ hm
            rw [hob, hblkm] at hw1
            rw [hobm] at hw2
            rw [p1, hblk]
            unfold Instr.entry
            simp only
            rw [run_bind_ok (run_getObj hw1)]
            have hback : seen.toArray.back? = some bn := by simpa using hlast
            simp only [hback]
            rw [run_bind_ok (run_getObj hw2)]
            simp only [bne_self_eq_false, Bool.false_eq_true, if_false]
            simp only [List.find?_toArray, a1]
            rfl
          · cases hr
      · cases hr
    · cases hr
  · cases hr
end
end Go.Proofs.Zz

namespace Go.Proofs.Zz
open Go
variable [LoopOk]
section
variable {P : Program} {σ : Sg}

theorem plV_ok {v : V} {v' : Value} (h : plV v = true) (hd : den σ v = some v') : plainV v' := by
  cases v <;> try (first
    | (cases h; done)
    | (simp only [den] at hd; cases hd; trivial)
    | (obtain ⟨x, hx, rfl⟩ := den_ptr hd; trivial)
    | (obtain ⟨x, hx, rfl, _⟩ := den_sl hd; trivial)
    | (obtain ⟨x, hx, rfl, _⟩ := den_se hd; trivial)
    | (obtain ⟨x, hx, rfl⟩ := den_map hd; trivial)
    | (obtain ⟨x, hx, rfl⟩ := den_iface hd; trivial))
  · rename_i f a b
    cases f with
    | yield l =>
      simp only [den] at hd
      split at hd
      · cases hd; trivial
      · cases hd
    | _ =>
      simp only [den] at hd
      split at hd
      · cases hd; trivial
      · cases hd
  · simp only [den] at hd; cases hd; exact LoopOk.plain _
theorem plL_ok : ∀ {l : List V} {l' : List Value}, l.all plV = true → denL σ l = some l' → ∀ u ∈ l', plainV u
  | [], _, _, e => by rw [denL] at e; cases e; intro u hu; cases hu
  | v :: l, _, h, e => by
    obtain ⟨v', t', h1, h2, rfl⟩ := denL_cons e
    simp only [List.all_cons, Bool.and_eq_true] at h
    intro u hu
    rcases List.mem_cons.1 hu with rfl | hu
    · exact plV_ok h.1 h1
    · exact plL_ok h.2 h2 u hu

theorem frB_in {fr : Nat × Nat} {n off k : Nat} (h : fr.1 = fr.2 ∨ (n ≤ fr.1 ∧ fr.1 ≤ fr.2)) (hle : off + k ≤ n) : frB fr off k = true := by
  simp only [frB, Bool.or_eq_true, Nat.ble_eq]; omega
theorem frB_sub {fz fr : Nat × Nat} {off k : Nat} (h : fz.1 = 0 ∧ fr.1 = 0 ∧ fr.2 ≤ fz.2) (hf : frB fz off k = true) : frB fr off k = true := by
  simp only [frB, Bool.or_eq_true, Nat.ble_eq] at *; omega

theorem storeAt_ok {h h' : T O} {nx nx' b off : Nat} {vs : List V} {r v : V} {vs' : List Value} {π : Nat → Nat × Obj} {own : HL} (hr : storeAt h nx b off vs r = some (v, h', nx')) (hh : HR σ h.get π own) (hv : denL σ vs = some vs') :
    v = r ∧ nx' = nx ∧ ∃ o o' arr e fr, h.get b = some o ∧ h' = h.set b o' ∧ (π b).2 = .cells arr e fr ∧ off + vs'.length ≤ arr.size ∧ frB fr off vs'.length = true ∧ (∀ u ∈ vs', plainV u) ∧ OR σ b o' ((π b).1, .cells (putC arr off vs') e fr) := by
  have hl := denL_length hv
  unfold storeAt at hr
  split at hr
  · rename_i l e fz hb
    cases hc : (frB fz off vs.length && vs.all plV) with
    | false => rw [hc] at hr; cases hr
    | true =>
      rw [hc] at hr
      simp only [cond_true] at hr
      simp only [Bool.and_eq_true] at hc
      split at hr
      · rename_i l' hp
        cases hr
        obtain ⟨c, hc1, ls, h2, h3⟩ := hh.at hb
        obtain ⟨q1, q2, q3⟩ := denL_putL hp h2 hv []
        simp only [List.append_nil] at q3
        exact ⟨rfl, rfl, _, _, _, _, _, hb, rfl, h3, by simpa using q2, by rw [hl]; exact hc.1, plL_ok hc.2 hv, c, hc1, _, q1, by rw [q3]⟩
      · cases hr
  · rename_i l e sz m fz hb
    cases hc : (frB fz off vs.length && vs.all plV) with
    | false => rw [hc] at hr; cases hr
    | true =>
      rw [hc] at hr
      simp only [cond_true] at hr
      simp only [Bool.and_eq_true] at hc
      split at hr
      · rename_i l' hp
        cases hr
        obtain ⟨c, hc1, ls, rest, fr, h2, h3, h4, h5⟩ := hh.at hb
        obtain ⟨q1, q2, q3⟩ := denL_putL hp h2 hv rest
        simp only [List.length_append] at h4
        refine ⟨rfl, rfl, _, _, _, _, _, hb, rfl, h3, by simp; omega, ?_, plL_ok hc.2 hv, c, hc1, _, rest, fr, q1, by rw [q3], ?_, h5⟩
        · cases m with
          | true => exact frB_in h5 (by omega)
          | false => rw [hl]; exact frB_sub h5 hc.1
        · simp only [List.length_append, List.length_take, List.length_drop]; omega
      · cases hr
  · cases hr
end

section
variable {P : Program}
theorem hStore_ok (t : TypeId) (x y : Operand) : HdOk P ⟨hStore t x y⟩ (.store t x y) := by
  intro ops bs ord K PK Rl i is ρ I F own dst ty pos af g σ nx nx' h h' π v e ld cx ho hw hc hP hgl hor hcall hr hE hs hh hrl k
  subst hP
  simp only [hStore] at hr
  split at hr
  · rename_i b off u agg sz hx hy hl
    cases hb : Nat.beq u.cs.length sz with
    | false => rw [hb] at hr; cases hr
    | true =>
      rw [hb] at hr
      simp only [cond_true] at hr
      obtain ⟨hr2, rfl⟩ := okR_inv hr
      have hsz := Nat.eq_of_beq_eq_true hb
      have hd := hE.op hy
      have hcs := den_cs hd
      obtain ⟨z, hz, p1⟩ := den_ptr (hE.op hx)
      obtain ⟨rfl, rfl, o, o', arr, el, fr, q1, rfl, q3, q4, q5, q6, q7⟩ := storeAt_ok hr2 hh hcs
      have hblk := (hh.at q1).blk hz
      have hl2 := denL_length hcs
      refine k.eff ho hw rfl (hrl rfl) ?_
      rw [T.get_set]
      refine EffT.oneU hs hh q1 q7 fun w hw' => ?_
      rw [q3] at hw'
      rw [p1, hblk]
      unfold Instr.storeAt
      rw [run_bind_ok (a := (⟨(π b).1, off, none⟩ : Addr)) (w' := w) rfl]
      simp only [Array.length_toList] at hl2 q4 q5
      exact run_storeVar (xL_ok hl) hw' (by omega) (by omega) (by rw [← hsz, ← hl2]; exact q5) q6
  · cases hr
end
end Go.Proofs.Zz

namespace Go.Proofs.Zz
open Go
variable [LoopOk]
section
variable {P : Program} {σ : Sg}

/-- The blocks of a run lie in a world. -/
abbrev Lies (f : Nat → Option O) (π : Nat → Nat × Obj) (w : World) : Prop := ∀ b o, f b = some o → w.heap[(π b).1]? = some (π b).2

theorem run_loadCells0 {w : World} {a : Addr} : (loadCells a 0).run P w = .ok #[] w := rfl

theorem elems_ok {h : T O} {sz n : Nat} {x : V} {x' : Value} {l : List V} {π : Nat → Nat × Obj} {own : HL} (he : elems h sz x = some (l, n)) (hh : HR σ h.get π own) (hd : den σ x = some x') :
    Builtin.lenOf x' = Sem.pure n ∧ l.length = n * sz ∧ ∃ l', denL σ l = some l' ∧ ∀ (w : World), Lies h.get π w → ∀ m, m ≤ n → (Builtin.firstCells sz m x').run P w = .ok (l'.take (m * sz)).toArray w := by
  unfold elems at he
  split at he
  · cases he
    simp only [den] at hd; cases hd
    exact ⟨rfl, by simp, [], rfl, fun w _ m _ => by simp [Builtin.firstCells]⟩
  · rename_i b off len cap g
    split at he
    · rename_i o hb
      split at he
      · rename_i cs hk
        cases hbb : Nat.beq ((cs.drop off).take (len * sz)).length (len * sz) with
        | false => simp only [hbb] at he; cases he
        | true =>
          simp only [hbb, cond_true, Option.some.injEq, Prod.mk.injEq] at he
          obtain ⟨rfl, rfl⟩ := he
          have hl := Nat.eq_of_beq_eq_true hbb
          obtain ⟨cs', rest, e, fr, h1, h2⟩ := known_ok (hh.at hb) hk
          obtain ⟨y, hy, rfl, -⟩ := den_sl hd
          have hblk := (hh.at hb).blk hy
          have hcl := denL_length h1
          simp only [List.length_take, List.length_drop] at hl
          refine ⟨rfl, by simp only [List.length_take, List.length_drop]; exact hl, _, denL_take _ (denL_drop off h1), fun w hW m hm => ?_⟩
          have hw' := hW _ _ hb
          rw [h2, ← hblk] at hw'
          show (loadCells ⟨y.1, off, none⟩ (m * sz)).run P w = _
          have hms : m * sz ≤ len * sz := Nat.mul_le_mul_right _ hm
          by_cases h0 : m * sz = 0
          · rw [h0, run_loadCells0]; simp
          · rw [run_loadCells hw' (by simp; omega)]
            simp only [cut]
            rw [List.drop_append_of_le_length (by omega), List.take_append_of_le_length (by simp; omega), List.take_take, Nat.min_eq_left hms]
      · cases he
    · cases he
  · rename_i s
    cases hb : Nat.beq sz 1 with
    | false => rw [hb] at he; cases he
    | true =>
      rw [hb] at he
      have := Nat.eq_of_beq_eq_true hb
      subst this
      simp only [cond_true, Option.some.injEq, Prod.mk.injEq] at he
      obtain ⟨rfl, rfl⟩ := he
      rw [den_str hd]
      refine ⟨by simp [Builtin.lenOf, Zz.str]; rfl, by simp, _, denL_bytes σ s, fun w _ m hm => ?_⟩
      simp only [Builtin.firstCells, Zz.str]
      show Result.ok _ _ = _
      rw [str_extract]
      simp [bytesV, List.map_take]
  · cases he
    obtain ⟨y, hy, rfl, -⟩ := den_se hd
    refine ⟨rfl, by simp, [], rfl, fun w _ m hm => ?_⟩
    have : m = 0 := by omega
    subst this
    show (loadCells _ (0 * sz)).run P w = _
    rw [Nat.zero_mul, run_loadCells0]; simp
  · cases he

theorem toList_inv {α : Type} {a : Array α} {l : List α} (h : a.toList = l) : a = l.toArray := by rw [← h]
theorem denL_1 {x : V} {l : List Value} (h : denL σ [x] = some l) : ∃ x', den σ x = some x' ∧ l = [x'] := by
  obtain ⟨x', t', h1, h2, rfl⟩ := denL_cons h
  rw [denL] at h2; cases h2
  exact ⟨x', h1, rfl⟩
theorem denL_2 {x y : V} {l : List Value} (h : denL σ [x, y] = some l) : ∃ x' y', den σ x = some x' ∧ den σ y = some y' ∧ l = [x', y'] := by
  obtain ⟨x', t', h1, h2, rfl⟩ := denL_cons h
  obtain ⟨y', h3, rfl⟩ := denL_1 h2
  exact ⟨x', y', h1, h3, rfl⟩

/-- A store into a block, as an effect. -/
theorem EffT.sto {h h' : T O} {nx nx' b off : Nat} {vs : List V} {r v : V} {vs' : List Value} {r' : Value} {π : Nat → Nat × Obj} {own : HL} {I : IM} {s : Sem Value} {y : Nat × Nat} (hs : Sc σ nx) (hh : HR σ h.get π own)
    (hr : storeAt h nx b off vs r = some (v, h', nx')) (hv : denL σ vs = some vs') (hd : den σ r = some r') (hy : σ b = some y)
    (hrun : ∀ w w', Lies h.get π w → (storeCells ⟨y.1, off, none⟩ vs').run P w = .ok () w' → s.run P w = .ok r' w') : EffT P (do pure (Next.value (← s))) I own (Rq σ nx h.get π v h'.get nx') := by
  obtain ⟨rfl, rfl, o, o', arr, el, fr, q1, rfl, q3, q4, q5, q6, q7⟩ := storeAt_ok hr hh hv
  have hblk := (hh.at q1).blk hy
  rw [T.get_set]
  obtain ⟨own', hp, hh'⟩ := hh.split q1
  refine EffT.of fun w0 w F hst => ?_
  have hst' := hst.perm (hp.append_right F)
  have hw' := hst'.own _ List.mem_cons_self
  refine ⟨.value r', { w with heap := w.heap.setIfInBounds (π b).1 (.cells (putC arr off vs') el fr) }, ((π b).1, .cells (putC arr off vs') el fr) :: own', ?_, ?_, .inr ⟨_, rfl, Rq.set hs q1 hp hh' hd q7⟩⟩
  · rw [q3] at hw'
    have hsc := run_storeCells (P := P) vs' 0 off arr w hw' (by simpa using q4) (by simpa using q5) q6
    rw [← hblk] at hsc ⊢
    rw [run_bind_ok (hrun w _ (fun b o hb => hst.own _ (List.mem_append_left _ (hh.mem hb))) (by simpa using hsc))]; rfl
  · exact hst'.set

theorem copyV_ok {ts : List TypeId} {args : List V} {args' : List Value} {h h' : T O} {nx nx' : Nat} {v : V} {π : Nat → Nat × Obj} {own : HL} {I : IM} {ty : TypeId} (hr : copyV P ts args h nx = some (v, h', nx')) (hd : denL σ args = some args')
    (hs : Sc σ nx) (hh : HR σ h.get π own) : EffT P (do pure (Next.value (← Builtin.copy_ ts.toArray ty args'.toArray))) I own (Rq σ nx h.get π v h'.get nx') := by
  unfold copyV at hr
  split at hr
  · rename_i t tx x y
    obtain ⟨x', y', d1, d2, rfl⟩ := denL_2 hd
    split at hr
    · rename_i e sz by' hS
      obtain ⟨i, s1, s2, s3, s4⟩ := (xS_ok hS).get
      split at hr
      · rename_i l m he
        obtain ⟨e1, e2, l', e3, e4⟩ := elems_ok (P := P) he hh d2
        have hrun : ∀ (base : Option Addr) (n cap : Nat) (w w' : World), x' = .slice base n cap → Lies h.get π w →
            (match base with | some a => (storeCells a (l'.take (Nat.min m n * sz))).run P w = .ok () w' | none => w' = w) → (Builtin.copy_ #[t, tx] ty #[x', y']).run P w = .ok (.int .i64 (Nat.min m n)) w' := by
          intro base n cap w w' hx hW hst
          subst hx
          unfold Builtin.copy_
          simp only [List.getElem?_toArray, List.getElem?_cons_zero, List.getElem?_cons_succ]
          rw [run_bind_ok (run_und s1)]
          simp only
          rw [e1, run_bind_ok (a := m) (w' := w) rfl, run_bind_ok (run_sizeOf s2), s3, run_bind_ok (e4 w hW _ (Nat.min_le_left _ _))]
          cases base with
          | none => subst hst; rfl
          | some a =>
            simp only
            rw [run_bind_ok hst]
            rfl
        split at hr
        · rename_i b off n cap g
          obtain ⟨z, hz, rfl, -⟩ := den_sl d1
          refine EffT.sto hs hh hr (denL_take _ e3) rfl hz fun w w' hW hst => ?_
          exact hrun (some _) n _ w w' rfl hW hst
        · cases hr
          simp only [den] at d1
          cases d1
          refine EffT.no hs hh rfl fun w hW => ?_
          have := hrun none 0 0 w w rfl hW rfl
          simpa using this
        · cases hr
      · cases hr
    · cases hr
  · cases hr

theorem clearV_ok {ts : List TypeId} {args : List V} {args' : List Value} {h h' : T O} {nx nx' : Nat} {v : V} {π : Nat → Nat × Obj} {own : HL} {I : IM} {ty : TypeId} (hr : clearV P ts args h nx = some (v, h', nx')) (hd : denL σ args = some args')
    (hs : Sc σ nx) (hh : HR σ h.get π own) : EffT P (do pure (Next.value (← Builtin.clear_ ts.toArray ty args'.toArray))) I own (Rq σ nx h.get π v h'.get nx') := by
  unfold clearV at hr
  split at hr
  · rename_i t x
    obtain ⟨x', d1, rfl⟩ := denL_1 hd
    split at hr
    · rename_i d hu
      have hu := tU_ok hu
      have quiet : ∀ w : World, (x' = .map none ∨ (∃ n c, x' = .slice none n c) ∨ ∃ a c, x' = .slice a 0 c) → (Builtin.clear_ #[t] ty #[x']).run P w = .ok (.tuple #[]) w := by
        intro w hx
        unfold Builtin.clear_
        simp only [List.getElem?_toArray, List.getElem?_cons_zero]
        rw [run_bind_ok (run_und hu)]
        rcases hx with rfl | ⟨n, c, rfl⟩ | ⟨a, c, rfl⟩
        · cases d <;> rfl
        · cases d <;> rfl
        · cases a <;> cases d <;> rfl
      split at hr
      · cases hr
        simp only [den] at d1; cases d1
        exact EffT.no hs hh rfl fun w hW => quiet w (.inr (.inl ⟨_, _, rfl⟩))
      · cases hr
        obtain ⟨z, hz, rfl, -⟩ := den_se d1
        exact EffT.no hs hh rfl fun w hW => quiet w (.inr (.inr ⟨_, _, rfl⟩))
      · cases hr
        simp only [den] at d1; cases d1
        exact EffT.no hs hh rfl fun w hW => quiet w (.inl rfl)
      · rename_i m
        split at hr
        · rename_i es c hb
          cases hr
          obtain ⟨z, hz, rfl⟩ := den_map d1
          obtain ⟨yc, es', hy2, hes, hob⟩ := (hh.at hb).map
          have hblk := (hh.at hb).blk hz
          rw [T.get_set]
          refine EffT.one (ob := .map [].toArray c) hs hh hb rfl ⟨yc, hy2, _, rfl, rfl⟩ fun w hw' => ?_
          rw [hob] at hw'
          unfold Builtin.clear_
          simp only [List.getElem?_toArray, List.getElem?_cons_zero]
          rw [run_bind_ok (run_und hu), hblk]
          have key : (do
              let __x ← getObj (π m).1
              match __x with
                | Obj.map entries clock => do
                  setObj (π m).1 (Obj.map #[] clock)
                  pure (Value.tuple #[])
                | x => do
                  stuck "clear: map expected"
                  pure (Value.tuple #[]) : Sem Value).run P w = .ok (.tuple #[]) { w with heap := w.heap.setIfInBounds (π m).1 (.map #[] c) } := by
            rw [run_bind_ok (run_getObj hw')]
            simp only
            rw [run_bind_ok (run_setObj hw')]
            rfl
          cases d <;> exact key
        · cases hr
      · rename_i b off n cap g
        obtain ⟨z, hz, rfl, -⟩ := den_sl d1
        cases h0 : Nat.beq n 0 with
        | true =>
          rw [h0] at hr
          simp only [cond_true] at hr
          cases hr
          have := Nat.eq_of_beq_eq_true h0
          subst this
          exact EffT.no hs hh rfl fun w hW => quiet w (.inr (.inr ⟨_, _, rfl⟩))
        | false =>
          rw [h0] at hr
          simp only [cond_false] at hr
          split at hr
          · rename_i e
            split at hr
            · rename_i zv hzv
              obtain ⟨z', hz', hzd⟩ := zV_ok hzv
              have hcs := denL_rep n (den_cs (hzd σ))
              refine EffT.sto hs hh hr hcs rfl hz fun w w' hW hst => ?_
              have hn := Nat.ne_of_beq_eq_false h0
              obtain ⟨n, rfl⟩ : ∃ k, n = k + 1 := ⟨n - 1, by omega⟩
              unfold Builtin.clear_
              simp only [List.getElem?_toArray, List.getElem?_cons_zero]
              rw [run_bind_ok (run_und hu)]
              simp only
              rw [run_bind_ok (run_zero hz'), run_bind_ok (w' := w') (a := ()) ?_]
              · rfl
              · have e1 : (Builtin.zeroCells z'.cells (n + 1)).toList = (List.replicate (n + 1) z'.cells.toList).flatten := by
                  by_cases hzs : (n + 1) * z'.cells.size = 0
                  · have : z'.cells = #[] := by
                      rcases Nat.mul_eq_zero.1 hzs with h | h
                      · omega
                      · exact Array.eq_empty_of_size_eq_zero h
                    rw [this]; simp [Builtin.zeroCells]
                  · have := range_rep z'.cells (n + 1) hzs
                    unfold Builtin.zeroCells
                    rw [this]
                rw [e1]; exact hst
            · cases hr
          · cases hr
      · cases hr
    · cases hr
  · cases hr

theorem delV_ok {ts : List TypeId} {args : List V} {args' : List Value} {h h' : T O} {nx nx' : Nat} {v : V} {π : Nat → Nat × Obj} {own : HL} {I : IM} {ty : TypeId} (hr : delV P ts args h nx = some (v, h', nx')) (hd : denL σ args = some args')
    (hs : Sc σ nx) (hh : HR σ h.get π own) : EffT P (do pure (Next.value (← Builtin.delete_ ts.toArray ty args'.toArray))) I own (Rq σ nx h.get π v h'.get nx') := by
  unfold delV at hr
  split at hr
  · rename_i t ts' x kv
    obtain ⟨x', k', d1, d2, rfl⟩ := denL_2 hd
    split at hr
    · rename_i d z hme
      obtain ⟨kt, el, u1, u2, -⟩ := mapE_ok hme
      cases hkd : kindOk d kv with
      | false => rw [hkd] at hr; cases hr
      | true =>
        rw [hkd] at hr
        simp only [cond_true] at hr
        split at hr
        · rename_i m
          split at hr
          · rename_i es cl hb
            obtain ⟨yy, hz, rfl⟩ := den_map d1
            obtain ⟨yc, es', hy2, hes, hob⟩ := (hh.at hb).map
            have hblk := (hh.at hb).blk hz
            have pre : ∀ (w : World) (r : Option (Nat × Value)), w.heap[(π m).1]? = some (.map es'.toArray cl) → Instr.findNow d k' es' 0 = some r →
                (Builtin.delete_ (t :: ts').toArray ty #[.map (some yy.1), k']).run P w = .ok (.tuple #[]) { w with heap := w.heap.setIfInBounds (π m).1 (match r with | some (i, _) => .map (es'.eraseIdx i).toArray cl | none => .map es'.toArray cl) } := by
              intro w r hw' hf
              unfold Builtin.delete_
              simp only [List.getElem?_toArray, List.getElem?_cons_zero, List.getElem?_cons_succ]
              rw [run_bind_ok (run_und u1), hblk]
              simp only
              rw [run_bind_ok (run_getObj hw')]
              simp only
              rw [run_bind_ok (run_checkKey u2 hkd d2), run_bind_ok (run_findKey (es := es'.toArray.toList) u2 hf)]
              cases r with
              | none =>
                simp only
                rw [run_bind_ok (run_setObj hw')]; rfl
              | some p =>
                obtain ⟨i, u⟩ := p
                simp only
                rw [run_bind_ok (run_setObj hw')]
                simp only [List.eraseIdxIfInBounds_toArray]
                rfl
            split at hr
            · rename_i hf
              cases hr
              have f1 := find_ok hkd d2 es 0 hf hes
              refine EffT.no hs hh rfl fun w hW => ?_
              have hw' := hW _ _ hb
              rw [hob] at hw'
              rw [pre w none hw' f1, setSelf hw']
            · rename_i i uv hf
              obtain ⟨u, bn⟩ := uv
              cases hr
              obtain ⟨u', f1, f2, f3, f4, f5⟩ := find_ok hkd d2 es 0 hf hes
              rw [T.get_set]
              refine EffT.one (ob := .map (es'.eraseIdx i).toArray cl) hs hh hb rfl ⟨yc, hy2, _, denM_erase i hes, rfl⟩ fun w hw' => ?_
              rw [hob] at hw'
              exact pre w _ hw' f1
            · cases hr
          · cases hr
        · cases hr
    · cases hr
  · cases hr

theorem usdV_ok {ts : List TypeId} {args : List V} {args' : List Value} {h h' : T O} {nx nx' : Nat} {v : V} {π : Nat → Nat × Obj} {own : HL} {I : IM} {ty : TypeId} (hr : usdV args h nx = some (v, h', nx')) (hd : denL σ args = some args')
    (hs : Sc σ nx) (hh : HR σ h.get π own) : EffT P (do pure (Next.value (← Builtin.unsafeSliceData_ ts.toArray ty args'.toArray))) I own (Rq σ nx h.get π v h'.get nx') := by
  unfold usdV at hr
  split at hr
  · cases hr
    obtain ⟨x', d1, rfl⟩ := denL_1 hd
    simp only [den] at d1; cases d1
    exact EffT.no hs hh rfl fun w hW => rfl
  · rename_i b off len cap g
    obtain ⟨x', d1, rfl⟩ := denL_1 hd
    obtain ⟨z, hz, rfl, hg⟩ := den_sl d1
    cases hc : (bif g then Nat.blt 0 len else Nat.blt 0 cap) with
    | false => rw [hc] at hr; cases hr
    | true =>
      rw [hc] at hr
      cases hr
      refine EffT.no hs hh (v' := .pointer (some ⟨z.1, off, none⟩)) (by simp only [den, hz]) fun w hW => ?_
      refine Go.Lib.run_unsafeSliceData_row w _ _ _ _ _ ?_
      cases g with
      | true => have := bltLt hc; have := hg rfl; simp only [cond_true]; omega
      | false => have := bltLt hc; simp only [cond_false]; omega
  · cases hr
end
end Go.Proofs.Zz

namespace Go.Proofs.Zz
open Go
variable [LoopOk]
section
variable {P : Program} {σ : Sg}

theorem run_freeze {w : World} {b n lo hi : Nat} {arr : Array Value} {e : TypeId} (h : w.heap[b]? = some (.cells arr e (lo, hi))) (hn : n ≠ 0) :
    w.freeze ⟨b, 0, none⟩ n = { w with heap := w.heap.setIfInBounds b (.cells arr e (if lo == hi then (0, n) else (min lo 0, max hi n))) } := by
  simp only [World.freeze, hn, if_false]
  congr 1
  apply Array.ext_getElem?
  intro k
  have hlt := (Array.getElem?_eq_some_iff.1 h).1
  simp only [Array.getElem?_modify, Array.getElem?_setIfInBounds]
  split
  · rename_i hk; subst hk; rw [h]; simp [hlt]
  · rfl

theorem run_ustr {w : World} {b : Nat} {pt it ty u : TypeId} {i : TypeInfo} {arr : Array Value} {e : TypeId} {lo hi : Nat} (h : w.heap[b]? = some (.cells arr e (lo, hi))) (h1 : P.underlying pt = some (.pointer u)) (h2 : P.info? u = some i) (h3 : i.size = 1) (he : e = u)
    {s : List UInt8} (h0 : s.length ≠ 0) (hle : s.length ≤ arr.size) (h63 : s.length ≤ 1000000) (hc : arr.toList.take s.length = bytesV s) :
    (Builtin.unsafeString_ #[pt, it] ty #[.pointer (some ⟨b, 0, none⟩), .int .i64 s.length]).run P w = .ok (Zz.str s) { w with heap := w.heap.setIfInBounds b (.cells arr e (if lo == hi then (0, s.length) else (min lo 0, max hi s.length))) } := by
  subst he
  rw [Go.Lib.run_unsafeString_row w pt it ty e h1 (by simp [Program.cellsOf, h2, h3]) b arr.size (by simp [World.shape?, h]) s (fun e => h0 (by rw [e]; rfl)) hle (by omega) ?_, run_freeze h h0]
  · rfl
  · intro j x hj
    rw [addr_add, cell_of h, Nat.zero_add]
    have hlt := (List.getElem?_eq_some_iff.1 hj).1
    have := congrArg (·[j]?) hc
    simp only [List.getElem?_take, hlt, if_true] at this
    simpa [bytesV, hj] using this

theorem ustrV_ok {ts : List TypeId} {args : List V} {args' : List Value} {h h' : T O} {nx nx' : Nat} {v : V} {π : Nat → Nat × Obj} {own : HL} {I : IM} {ty : TypeId} (hr : ustrV P ts args h nx = some (v, h', nx')) (hd : denL σ args = some args')
    (hs : Sc σ nx) (hh : HR σ h.get π own) : EffT P (do pure (Next.value (← Builtin.unsafeString_ ts.toArray ty args'.toArray))) I own (Rq σ nx h.get π v h'.get nx') := by
  unfold ustrV at hr
  split at hr
  · rename_i pt it p n
    obtain ⟨p', n', d1, d2, rfl⟩ := denL_2 hd
    rw [den_int d2]
    cases hn : Nat.beq n 0 with
    | true =>
      rw [hn] at hr
      simp only [cond_true] at hr
      have := Nat.eq_of_beq_eq_true hn
      subst this
      cases hp : ptrV p with
      | false => rw [hp] at hr; cases hr
      | true =>
        rw [hp] at hr; cases hr
        refine EffT.no hs hh (v' := Zz.str []) rfl fun w hW => ?_
        obtain ⟨a, rfl⟩ : ∃ a, p' = .pointer a := by
          unfold ptrV at hp
          split at hp
          · obtain ⟨y, hy, rfl⟩ := den_ptr d1; exact ⟨_, rfl⟩
          · simp only [den] at d1; cases d1; exact ⟨_, rfl⟩
          · cases hp
        exact Go.Lib.run_unsafeString_none w pt it ty a
    | false =>
      rw [hn] at hr
      simp only [cond_false] at hr
      have hn := Nat.ne_of_beq_eq_false hn
      split at hr
      · rename_i b
        obtain ⟨y, hy, rfl⟩ := den_ptr d1
        split at hr
        · rename_i ob hb
          have hblk := (hh.at hb).blk hy
          split at hr
          · rename_i l hk
            cases hc : (Nat.ble n l.length && Nat.ble n 1000000) with
            | false => rw [hc] at hr; cases hr
            | true =>
              rw [hc] at hr
              simp only [cond_true] at hr
              simp only [Bool.and_eq_true] at hc
              have c1 := Nat.le_of_ble_eq_true hc.1
              have c2 := Nat.le_of_ble_eq_true hc.2
              split at hr
              · rename_i s u hsb hu
                have hu := tU_ok hu
                split at hr
                · rename_i i hi
                  cases h1 : Nat.beq i.size 1 with
                  | false => rw [h1] at hr; cases hr
                  | true =>
                    rw [h1] at hr
                    simp only [cond_true] at hr
                    have h1 := Nat.eq_of_beq_eq_true h1
                    split at hr
                    · rename_i l0 e fz
                      cases he : Nat.beq e u with
                      | false => rw [he] at hr; cases hr
                      | true =>
                        rw [he] at hr; cases hr
                        have he := Nat.eq_of_beq_eq_true he
                        cases hk
                        obtain ⟨c, hc1, l', h2, h3⟩ := hh.at hb
                        have hl := denL_length h2
                        have hbt := optL_byte hsb (denL_take n h2)
                        have hns : s.length = n := by
                          have := congrArg List.length hbt
                          simp [bytesV] at this; omega
                        subst hns
                        rw [T.get_set]
                        obtain ⟨lo, hi2⟩ := fz
                        refine EffT.one (ob := .cells l'.toArray e (if lo == hi2 then (0, s.length) else (min lo 0, max hi2 s.length))) hs hh hb rfl ⟨c, hc1, l', h2, ?_⟩ fun w hw' => ?_
                        · unfold frz
                          cases hz : Nat.beq lo hi2 with
                          | true => rw [if_pos (by simp [Nat.eq_of_beq_eq_true hz])]; rfl
                          | false => rw [if_neg (by simp [Nat.ne_of_beq_eq_false hz])]; rfl
                        · rw [h3] at hw'
                          rw [hblk]
                          exact run_ustr hw' hu (tI_ok hi) h1 he hn (by simp; omega) c2 (by simpa using hbt)
                    · rename_i l0 e sz fz
                      cases he : Nat.beq e u with
                      | false => rw [he] at hr; cases hr
                      | true =>
                        rw [he] at hr; cases hr
                        have he := Nat.eq_of_beq_eq_true he
                        cases hk
                        obtain ⟨c, hc1, l', rest, fr, h2, h3, h4, h5⟩ := hh.at hb
                        have hl := denL_length h2
                        have hbt := optL_byte hsb (denL_take n h2)
                        have hns : s.length = n := by
                          have := congrArg List.length hbt
                          simp [bytesV] at this; omega
                        subst hns
                        rw [T.get_set]
                        obtain ⟨lo, hi2⟩ := fr
                        refine EffT.one (ob := .cells (l' ++ rest).toArray e (if lo == hi2 then (0, s.length) else (min lo 0, max hi2 s.length))) hs hh hb rfl ⟨c, hc1, l', rest, _, h2, rfl, h4, ?_⟩ fun w hw' => ?_
                        · simp only [cond_false] at h5 ⊢
                          obtain ⟨q1, q2, q3⟩ := h5
                          obtain ⟨f1, f2⟩ := fz
                          simp only at q1 q2 q3
                          subst q1 q2
                          unfold frz
                          simp only
                          have e1 : (bif Nat.beq 0 f2 then (0, s.length) else (Nat.min 0 0, Nat.max f2 s.length)) = (0, Nat.max f2 s.length) := by
                            cases hz : Nat.beq 0 f2 with
                            | true => have := Nat.eq_of_beq_eq_true hz; subst this; simp
                            | false => rfl
                          rw [e1]
                          refine ⟨rfl, ?_, ?_⟩
                          · split <;> simp
                          · split
                            · simp only; exact Nat.le_max_right _ _
                            · simp only; exact Nat.max_le.2 ⟨Nat.le_trans q3 (Nat.le_max_left _ _), Nat.le_max_right _ _⟩
                        · rw [h3] at hw'
                          rw [hblk]
                          exact run_ustr hw' hu (tI_ok hi) h1 he hn (by simp; omega) c2 (by simp only []; rw [List.take_append_of_le_length (by omega)]; exact hbt)
                    · cases hr
                · cases hr
              · cases hr
          · cases hr
        · cases hr
      · cases hr
  · cases hr
end
end Go.Proofs.Zz

namespace Go.Proofs.Zz
open Go
variable [LoopOk]
section
variable {P : Program} {σ : Sg}

/-- A new block, in place of one that is let go or not. -/
theorem Rq.fresh {nx : Nat} {f f1 : Nat → Option O} {π : Nat → Nat × Obj} {v : V} {v' : Value} {on : O} {own1 : HL} {I : IM} {p : Nat × Obj} {c : Nat} (hs : Sc σ nx) (hf : ∀ k, σ k ≠ none → f k = none → f1 k = none) (hh : HR σ f1 π own1)
    (hv : den (upF σ nx (some (p.1, c))) v = some v') (ho : OR (upF σ nx (some (p.1, c))) nx on p) : Rq σ nx f π v (upF f1 nx (some on)) (nx + 1) (.ret v') I (p :: own1) :=
  ⟨v', _, _, rfl, hs.le _, hs.up _, hv, hh.new hs ho, fun k hk h => by
    have : k ≠ nx := fun e => hk (hs k (by omega))
    rw [upF_ne _ _ this, upF_ne _ _ this]; exact ⟨hf k hk h, rfl⟩, fun h => by cases h⟩

theorem run_append_zeros {w : World} {t tx e ty : TypeId} {sz by' n : Nat} {z : Value} {k : IntKind} {kd : IntKind} (h1 : SlT P t e sz by') (h2 : P.underlying tx = some (.int k)) (hz : TyZ P e z) (hzs : z.cells.size = sz) (h0 : n ≠ 0) (hn : n < 9223372036854775808) (hb : n * by' ≤ 1000000) :
    ∃ c rest, n ≤ c ∧ rest.size = (c - n) * z.cells.size ∧ (Builtin.append_ #[t, tx] ty #[.slice none 0 0, .int kd (n : Int)]).run P w =
      .ok (.slice (some ⟨w.heap.size, 0, none⟩) n c) { w with heap := w.heap.push (.cells ((List.replicate n z.cells.toList).flatten.toArray ++ rest) e (0, 0)), drawn := w.drawn + 1 } := by
  obtain ⟨i, s1, s2, s3, s4⟩ := h1.get
  have hwrap : IntKind.i64.wrap (n : Int) = (n : Int) := i64_wrap (by omega) (by omega)
  have hgt : 0 < 0 + n := by omega
  have hcap : ¬ Builtin.nextslicecap (0 + n) 0 * i.bytes > 2 ^ 48 := by
    have h1 := nextslicecap_le (need := 0 + n) (cap := 0) hgt
    have h2 : Builtin.nextslicecap (0 + n) 0 * i.bytes ≤ 2 * (0 + n) * i.bytes := Nat.mul_le_mul_right _ h1
    have h3 : 2 * (0 + n) * i.bytes = 2 * (n * i.bytes) := by rw [Nat.zero_add, Nat.mul_assoc]
    rw [s4] at h2 h3 ⊢
    have : (2 : Nat) ^ 48 = 281474976710656 := by decide
    omega
  let c := (Question.appendCap (0 + n) 0 e).cut (w.tape w.drawn (.appendCap (0 + n) 0 e))
  refine ⟨c, Builtin.zeroCells z.cells (c - (0 + n)), ?_, by rw [zeroCells_size, Nat.zero_add], ?_⟩
  · show n ≤ 0 + n + _
    omega
  · unfold Builtin.append_
    simp only [List.getElem?_toArray, List.getElem?_cons_zero, List.getElem?_cons_succ]
    rw [run_bind_ok (run_und s1)]
    simp only
    rw [run_bind_ok (run_sizeOf s2), s3]
    rw [run_bind_ok (run_und h2), run_bind_ok (run_pure _)]
    simp only [if_true]
    rw [run_bind_ok run_asInt, hwrap]
    have hneg : ¬ ((n : Int) < 0) := by omega
    simp only [hneg, if_false]
    rw [run_bind_ok (run_info s2)]
    have hbig : ¬ ((n : Int) * (i.bytes : Int) > 2 ^ 48) := by
      rw [s4]
      have : ((n : Int) * (by' : Int)) = ((n * by' : Nat) : Int) := by simp
      rw [this, pow48]
      omega
    simp only [hbig, if_false]
    rw [run_bind_ok (run_pure _)]
    simp only [Int.toNat_natCast]
    have hnle : ¬ (0 + n ≤ 0) := by omega
    simp only [hnle, if_false]
    rw [run_bind_ok (run_info s2)]
    have hno : ¬ (((0 + n : Nat) : Int) > IntKind.i64.max ∧ (True ∨ i.bytes = 0)) := by
      rintro ⟨h, _⟩
      have : IntKind.i64.max = 9223372036854775807 := rfl
      rw [this] at h
      omega
    rw [if_neg (by simpa using hno), run_bind_ok (run_info s2), if_neg hcap]
    have hch : (choose (.appendCap (0 + n) 0 e)).run P w = .ok c { w with drawn := w.drawn + 1 } := rfl
    rw [run_bind_ok hch, run_bind_ok (run_info s2)]
    have hask : ∀ q, (askRoom q).run P { w with drawn := w.drawn + 1 } = .ok () { w with drawn := w.drawn + 1 } := by
      intro q
      unfold askRoom
      split <;> rfl
    rw [run_bind_ok (hask _), run_bind_ok (a := (#[] : Array Value)) (w' := { w with drawn := w.drawn + 1 }) rfl]
    simp only [Bool.not_true, Bool.false_eq_true, if_false]
    have hrep : Builtin.zeroCells z.cells n = (List.replicate n z.cells.toList).flatten.toArray := by
      by_cases hzs : n * z.cells.size = 0
      · have : z.cells = #[] := by
          rcases Nat.mul_eq_zero.1 hzs with h | h
          · omega
          · exact Array.eq_empty_of_size_eq_zero h
        rw [this]; simp [Builtin.zeroCells]
      · exact range_rep z.cells n hzs
    have hz' := run_zero (w := { w with drawn := w.drawn + 1 }) hz
    have hnew : (if n * sz = 0 then pure #[] else do
              let __do_lift ← zeroValue e
              pure (Builtin.zeroCells __do_lift.cells n) : Sem (Array Value)).run P { w with drawn := w.drawn + 1 } = .ok (List.replicate n z.cells.toList).flatten.toArray { w with drawn := w.drawn + 1 } := by
      by_cases hns : n * sz = 0
      · rw [if_pos hns]
        have : z.cells = #[] := by
          rcases Nat.mul_eq_zero.1 hns with h | h
          · omega
          · exact Array.eq_empty_of_size_eq_zero (by omega)
        rw [this]
        simp
      · rw [if_neg hns, run_bind_ok hz', hrep]; rfl
    rw [run_bind_ok hnew, run_bind_ok hz', run_bind_ok (a := (⟨w.heap.size, 0, none⟩ : Addr)) (w' := { w with heap := w.heap.push (.cells ((List.replicate n z.cells.toList).flatten.toArray ++ Builtin.zeroCells z.cells (c - (0 + n))) e (0, 0)), drawn := w.drawn + 1 })]
    · simp only [Nat.zero_add]; rfl
    · simp only [Array.empty_append]; rfl

theorem appT_z {t tx e : TypeId} {sz by' : Nat} (ht : AppT P t tx e sz by') : ∃ z, tyZ P e = some z ∧ z.cells.size = sz := by
  obtain ⟨i, z, d, k1, k2, k3, k4, k5, k6, k7, k8, k9⟩ := ht.get
  exact ⟨z, by simp [tyZ, k2, k5], k9⟩

theorem elems_sl {h : T O} {sz b off len cap n : Nat} {g : Bool} {l : List V} (hx : elems h sz (.sl b off len cap g) = some (l, n)) : n = len := by
  simp only [elems] at hx
  split at hx
  · split at hx
    · rename_i cs _
      cases hbb : Nat.beq (List.take (len * sz) (List.drop off cs)).length (len * sz) with
      | false => rw [hbb] at hx; cases hx
      | true => rw [hbb] at hx; simp only [cond_true, Option.some.injEq, Prod.mk.injEq] at hx; exact hx.2.symm
    · cases hx
  · cases hx

theorem appendV_ok {t tx : TypeId} {x y : V} {x' y' : Value} {h h' : T O} {nx nx' : Nat} {v : V} {π : Nat → Nat × Obj} {own : HL} {I : IM} {ty : TypeId} (hr : appendV P t tx x y h nx = some (v, h', nx')) (hdx : den σ x = some x') (hdy : den σ y = some y')
    (hs : Sc σ nx) (hh : HR σ h.get π own) : EffT P (do pure (Next.value (← Builtin.append_ #[t, tx] ty #[x', y']))) I own (Rq σ nx h.get π v h'.get nx') := by
  unfold appendV at hr
  split at hr
  · rename_i e sz by' hA
    have hA := xA_ok hA
    obtain ⟨zv, hzc, hzs⟩ := appT_z hA
    split at hr
    · rename_i news m olds n hy hx
      obtain ⟨y1, y2, ny, y3, y4⟩ := elems_ok (P := P) hy hh hdy
      obtain ⟨x1, x2, ox, x3, x4⟩ := elems_ok (P := P) hx hh hdx
      have ly := denL_length y3
      have lx := denL_length x3
      cases hc : (Nat.ble ((n + m) * by') 1000000 && news.all plV && olds.all plV) with
      | false => rw [hc] at hr; cases hr
      | true =>
        rw [hc] at hr
        simp only [cond_true] at hr
        simp only [Bool.and_eq_true] at hc
        have hb := Nat.le_of_ble_eq_true hc.1.1
        have hny : ∀ (w : World), Lies h.get π w → (Builtin.firstCells sz m y').run P w = .ok ny.toArray w := fun w hW => by
          rw [y4 w hW m (Nat.le_refl _), List.take_of_length_le (by omega)]
        have hox : ∀ (w : World), Lies h.get π w → (Builtin.firstCells sz n x').run P w = .ok ox.toArray w := fun w hW => by
          rw [x4 w hW n (Nat.le_refl _), List.take_of_length_le (by omega)]
        -- a new row
        have grow : ∀ (base : Option Addr) (cap : Nat), x' = .slice base n cap → cap < n + m → ∀ w, Lies h.get π w → ∃ c rest, n + m ≤ c ∧ rest.length = (c - (n + m)) * sz ∧
            (Builtin.append_ #[t, tx] ty #[x', y']).run P w = .ok (.slice (some ⟨w.heap.size, 0, none⟩) (n + m) c) { w with heap := w.heap.push (.cells ((ox ++ ny) ++ rest).toArray e (0, 0)), drawn := w.drawn + 1 } := by
          intro base cap hx' hgt w hW
          subst hx'
          obtain ⟨c, rest, q1, q2, q3⟩ := run_append_grow (ty := ty) (w := w) hA y1 (fun k => hny { w with drawn := k } hW) (fun k => hox { w with drawn := k } hW) hgt (by omega)
          rw [hzc] at q2
          simp only [hzs] at q2
          refine ⟨c, rest.toList, q1, by simpa using q2, ?_⟩
          rw [q3]
          congr 4
          apply Array.ext'
          simp
        have mkNew : ∀ (base : Option Addr) (cap : Nat), x' = .slice base n cap → cap < n + m → v = .sl nx 0 (n + m) 0 true → h' = h.set nx (.grow (olds ++ news) e sz false (0, 0)) → nx' = nx + 1 →
            EffT P (do pure (Next.value (← Builtin.append_ #[t, tx] ty #[x', y']))) I own (Rq σ nx h.get π v h'.get nx') := by
          intro base cap hx' hgt hv hh' hnx
          subst hv hh' hnx
          rw [T.get_set]
          refine EffT.new hs hh fun w hW => ?_
          obtain ⟨c, rest, q1, q2, q3⟩ := grow base cap hx' hgt w hW
          refine ⟨_, _, _, c, q3, ?_, c, upF_self _ _ _, _, rest, (0, 0), denL_append (denL_mono (hs.le _) _ _ x3) (denL_mono (hs.le _) _ _ y3), rfl, ?_, ⟨rfl, rfl, Nat.le_refl _⟩⟩
          · rw [mk_sl (upF_self _ _ _) (fun _ => by simpa using q1)]; rfl
          · simp only [List.length_append, q2, lx, ly, x2, y2]
            rw [← Nat.add_mul, ← Nat.add_mul]
            congr 1; omega
        have fits : ∀ (b off cap : Nat) (w w' : World), x' = .slice (some ⟨b, off, none⟩) n cap → n + m ≤ cap → Lies h.get π w → (storeCells ⟨b, off + n * sz, none⟩ ny).run P w = .ok () w' →
            (Builtin.append_ #[t, tx] ty #[x', y']).run P w = .ok (.slice (some ⟨b, off, none⟩) (n + m) cap) w' := by
          intro b off cap w w' hx' hle hW hst
          subst hx'
          rw [run_append_fits (ty := ty) hA y1 (hny w hW) hle]
          simp only [addr_add, hst]
          rfl
        split at hr
        · -- nil
          simp only [elems] at hx
          cases hx
          simp only [den] at hdx
          cases hdx
          cases hm : Nat.beq m 0 with
          | true =>
            rw [hm] at hr; cases hr
            have := Nat.eq_of_beq_eq_true hm
            subst this
            refine EffT.no hs hh rfl fun w hW => ?_
            rw [run_append_fits (ty := ty) (n := 0) (cap := 0) (base := none) hA y1 (hny w hW) (Nat.le_refl _)]
            rfl
          | false =>
            rw [hm] at hr; cases hr
            have := Nat.ne_of_beq_eq_false hm
            exact mkNew none 0 rfl (by omega) (by rw [Nat.zero_add]) rfl rfl
        · rename_i b off len cap g
          obtain ⟨z, hz, hx', hg⟩ := den_sl hdx
          have hln : n = len := elems_sl hx
          subst hln
          cases g with
          | true =>
            simp only [cond_true] at hr hx'
            have hg := hg rfl
            split at hr
            · rename_i l e' gsz st fz hb'
              obtain ⟨c, hc1, l', rest, fr, h2, h3, h4, h5⟩ := hh.at hb'
              rw [hz] at hc1
              have hzc2 : z = ((π b).1, c) := Option.some.inj hc1
              have hl := denL_length h2
              cases hgs : (Nat.beq gsz sz && Nat.blt 0 sz && Nat.beq e' e) with
              | false => rw [hgs] at hr; cases hr
              | true =>
                rw [hgs] at hr
                simp only [cond_true] at hr
                simp only [Bool.and_eq_true] at hgs
                have hgs1 := Nat.eq_of_beq_eq_true hgs.1.1
                have hgs2 := bltLt hgs.1.2
                have hgs3 := Nat.eq_of_beq_eq_true hgs.2
                subst hgs1 hgs3
                rw [List.length_append] at h4
                cases hin : Nat.ble (off + (n + m) * gsz) l.length with
                | true =>
                  rw [hin] at hr
                  simp only [cond_true] at hr
                  have hin := Nat.le_of_ble_eq_true hin
                  cases hco : Nat.ble (cap * gsz) off with
                  | false => rw [hco] at hr; cases hr
                  | true =>
                    rw [hco] at hr
                    simp only [cond_true] at hr
                    have hco := Nat.le_of_ble_eq_true hco
                    have hroom : cap + (n + m) ≤ z.2 := by
                      rw [hzc2]
                      refine Nat.le_of_mul_le_mul_right (c := gsz) ?_ hgs2
                      rw [Nat.add_mul]; simp only; omega
                    refine EffT.sto hs hh hr y3 (mk_sl hz (fun _ => hroom)) hz fun w w' hW hst => ?_
                    simp only [cond_true]
                    exact fits _ _ _ w w' hx' (by omega) hW hst
                | false =>
                  rw [hin] at hr
                  simp only [cond_false] at hr
                  cases hq : (Nat.beq off 0 && Nat.beq cap 0 && Nat.beq l.length (n * gsz) && frB fz (n * gsz) (m * gsz)) with
                  | false => rw [hq] at hr; cases hr
                  | true =>
                    rw [hq] at hr
                    simp only [cond_true] at hr
                    simp only [Bool.and_eq_true] at hq
                    obtain ⟨⟨⟨r1, r2⟩, r3⟩, r4⟩ := hq
                    have r1 := Nat.eq_of_beq_eq_true r1
                    have r2 := Nat.eq_of_beq_eq_true r2
                    have r3 := Nat.eq_of_beq_eq_true r3
                    subst r1 r2
                    cases hr
                    rw [T.get_set, T.get_del]
                    obtain ⟨own', hp, hh'⟩ := hh.split hb'
                    have hxc : x' = .slice (some ⟨(π b).1, 0, none⟩) n c := by rw [hx', hzc2]; rfl
                    have hloc : Lies h.get π = Lies h.get π := rfl
                    have hol : ox = l' := by
                      have : olds = l := by
                        simp only [elems, hb', O.known] at hx
                        have hll : Nat.beq (List.take (n * gsz) (List.drop 0 l)).length (n * gsz) = true := by
                          rw [List.drop_zero, List.take_of_length_le (by omega), r3]; exact Nat.beq_refl _
                        simp only [hll, cond_true, Option.some.injEq, Prod.mk.injEq] at hx
                        rw [← hx.1, List.drop_zero, List.take_of_length_le (by omega)]
                      rw [this, h2] at x3
                      exact (Option.some.inj x3).symm
                    refine EffT.of fun w0 w F hst => ?_
                    have hst' := hst.perm (hp.append_right F)
                    have hW : Lies h.get π w := fun b o hb => hst.own _ (List.mem_append_left _ (hh.mem hb))
                    by_cases hfit : n + m ≤ c
                    · have hw' := hst'.own _ List.mem_cons_self
                      rw [h3] at hw'
                      have hsp : m * gsz ≤ rest.length := by
                        have : (n + m) * gsz ≤ c * gsz := Nat.mul_le_mul_right _ hfit
                        rw [Nat.add_mul] at this; omega
                      have hfr : frB fr (n * gsz) (m * gsz) = true := by
                        cases st with
                        | true =>
                          refine frB_in h5 ?_
                          have : (n + m) * gsz ≤ c * gsz := Nat.mul_le_mul_right _ hfit
                          rw [Nat.add_mul] at this; exact this
                        | false => exact frB_sub h5 r4
                      have hsc := run_storeCells (P := P) ny 0 (n * gsz) _ w hw' (by simp only [List.size_toArray, List.length_append]; omega) (by rw [Nat.zero_add, ly, y2]; exact hfr) (plL_ok hc.1.2 y3)
                      rw [Nat.add_zero, putC_end l' rest ny (n * gsz) (by omega)] at hsc
                      have hrun := fits _ _ _ w _ hxc hfit hW (by rw [Nat.zero_add]; exact hsc)
                      refine ⟨.value (.slice (some ⟨(π b).1, 0, none⟩) (n + m) c), _, ((π b).1, .cells (l' ++ ny ++ rest.drop ny.length).toArray e' fr) :: own', by rw [run_bind_ok hrun]; rfl, hst'.set, .inr ⟨_, rfl, ?_⟩⟩
                      refine Rq.fresh (c := c) hs (fun k _ hk => ?_) hh' ?_ ⟨c, upF_self _ _ _, _, rest.drop ny.length, fr, denL_append (denL_mono (hs.le _) _ _ x3) (denL_mono (hs.le _) _ _ y3), ?_, ?_, ?_⟩
                      · by_cases hkb : k = b
                        · subst hkb; exact upF_self _ _ _
                        · rw [upF_ne _ _ hkb]; exact hk
                      · rw [mk_sl (upF_self _ _ _) (fun _ => by simpa using hfit)]; rfl
                      · rw [hol]
                      · simp only [List.length_append, List.length_drop, ly, y2, lx, x2]
                        omega
                      · cases st with
                        | true => exact h5
                        | false => exact h5
                    · obtain ⟨c2, rest2, q1, q2, q3⟩ := grow _ _ hxc (by omega) w hW
                      refine ⟨.value (.slice (some ⟨w.heap.size, 0, none⟩) (n + m) c2), _, (w.heap.size, .cells (ox ++ ny ++ rest2).toArray e' (0, 0)) :: own', by rw [run_bind_ok q3]; rfl, (St.drop hst').push _ _, .inr ⟨_, rfl, ?_⟩⟩
                      refine Rq.fresh (c := c2) hs (fun k _ hk => ?_) hh' ?_ ⟨c2, upF_self _ _ _, _, rest2, (0, 0), denL_append (denL_mono (hs.le _) _ _ x3) (denL_mono (hs.le _) _ _ y3), rfl, ?_, ?_⟩
                      · by_cases hkb : k = b
                        · subst hkb; exact upF_self _ _ _
                        · rw [upF_ne _ _ hkb]; exact hk
                      · rw [mk_sl (upF_self _ _ _) (fun _ => by simpa using q1)]; rfl
                      · simp only [List.length_append, q2, lx, ly, x2, y2]
                        rw [← Nat.add_mul, ← Nat.add_mul]
                        congr 1; omega
                      · cases st with
                        | true => exact .inl rfl
                        | false => exact ⟨h5.1, rfl, Nat.zero_le _⟩
            · cases hr
          | false =>
            simp only [cond_false] at hr hx'
            cases hle : Nat.ble (n + m) cap with
            | true =>
              rw [hle] at hr
              simp only [cond_true] at hr
              have hle := Nat.le_of_ble_eq_true hle
              refine EffT.sto hs hh hr y3 (mk_sl hz (fun e => by cases e)) hz fun w w' hW hst => ?_
              exact fits _ _ _ w w' hx' hle hW hst
            | false =>
              rw [hle] at hr
              simp only [cond_false] at hr
              cases hr
              have : ¬ n + m ≤ cap := fun h => by rw [Nat.ble_eq_true_of_le h] at hle; cases hle
              exact mkNew _ cap hx' (by omega) rfl rfl rfl
        · rename_i b off alt cap g
          obtain ⟨z, hz, hx', hg⟩ := den_se hdx
          simp only [elems] at hx
          cases hx
          cases hgm : (g || Nat.beq m 0) with
          | true => rw [hgm] at hr; cases hr
          | false =>
            rw [hgm] at hr
            simp only [Bool.or_eq_false_iff] at hgm
            obtain ⟨rfl, hm⟩ := hgm
            cases hr
            have := Nat.ne_of_beq_eq_false hm
            exact mkNew _ 0 hx' (by omega) (by rw [Nat.zero_add]) rfl rfl
        · cases hr
    · cases hr
  · split at hr
    · rename_i e sz by' k0 k1 n hS hu
      have hS := xS_ok hS
      cases hn : Nat.beq n 0 with
      | true => rw [hn] at hr; cases hr
      | false =>
        rw [hn] at hr
        simp only [cond_false] at hr
        have hn := Nat.ne_of_beq_eq_false hn
        split at hr
        · rename_i zv hzv
          obtain ⟨z', hz', hzd⟩ := zV_ok hzv
          cases hc : (Nat.ble (n * by') 1000000 && Nat.ble n 1000000 && Nat.beq zv.cs.length sz) with
          | false => rw [hc] at hr; cases hr
          | true =>
            rw [hc] at hr; cases hr
            simp only [Bool.and_eq_true] at hc
            have c1 := Nat.le_of_ble_eq_true hc.1.1
            have c2 := Nat.le_of_ble_eq_true hc.1.2
            have c3 := Nat.eq_of_beq_eq_true hc.2
            have hzc := denL_length (den_cs (hzd σ))
            simp only [Array.length_toList] at hzc
            simp only [den] at hdx
            cases hdx
            rw [den_int hdy, T.get_set]
            refine EffT.new hs hh fun w hW => ?_
            obtain ⟨c, rest, q1, q2, q3⟩ := run_append_zeros (P := P) (w := w) (ty := ty) (kd := k1) hS (tU_ok hu) hz' (by omega) hn (by omega) c1
            refine ⟨_, _, _, c, q3, ?_, c, upF_self _ _ _, _, rest.toList, (0, 0), denL_rep n (den_cs (hzd _)), ?_, ?_, ⟨rfl, rfl, Nat.le_refl _⟩⟩
            · rw [mk_sl (upF_self _ _ _) (fun _ => by simpa using q1)]; rfl
            · show Obj.cells _ _ _ = Obj.cells _ _ _; congr 1; apply Array.ext'; simp
            · simp only [List.length_append, Array.length_toList, q2, List.length_flatten, List.map_replicate, List.sum_replicate_nat]
              rw [hzc, c3, ← Nat.add_mul]
              congr 1; omega
        · cases hr
    · cases hr
end
end Go.Proofs.Zz

namespace Go.Proofs.Zz
open Go
variable [LoopOk]
section
variable {P : Program}

theorem optL_map {σ : Sg} {e : T V} {ρ : Env} (hE : ER σ e ρ) {as : Array Operand} {vs : List V} (h : optL (evO e) as.toList = some vs) : denL σ vs = some (as.map (evE ρ)).toList := by
  rw [Array.toList_map]; exact hE.ops h

theorem run_len {w : World} {t ty : TypeId} {x : Value} {d : TypeDesc} (h : P.underlying t = some d) : (Builtin.len_ #[t] ty #[x]).run P w = ((match d, x with
    | .string, .string s => pure (goInt s.size)
    | .array n _, _ => pure (goInt n)
    | .slice _, .slice _ n _ => pure (goInt n)
    | .map _ _, .map none => pure (goInt 0)
    | .map _ _, .map (some r) => (do
      let o ← getObj r
      match o with
      | .map entries _ => pure (goInt entries.size)
      | _ => stuck "len: map expected")
    | _, _ => Builtin.len_ #[t] ty #[x]) : Sem Value).run P w := by
  cases d <;> try rfl
  all_goals
    cases x <;> try rfl
  all_goals
    unfold Builtin.len_
    simp only [List.getElem?_toArray, List.getElem?_cons_zero]
    rw [run_bind_ok (run_und h)]
    try rfl
  all_goals
    rename_i r
    cases r
    all_goals rfl

theorem hCallB_ok (b : Builtin) (ts : Array TypeId) (as : Array Operand) : HdOk P ⟨hCallB b ts as⟩ (.call { callee := .builtin b, args := as, argTypes := ts }) := by
  intro ops bs ord K PK Rl i is ρ I F own dst ty pos af g σ nx nx' h h' π v e ld cx ho hw hc hP hgl hor hcall hr hE hs hh hrl k
  subst hP
  simp only [hCallB] at hr
  split at hr
  · rename_i args hargs
    have hd := optL_map hE hargs
    have q0 : ∀ {v' : Value} {s : Sem Value}, (execOp (evE ρ) ⟨dst, .call { callee := .builtin b, args := as, argTypes := ts }, ty, pos, af, g⟩ = do pure (Next.value (← s))) → opCls bs (.call { callee := .builtin b, args := as, argTypes := ts }) = 2 → ld = none →
        EffT cx.P (do pure (Next.value (← s))) I own (Rq σ nx h.get π v h'.get nx') → DX cx.P ops bs ord K PK Rl (i :: is) ρ I (own ++ F) := by
      intro v' s he hcl hld heff
      subst hld
      rw [hcl] at k
      exact k.eff ho hw hcl (hrl hcl) (by rw [he]; exact heff)
    cases b <;> try (cases hr; done)
    · -- append
      simp only [callB] at hr
      split at hr
      · rename_i t tx x y hts
        obtain ⟨hr2, hld⟩ := okR_inv hr
        have e1 := toList_inv hts
        obtain ⟨x', y', d1, d2, hl⟩ := denL_2 hd
        have e2 := toList_inv hl
        refine q0 (v' := undef) (s := Builtin.append_ ts ty (as.map (evE ρ))) rfl rfl hld ?_
        rw [e2, e1]
        exact appendV_ok hr2 d1 d2 hs hh
      · cases hr
    · -- cap
      simp only [callB, capV] at hr
      split at hr
      · rename_i t x hts
        have e1 := toList_inv hts
        obtain ⟨x', d1, hl⟩ := denL_1 hd
        have e2 := toList_inv hl
        have fin : ∀ {v' : Value}, v' = v' → den σ v = some v' → h' = h → nx' = nx → ld = none → (∀ w, (Builtin.cap_ ts ty (as.map (evE ρ))).run cx.P w = .ok v' w) → DX cx.P ops bs ord K PK Rl (i :: is) ρ I (own ++ F) := by
          intro v' _ hv hh' hnx hld hrun
          subst hh' hnx hld
          exact k.pure ho hw Nat.zero_ne_one hs hh hv (PureT.of (s := Builtin.cap_ ts ty (as.map (evE ρ))) hrun)
        split at hr
        · rename_i el hu
          cases hr
          simp only [den] at d1; cases d1
          refine fin rfl (v' := .int .i64 0) rfl rfl rfl rfl fun w => ?_
          rw [e2, e1]
          unfold Builtin.cap_
          simp only [List.getElem?_toArray, List.getElem?_cons_zero]
          rw [run_bind_ok (run_und (tU_ok hu))]
          rfl
        · rename_i el b off len c hu
          cases hr
          obtain ⟨z, hz, rfl, -⟩ := den_sl d1
          refine fin rfl (v' := .int .i64 c) rfl rfl rfl rfl fun w => ?_
          rw [e2, e1]
          unfold Builtin.cap_
          simp only [List.getElem?_toArray, List.getElem?_cons_zero]
          rw [run_bind_ok (run_und (tU_ok hu))]
          rfl
        · cases hr
      · cases hr
    · -- clear
      simp only [callB] at hr
      obtain ⟨hr2, hld⟩ := okR_inv hr
      refine q0 (v' := undef) (s := Builtin.clear_ ts ty (as.map (evE ρ))) rfl rfl hld ?_
      exact clearV_ok hr2 hd hs hh
    · -- copy
      simp only [callB] at hr
      obtain ⟨hr2, hld⟩ := okR_inv hr
      refine q0 (v' := undef) (s := Builtin.copy_ ts ty (as.map (evE ρ))) rfl rfl hld ?_
      exact copyV_ok hr2 hd hs hh
    · -- delete
      simp only [callB] at hr
      obtain ⟨hr2, hld⟩ := okR_inv hr
      refine q0 (v' := undef) (s := Builtin.delete_ ts ty (as.map (evE ρ))) rfl rfl hld ?_
      exact delV_ok hr2 hd hs hh
    · -- len
      simp only [callB, lenV] at hr
      split at hr
      · rename_i t x hts
        have e1 := toList_inv hts
        obtain ⟨x', d1, hl⟩ := denL_1 hd
        have e2 := toList_inv hl
        have fin : ∀ {v' : Value}, v' = v' → den σ v = some v' → h' = h → nx' = nx → ld = none → (∀ w, (Builtin.len_ ts ty (as.map (evE ρ))).run cx.P w = .ok v' w) → DX cx.P ops bs ord K PK Rl (i :: is) ρ I (own ++ F) := by
          intro v' _ hv hh' hnx hld hrun
          subst hh' hnx hld
          exact k.pure ho hw Nat.zero_ne_one hs hh hv (PureT.of (s := Builtin.len_ ts ty (as.map (evE ρ))) hrun)
        split at hr
        · rename_i s hu
          cases hr
          refine fin rfl (v' := .int .i64 s.length) rfl rfl rfl rfl fun w => ?_
          rw [e2, e1, run_len (tU_ok hu), den_str d1]
          simp only [Zz.str]
          show Result.ok (goInt (ByteArray.size ⟨s.toArray⟩)) w = _
          rw [show (ByteArray.mk s.toArray).size = s.length by show s.toArray.size = _; simp]
          rfl
        · rename_i n el hu
          cases hr
          refine fin rfl (v' := .int .i64 n) rfl rfl rfl rfl fun w => ?_
          rw [e2, e1, run_len (tU_ok hu)]
          rfl
        · rename_i el hu
          cases hr
          simp only [den] at d1; cases d1
          refine fin rfl (v' := .int .i64 0) rfl rfl rfl rfl fun w => ?_
          rw [e2, e1, run_len (tU_ok hu)]
          rfl
        · rename_i el b off alt c gr hu
          cases hr
          obtain ⟨z, hz, rfl, -⟩ := den_se d1
          refine fin rfl (v' := .int .i64 0) rfl rfl rfl rfl fun w => ?_
          rw [e2, e1, run_len (tU_ok hu)]
          rfl
        · rename_i el b off n c gr hu
          cases hr
          obtain ⟨z, hz, rfl, -⟩ := den_sl d1
          refine fin rfl (v' := .int .i64 n) rfl rfl rfl rfl fun w => ?_
          rw [e2, e1, run_len (tU_ok hu)]
          rfl
        · rename_i el i' hu
          split at hr
          · rename_i lv hlv
            cases hr
            obtain ⟨a, n, c, z1, z2⟩ := hor.orl _ _ hlv
            simp only [den] at d1
            have d1 := Option.some.inj d1
            refine fin rfl (v' := .int .i64 n) (z2 σ) rfl rfl rfl fun w => ?_
            rw [e2, e1, run_len (tU_ok hu), ← d1, z1]
            rfl
          · cases hr
        · rename_i kt el hu
          cases hr
          simp only [den] at d1; cases d1
          refine fin rfl (v' := .int .i64 0) rfl rfl rfl rfl fun w => ?_
          rw [e2, e1, run_len (tU_ok hu)]
          rfl
        · rename_i kt el m hu
          split at hr
          · rename_i es c hb
            cases hr
            obtain ⟨z, hz, rfl⟩ := den_map d1
            obtain ⟨yc, es', hy2, hes, hob⟩ := (hh.at hb).map
            have hblk := (hh.at hb).blk hz
            refine k.load (v' := .int .i64 es.length) ho hw Nat.zero_ne_one hs hh rfl hb ?_
            refine LoadT.of (s := Builtin.len_ ts ty (as.map (evE ρ))) fun w hw' => ?_
            rw [hob] at hw'
            rw [e2, e1, run_len (tU_ok hu), hblk]
            simp only
            rw [run_bind_ok (run_getObj hw')]
            simp only [List.size_toArray, denM_length hes]
            rfl
          · cases hr
        · cases hr
      · cases hr
    · -- max
      simp only [callB, mmV] at hr
      split at hr
      · rename_i k1 a k2 b
        cases hr
        obtain ⟨x', y', d1, d2, hl⟩ := denL_2 hd
        have e2 := toList_inv hl
        rw [den_int d1, den_int d2] at e2
        refine k.pure ho hw Nat.zero_ne_one hs hh rfl (PureT.of (s := Builtin.max_ ts ty (as.map (evE ρ))) fun w => ?_)
        rw [e2]
        by_cases hlt : a < b
        · simp [Builtin.max_, Builtin.max2, hlt]
        · simp [Builtin.max_, Builtin.max2, hlt]
      · cases hr
    · -- min
      simp only [callB, mmV] at hr
      split at hr
      · rename_i k1 a k2 b
        cases hr
        obtain ⟨x', y', d1, d2, hl⟩ := denL_2 hd
        have e2 := toList_inv hl
        rw [den_int d1, den_int d2] at e2
        refine k.pure ho hw Nat.zero_ne_one hs hh rfl (PureT.of (s := Builtin.min_ ts ty (as.map (evE ρ))) fun w => ?_)
        rw [e2]
        by_cases hlt : b < a
        · simp [Builtin.min_, Builtin.min2, hlt]
        · simp [Builtin.min_, Builtin.min2, hlt]
      · cases hr
    · -- by the address
      simp only [callB] at hr
      obtain ⟨hr2, hld⟩ := okR_inv hr
      refine q0 (v' := undef) (s := Builtin.unsafeSliceData_ ts ty (as.map (evE ρ))) rfl rfl hld ?_
      exact usdV_ok hr2 hd hs hh
    · simp only [callB] at hr
      obtain ⟨hr2, hld⟩ := okR_inv hr
      refine q0 (v' := undef) (s := Builtin.unsafeString_ ts ty (as.map (evE ρ))) rfl rfl hld ?_
      exact ustrV_ok hr2 hd hs hh
  · cases hr
end
end Go.Proofs.Zz

namespace Go.Proofs.Zz
open Go
variable [LoopOk]
section
variable {P : Program}

theorem ofValue_first (fn : Fn) (first capt args : Array Value) : Deferred.ofValue (.func fn first capt) args = Deferred.ofValue (.func fn #[] capt) (first ++ args) := by
  unfold Deferred.ofValue
  simp

theorem hCallV_ok (f : Operand) (ts : Array TypeId) (as : Array Operand) : HdOk P ⟨hCallV f as⟩ (.call { callee := .value f, args := as, argTypes := ts }) := by
  intro ops bs ord K PK Rl i is ρ I F own dst ty pos af g σ nx nx' h h' π v e ld cx ho hw hc hP hgl hor hcall hr hE hs hh hrl k
  subst hP
  simp only [hCallV] at hr
  split at hr
  · rename_i fn first capt args hf hargs
    obtain ⟨hr2, rfl⟩ := okR_inv hr
    have hd := optL_map hE hargs
    have hdf := hE.op hf
    refine k.eff ho hw rfl (hrl rfl) ?_
    have main : ∀ (first' capt' : Array Value) (fn' : Fn), evE ρ f = .func fn' first' capt' → denL σ first = some first'.toList → den σ (.func fn [] capt) = some (.func fn' #[] capt') →
        EffT cx.P (execOp (evE ρ) ⟨dst, .call { callee := .value f, args := as, argTypes := ts }, ty, pos, af, g⟩) I own (Rq σ nx h.get π v h'.get nx') := by
      intro first' capt' fn' h1 h2 h3
      have := hcall fn (first ++ args) capt h nx v h' nx' σ π own _ _ hr2 hs hh h3 (denL_append h2 hd)
      show EffT cx.P (Deferred.ofValue (evE ρ f) (as.map (evE ρ)) >>= fun d => invoke d.target d.args) _ _ _
      rw [h1, ofValue_first]
      have e : (first'.toList ++ (as.map (evE ρ)).toList).toArray = first' ++ as.map (evE ρ) := by apply Array.ext'; simp
      rw [e] at this
      exact this
    cases fn with
    | yield l =>
      simp only [den] at hdf
      cases hl : σ l with
      | none => rw [hl] at hdf; cases hdf
      | some y =>
        rw [hl] at hdf
        cases first with
        | cons _ _ => cases hdf
        | nil =>
          cases capt with
          | cons _ _ => cases hdf
          | nil =>
            have := Option.some.inj hdf
            exact main #[] #[] _ this.symm rfl (by simp only [den, hl])
    | _ =>
      simp only [den] at hdf
      cases ha : denL σ first with
      | none => rw [ha] at hdf; cases hdf
      | some a' =>
        cases hb : denL σ capt with
        | none => rw [ha, hb] at hdf; cases hdf
        | some b' =>
          rw [ha, hb] at hdf
          have := Option.some.inj hdf
          exact main a'.toArray b'.toArray _ this.symm (by simpa using ha) (by simp only [den, denL, hb])
  · cases hr

theorem hFail_ok (o : Op) : HdOk P ⟨fun _ _ _ _ => none⟩ o := by
  intro ops bs ord K PK Rl i is ρ I F own dst ty pos af g σ nx nx' h h' π v e ld cx ho hw hc hP hgl hor hcall hr hE hs hh hrl k
  cases hr

theorem opTab_ok (o : Op) : HdOk P (opTab o) o := by
  cases o <;> first | exact hFail_ok _ | skip
  case move x => exact hMove_ok x
  case assign x => exact hAssign_ok x
  case pick c a b => exact hPick_ok c a b
  case alloc t => exact hAlloc_ok t
  case box t x => exact hBox_ok t x
  case build t parts => exact hBuild_ok t parts
  case buildSlice t n parts => exact hBuildS_ok t n parts
  case load t x => exact hLoad_ok t x
  case store t x y => exact hStore_ok t x y
  case nilCheck x => exact hNil_ok x
  case binOp op t x y t' => exact hBin_ok op t t' x y
  case unOp op t x => exact hUn_ok op t x
  case convert s d x => exact hConv_ok s d x
  case makeInterface t x => exact hIface_ok t x
  case makeFunc fn first capt => exact hMkF_ok fn first capt
  case makeMap t r => exact hMkMap_ok t r
  case makeSlice t l c => exact hMkS_ok t l c
  case slice t x lo hi mx => exact hSlice_ok t x lo hi mx
  case fieldAddr s x f => exact hFA_ok s x f
  case field s x f => exact hFld_ok s x f
  case indexAddr t x i => exact hIxA_ok t x i
  case index t x i => exact hIx_ok t x i
  case lookup t x k c => exact hLook_ok t x k c
  case mapUpdate t m k x => exact (hUpd_ok t m k x).1
  case insert t m k x => exact (hUpd_ok t m k x).2
  case mapEntry t m k => exact hMapEntry_ok t m k
  case entryStore t m s x => exact hEntryStore_ok t m s x
  case range t x => exact hRange_ok t x
  case next x isS => exact hNext_ok x isS
  case entry x => exact hEntry_ok x
  case typeAssert x xt t c => exact hAssert_ok x xt t c
  case extract x n => exact hExt_ok x n
  case call c =>
    obtain ⟨callee, args, ts⟩ := c
    cases callee with
    | builtin b => exact hCallB_ok b ts args
    | value f => exact hCallV_ok f ts args
    | invoke r n => exact hFail_ok _
end
end Go.Proofs.Zz
