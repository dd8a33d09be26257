import Derived.Test.YtjmamidgbollgaaGreatDoorZzFm
import Derived.Test.YtjmamidgbollgaaGreatDoorZzEs
import Derived.ProofKit
import Derived.OpenShut
import Derived.LaidMore
import Derived.Lay
import Derived.Stop.Joined
set_option linter.all false
set_option linter.unusedVariables false
set_option linter.unusedSimpArgs false
namespace Go.Proofs.Zz
open Go
variable [LoopOk]
section
variable {P : Program}

theorem ext_run {k : FuncId} {fn : Func} {e : Array Value → Sem Value} (h1 : P.funcs[k]? = some fn) (h2 : (fn.name == "runtime.NumGoroutine") = false) (h3 : fn.body.isNone = true) (h4 : Extern.findNext fn = none) (h5 : Extern.find fn = some e)
    (as : Array Value) (w : World) : (callFunc k as).run P w = (do pure (Next.value (← e as)) : Sem Next).run P w := by
  have hn : ¬ fn.name = "runtime.NumGoroutine" := by simpa using h2
  unfold callFunc
  rw [run_bind_ok (a := P) (w' := w) rfl]
  simp only [h1, h2, h3, Bool.false_eq_true, if_false, if_true]
  show (Sem.mark _ _).run P w = _
  simp only [Sem.run, h4, h5]
  rfl
theorem EffT.same {s s' : Sem Next} {I : IM} {own : HL} {R : Res → IM → HL → Prop} (h : EffT P s' I own R) (he : ∀ w, s.run P w = s'.run P w) : EffT P s I own R := fun w0 w F hst => by rw [he]; exact h w0 w F hst

/-- internal/abi.NoEscape. -/
theorem kn_noEscape {k : FuncId} {fn : Func} (h1 : P.funcs[k]? = some fn) (h2 : (fn.name == "runtime.NumGoroutine") = false) (h3 : fn.body.isNone = true) (h4 : Extern.findNext fn = none) (h5 : Extern.find fn = some Extern.AbiNoEscape.same)
    {σ : Sg} {nx : Nat} {h : T O} {π : Nat → Nat × Obj} {own : HL} {I : IM} {x : V} {args' : List Value} (hs : Sc σ nx) (hh : HR σ h.get π own) (hd : denL σ [x] = some args') :
    EffT P (callFunc k args'.toArray) I own (Rq σ nx h.get π x h.get nx) := by
  obtain ⟨x', d1, rfl⟩ := denL_1 hd
  exact EffT.same (EffT.no hs hh d1 fun w _ => rfl) (ext_run h1 h2 h3 h4 h5 _)

/-- The first place of a byte. -/
noncomputable def idxN (c : UInt8) : List UInt8 → Nat → Option Nat
  | [], _ => none
  | x :: l, i => bif x == c then some i else idxN c l (Nat.succ i)
theorem idxN_eq (c : UInt8) (L : List UInt8) : ∀ (l pre : List UInt8), L = pre ++ l → (List.range' pre.length l.length).find? (fun i => L[i]! == c) = idxN c l pre.length
  | [], pre, _ => rfl
  | x :: l, pre, h => by
    have hx : L[pre.length]! = x := by
      rw [h]; simp
    simp only [List.length_cons, List.range'_succ, List.find?_cons, hx, idxN]
    cases hxc : x == c with
    | true => rfl
    | false =>
      simp only [cond_false]
      have := idxN_eq c L l (pre ++ [x]) (by rw [h]; simp)
      simpa using this
noncomputable def idxV (c : UInt8) (l : List UInt8) : V := match idxN c l 0 with
  | some i => .int .i64 i
  | none => .int .i64 (-1)

/-- internal/bytealg.IndexByteString. -/
theorem kn_indexByte {k : FuncId} {fn : Func} (h1 : P.funcs[k]? = some fn) (h2 : (fn.name == "runtime.NumGoroutine") = false) (h3 : fn.body.isNone = true) (h4 : Extern.findNext fn = none) (h5 : Extern.find fn = some Extern.BytealgIndexByte.indexByte)
    {σ : Sg} {nx : Nat} {h : T O} {π : Nat → Nat × Obj} {own : HL} {I : IM} {s : List UInt8} {c : Nat} {args' : List Value} (hc : c < 256) (hs : Sc σ nx) (hh : HR σ h.get π own) (hd : denL σ [.str s, .int .u8 (.ofNat c)] = some args') :
    EffT P (callFunc k args'.toArray) I own (Rq σ nx h.get π (idxV (UInt8.ofNat c) s) h.get nx) := by
  obtain ⟨x', y', d1, d2, rfl⟩ := denL_2 hd
  rw [den_str d1, den_int d2]
  have hf := idxN_eq (UInt8.ofNat c) s s [] rfl
  have hrun : ∀ w : World, (Extern.BytealgIndexByte.indexByte #[Zz.str s, .int .u8 (.ofNat c)]).run P w = .ok (match idxN (UInt8.ofNat c) s 0 with | some i => .int .i64 i | none => .int .i64 (-1)) w := by
    intro w
    have hdef : Extern.BytealgIndexByte.indexByte #[Zz.str s, .int .u8 (.ofNat c)] = (do
      let b ← Extern.Bytes.bytesOf (Zz.str s)
      let c ← Extern.Bytes.asByte (.int .u8 (.ofNat c))
      match (List.range b.size).find? fun i => b[i]! == c with
      | some i => pure (goInt i)
      | none => pure (goInt (-1))) := rfl
    rw [hdef]
    rw [run_bind_ok (a := (ByteArray.mk s.toArray)) (w' := w) rfl]
    rw [run_bind_ok (a := UInt8.ofNat c) (w' := w) (by rfl)]
    have hsz : (ByteArray.mk s.toArray).size = s.length := by show s.toArray.size = _; simp
    have hg : ∀ i, (ByteArray.mk s.toArray)[i]! = s[i]! := fun i => by
      by_cases hi : i < s.length
      · rw [getElem!_pos _ i (by rw [hsz]; exact hi), getElem!_pos _ i hi]; rfl
      · rw [getElem!_neg _ i (by rw [hsz]; exact hi), getElem!_neg _ i hi]
    have : (List.range (ByteArray.mk s.toArray).size).find? (fun i => (ByteArray.mk s.toArray)[i]! == UInt8.ofNat c) = idxN (UInt8.ofNat c) s 0 := by
      rw [hsz, List.range_eq_range']
      simp only [hg]
      exact hf
    rw [this]
    cases idxN (UInt8.ofNat c) s 0 <;> rfl
  have hden : den σ (idxV (UInt8.ofNat c) s) = some (match idxN (UInt8.ofNat c) s 0 with | some i => .int .i64 i | none => .int .i64 (-1)) := by
    unfold idxV
    cases idxN (UInt8.ofNat c) s 0 <;> rfl
  exact EffT.same (EffT.no (s := Extern.BytealgIndexByte.indexByte #[Zz.str s, .int .u8 (.ofNat c)]) hs hh hden fun w _ => hrun w) (ext_run h1 h2 h3 h4 h5 _)

theorem digits_size : ∀ (n t : Nat) (acc : Array Value), (Extern.BytealgMakeNoZero.digits n t acc).size = acc.size + n
  | 0, t, acc => rfl
  | n + 1, t, acc => by simp only [Extern.BytealgMakeNoZero.digits, digits_size n]; simp; omega

/-- internal/bytealg.MakeNoZero. -/
theorem kn_makeNoZero {k : FuncId} {fn : Func} {t el : TypeId} (h1 : P.funcs[k]? = some fn) (h2 : (fn.name == "runtime.NumGoroutine") = false) (h3 : fn.body.isNone = true) (h4 : Extern.findNext fn = none)
    (h5 : Extern.find fn = some (Extern.BytealgMakeNoZero.makeNoZero fn.params fn.resultTypes)) (ht : fn.resultTypes[0]? = some t) (hu : P.underlying t = some (.slice el))
    {σ : Sg} {nx : Nat} {h : T O} {π : Nat → Nat × Obj} {own : HL} {I : IM} {n : Nat} {args' : List Value} (hn : n ≤ 1000000) (hs : Sc σ nx) (hh : HR σ h.get π own) (hd : denL σ [.int .i64 (.ofNat n)] = some args') :
    EffT P (callFunc k args'.toArray) I own (Rq σ nx h.get π (.sl nx 0 n 0 true) (upF h.get nx (some (.grow [] el 1 false (0, 0)))) (nx + 1)) := by
  obtain ⟨x', d1, rfl⟩ := denL_1 hd
  rw [den_int d1]
  refine EffT.same (EffT.new (s := Extern.BytealgMakeNoZero.makeNoZero fn.params fn.resultTypes #[.int .i64 (.ofNat n)]) hs hh fun w hW => ?_) (ext_run h1 h2 h3 h4 h5 _)
  let cap := (Question.appendCap n 0 el).cut (w.tape w.drawn (.appendCap n 0 el))
  have hcap : n ≤ cap := Nat.le_add_right _ _
  let w1 : World := { w with drawn := w.drawn + 1 }
  let by' := (Question.extern "internal/bytealg.MakeNoZero.bytes" 0).cut (w1.tape w1.drawn (.extern "internal/bytealg.MakeNoZero.bytes" 0))
  refine ⟨.slice (some ⟨w.heap.size, 0, none⟩) n cap, .cells (Extern.BytealgMakeNoZero.digits cap by' #[]) el (0, 0), w.drawn + 1 + 1, cap, ?_, ?_, cap, upF_self _ _ _, [], (Extern.BytealgMakeNoZero.digits cap by' #[]).toList, (0, 0), rfl, by simp, ?_, ⟨rfl, rfl, Nat.le_refl _⟩⟩
  · have hdef : Extern.BytealgMakeNoZero.makeNoZero fn.params fn.resultTypes #[.int .i64 (.ofNat n)] = (do
      match fn.resultTypes[0]? with
      | none => stuck "bytealg.MakeNoZero: no result type"
      | some t => do
        match ← underlying t with
        | .slice elem => do
          if Int.ofNat n < 0 || Int.ofNat n > 2 ^ 48 then runtimePanic (.error "makeslice: len out of range")
          let cap ← choose (.appendCap (Int.ofNat n).toNat 0 elem)
          askRoom cap
          let bytes ← choose (.extern "internal/bytealg.MakeNoZero.bytes" 0)
          let a ← newRow elem (Extern.BytealgMakeNoZero.digits cap bytes #[])
          pure (.slice (some a) (Int.ofNat n).toNat cap)
        | _ => stuck "bytealg.MakeNoZero: slice type expected") := by
      unfold Extern.BytealgMakeNoZero.makeNoZero
      cases fn.resultTypes[0]? <;> rfl
    rw [hdef, ht]
    simp only
    rw [run_bind_ok (run_und hu)]
    simp only
    have hneg : (decide ((Int.ofNat n) < 0) || decide ((Int.ofNat n) > 2 ^ 48)) = false := by
      have a1 : ¬ ((Int.ofNat n) < 0) := by show ¬ ((n : Int) < 0); omega
      have a2 : ¬ ((Int.ofNat n) > 2 ^ 48) := by rw [pow48]; show ¬ ((n : Int) > _); omega
      rw [decide_eq_false a1, decide_eq_false a2]; rfl
    simp only [hneg, Bool.false_eq_true, if_false]
    have hch : (choose (.appendCap n 0 el)).run P w = .ok cap w1 := rfl
    show ((choose (.appendCap n 0 el)) >>= _).run P w = _
    rw [run_bind_ok hch]
    have hask : ∀ q (w : World), (askRoom q).run P w = .ok () w := by
      intro q w
      unfold askRoom
      split <;> rfl
    rw [run_bind_ok (hask _ _)]
    have hch2 : (choose (.extern "internal/bytealg.MakeNoZero.bytes" 0)).run P w1 = .ok by' { w1 with drawn := w1.drawn + 1 } := rfl
    rw [run_bind_ok hch2]
    rfl
  · rw [mk_sl (upF_self _ _ _) (fun _ => by simpa using hcap)]; rfl
  · simp [digits_size]
end
end Go.Proofs.Zz

namespace Go.Proofs.Zz
open Go
variable [LoopOk]
section
variable {P : Program} {B : Bx} {Ib : IM}

/-- Numbers alone. -/
noncomputable def intsB : List V → Bool
  | [] => true
  | .int _ _ :: l => intsB l
  | _ => false
theorem ints_den {σ τ : Sg} : ∀ {l : List V}, intsB l = true → denL σ l = denL τ l
  | [], _ => rfl
  | .int k n :: l, h => by
    rw [intsB] at h
    rw [denL, denL, ints_den (σ := σ) (τ := τ) h]
    rfl

theorem HR.empty (σ : Sg) (π : Nat → Nat × Obj) : HR σ (T.lf : T O).get π [] := ⟨[], List.nodup_nil, fun k => by simp [T.get_lf], .refl _, fun k o h => by rw [T.get_lf] at h; cases h⟩

/-- A table that a function makes, whatever lies there. -/
theorem kn_table (hB : BxOk P B Ib) {m : Nat} {k : FuncId} {b nx' : Nat} {h' : T O} {tab : List V} {el : TypeId} {fz : Nat × Nat} (hr : callBody P B (ev P B m) k [] .lf 0 = some (.ptr b 0, h', nx')) (hg : h'.get b = some (.cells tab el fz)) (hi : intsB tab = true)
    {σ : Sg} {nx : Nat} {h : T O} {π : Nat → Nat × Obj} {own : HL} {I : IM} (hI : Ib.le I) (hs : Sc σ nx) (hh : HR σ h.get π own) :
    EffT P (callFunc k #[]) I own (Rq σ nx h.get π (.ptr nx 0) (upF h.get nx (some (.cells tab el fz))) (nx + 1)) := by
  have hC := call_ok hB m hr (σ := fun _ => none) (π := fun _ => (0, default)) (own := []) (args' := []) (fun _ _ => rfl) (HR.empty _ _) rfl hI
  intro w0 w F hst
  refine UpR.mono ?_ ?_ (EffT.call hC w0 w (own ++ F) (by simpa using hst))
  · rintro v w' ⟨I', own', hle, hst', v', σ', π', e, h1, h2, h3, h4, h5⟩
    cases e
    obtain ⟨y, hy, rfl⟩ := den_ptr h3
    have hblk := (h4.at hg).blk hy
    obtain ⟨own2, hp, hh2⟩ := h4.split hg
    obtain ⟨l', q1, q2, q3⟩ := (h4.at hg).sz
    have hpi : π' b = ((π' b).1, (π' b).2) := rfl
    refine ⟨I', π' b :: own, hle, ?_, _, upF σ nx (some ((π' b).1, 0)), upF π nx (π' b), rfl, hs.le _, hs.up _, ?_, hh.new hs (p := π' b) (c := 0) ⟨0, upF_self _ _ _, l', by rw [ints_den hi]; exact q1, q2⟩, Ext.new hs (hh.fresh hs (Nat.le_refl _)) _ _⟩
    · have hp2 : (own' ++ (own ++ F)).Perm (own2 ++ ((π' b :: own) ++ F)) := by
        refine (hp.append_right _).trans ?_
        simp only [List.cons_append]
        exact List.perm_middle.symm
      exact St.sub (hst'.perm hp2)
    · simp only [den, upF_self, hblk]
  · rintro c w' ⟨I', own', hle, hst', v', σ', π', e, _⟩; cases e
end
end Go.Proofs.Zz

namespace Go.Proofs.Zz
open Go
/-- Functions whose code is in order, but for some. -/
noncomputable def okAt (P : Program) (ex : Nat → Bool) (k : Nat) : Bool := bif ex k then true else match fI P k with
  | some fn => match fn.body with
    | some c => okCode P fn.ntmps c && !(fn.name == "runtime.NumGoroutine")
    | none => true
  | none => true
noncomputable def okFrom (P : Program) (ex : Nat → Bool) : Nat → Nat → Bool
  | _, 0 => true
  | k, n + 1 => okAt P ex k && okFrom P ex (Nat.succ k) n
theorem okFrom_at {P : Program} {ex : Nat → Bool} : ∀ {n k : Nat}, okFrom P ex k n = true → ∀ j, k ≤ j → j < k + n → okAt P ex j = true
  | 0, k, _, j, h1, h2 => by omega
  | n + 1, k, h, j, h1, h2 => by
    simp only [okFrom, Bool.and_eq_true] at h
    by_cases e : j = k
    · subst e; exact h.1
    · exact okFrom_at h.2 j (by omega) (by omega)
theorem okAt_ok {P : Program} {ex : Nat → Bool} {k : Nat} {fn : Func} {c : Code} (h : okAt P ex k = true) (hx : ex k = false) (hf : fI P k = some fn) (hc : fn.body = some c) : okCode P fn.ntmps c = true ∧ (fn.name == "runtime.NumGoroutine") = false := by
  unfold okAt at h
  rw [hx, hf] at h
  simp only [cond_false, hc, Bool.and_eq_true, Bool.not_eq_true'] at h
  exact h
end Go.Proofs.Zz

namespace Go.Proofs.Zz
open Go
/-- What is asked of a loop's code, where some values are not known. -/
abbrev loopI (P : Program) (s : Nat → Value) (h1 : ∀ i, plainV (s i)) (h2 : ∀ i c, s i ≠ .bool c) : LoopOk :=
  ⟨fun N as bd => okCode P N as = true ∧ okCode P N bd = true, s, h1, h2⟩

noncomputable def knNo : Kn := fun _ _ _ _ => none
noncomputable def knOr (k0 : Nat) (f : List V → T O → Nat → R) (kn : Kn) : Kn := fun k args h nx => bif Nat.beq k k0 then some (f args h nx) else kn k args h nx
noncomputable def fNe : List V → T O → Nat → R := fun args h nx => match args with
  | [x] => some (x, h, nx)
  | _ => none
noncomputable def fIb : List V → T O → Nat → R := fun args h nx => match args with
  | [.str s, .int .u8 (.ofNat c)] => bif Nat.blt c 256 then some (idxV (UInt8.ofNat c) s, h, nx) else none
  | _ => none
noncomputable def fMk (el : Nat) : List V → T O → Nat → R := fun args h nx => match args with
  | [.int .i64 (.ofNat n)] => bif Nat.ble n 1000000 then some (.sl nx 0 n 0 true, h.set nx (.grow [] el 1 false (0, 0)), nx + 1) else none
  | _ => none
noncomputable def fTab (tab : List V) (el : Nat) : List V → T O → Nat → R := fun args h nx => match args with
  | [] => some (.ptr nx 0, h.set nx (.cells tab el (0, 0)), nx + 1)
  | _ => none
noncomputable def fBool (b : Bool) : List V → T O → Nat → R := fun args h nx => match args with
  | [] => some (.bool b, h, nx)
  | _ => none

section
variable [LoopOk] {P : Program} {Ib : IM}
structure KnF (P : Program) (Ib : IM) (k : FuncId) (f : List V → T O → Nat → R) : Prop where
  h : ∀ (I : IM), Ib.le I → ∀ (args : List V) (h : T O) (nx : Nat) (v : V) (h' : T O) (nx' : Nat) (σ : Sg) (π : Nat → Nat × Obj) (own : HL) (args' : List Value), f args h nx = some (v, h', nx') →
    Sc σ nx → HR σ h.get π own → denL σ args = some args' → EffT P (callFunc k args'.toArray) I own (Rq σ nx h.get π v h'.get nx')
structure KnOk (P : Program) (Ib : IM) (kn : Kn) : Prop where
  h : ∀ (I : IM), Ib.le I → ∀ (k : FuncId) (args : List V) (h : T O) (nx : Nat) (v : V) (h' : T O) (nx' : Nat) (σ : Sg) (π : Nat → Nat × Obj) (own : HL) (args' : List Value), kn k args h nx = some (some (v, h', nx')) →
    Sc σ nx → HR σ h.get π own → denL σ args = some args' → EffT P (callFunc k args'.toArray) I own (Rq σ nx h.get π v h'.get nx')
theorem KnOk.no : KnOk P Ib knNo := by
  refine ⟨?_⟩
  intro I _ k args h nx v h' nx' σ π own args' hr
  cases hr
theorem KnOk.or {k0 : Nat} {f : List V → T O → Nat → R} {kn : Kn} (h1 : KnF P Ib k0 f) (h2 : KnOk P Ib kn) : KnOk P Ib (knOr k0 f kn) := by
  refine ⟨?_⟩
  intro I hI k args h nx v h' nx' σ π own args' hr
  unfold knOr at hr
  cases e : Nat.beq k k0 with
  | true =>
    rw [e] at hr
    cases Nat.eq_of_beq_eq_true e
    exact h1.h I hI _ _ _ _ _ _ _ _ _ _ (Option.some.inj hr)
  | false =>
    rw [e] at hr
    exact h2.h I hI _ _ _ _ _ _ _ _ _ _ _ hr

theorem KnF.ne {k : FuncId} {fn : Func} (h1 : P.funcs[k]? = some fn) (h2 : (fn.name == "runtime.NumGoroutine") = false) (h3 : fn.body.isNone = true) (h4 : Extern.findNext fn = none) (h5 : Extern.find fn = some Extern.AbiNoEscape.same) : KnF P Ib k fNe := by
  refine ⟨?_⟩
  intro I hI args h nx v h' nx' σ π own args' hr hs hh hd
  unfold fNe at hr
  split at hr
  · cases hr; exact kn_noEscape h1 h2 h3 h4 h5 hs hh hd
  · cases hr
theorem KnF.ib {k : FuncId} {fn : Func} (h1 : P.funcs[k]? = some fn) (h2 : (fn.name == "runtime.NumGoroutine") = false) (h3 : fn.body.isNone = true) (h4 : Extern.findNext fn = none) (h5 : Extern.find fn = some Extern.BytealgIndexByte.indexByte) : KnF P Ib k fIb := by
  refine ⟨?_⟩
  intro I hI args h nx v h' nx' σ π own args' hr hs hh hd
  unfold fIb at hr
  split at hr
  · rename_i s c
    cases hc : Nat.blt c 256 with
    | true =>
      rw [hc] at hr; cases hr
      exact kn_indexByte h1 h2 h3 h4 h5 (bltLt hc) hs hh hd
    | false => rw [hc] at hr; cases hr
  · cases hr
theorem KnF.makeNoZero {k : FuncId} {fn : Func} {t el : TypeId} (h1 : P.funcs[k]? = some fn) (h2 : (fn.name == "runtime.NumGoroutine") = false) (h3 : fn.body.isNone = true) (h4 : Extern.findNext fn = none)
    (h5 : Extern.find fn = some (Extern.BytealgMakeNoZero.makeNoZero fn.params fn.resultTypes)) (ht : fn.resultTypes[0]? = some t) (hu : P.underlying t = some (.slice el)) : KnF P Ib k (fMk el) := by
  refine ⟨?_⟩
  intro I hI args h nx v h' nx' σ π own args' hr hs hh hd
  unfold fMk at hr
  split at hr
  · rename_i n
    cases hc : Nat.ble n 1000000 with
    | true =>
      rw [hc] at hr; cases hr
      rw [T.get_set]
      exact kn_makeNoZero h1 h2 h3 h4 h5 ht hu (Nat.le_of_ble_eq_true hc) hs hh hd
    | false => rw [hc] at hr; cases hr
  · cases hr

/-- Is this a run's answer: the table at a block? -/
noncomputable def isTab (tab : List V) (el : Nat) : R → Bool
  | some (.ptr b o, h, _) => Nat.beq o 0 && (match h.get b with
    | some (.cells l e (z1, z2)) => sameL l tab && Nat.beq e el && Nat.beq z1 0 && Nat.beq z2 0
    | _ => false)
  | _ => false
noncomputable def isB (c : Bool) : R → Bool
  | some (.bool b, _, _) => bif c then b else !b
  | _ => false
theorem isB_true {r : R} (h : isB true r = true) : ∃ h' nx', r = some (.bool true, h', nx') := by
  unfold isB at h
  split at h
  · rename_i b h' nx'
    cases b with
    | true => exact ⟨_, _, rfl⟩
    | false => cases h
  · cases h

theorem isTab_ok {tab : List V} {el : Nat} {r : R} (h : isTab tab el r = true) : ∃ b h' nx', r = some (.ptr b 0, h', nx') ∧ h'.get b = some (.cells tab el (0, 0)) := by
  unfold isTab at h
  split at h
  · rename_i b o h' nx'
    simp only [Bool.and_eq_true] at h
    obtain ⟨h1, h2⟩ := h
    cases Nat.eq_of_beq_eq_true h1
    split at h2
    · rename_i l e z1 z2 hg
      simp only [Bool.and_eq_true] at h2
      obtain ⟨⟨⟨h2, h3⟩, h4⟩, h5⟩ := h2
      cases sameL_ok _ _ h2
      cases Nat.eq_of_beq_eq_true h3
      cases Nat.eq_of_beq_eq_true h4
      cases Nat.eq_of_beq_eq_true h5
      exact ⟨_, _, _, rfl, hg⟩
    · cases h2
  · cases h
theorem KnF.tab {B : Bx} (hB : BxOk P B Ib) {m : Nat} {k : FuncId} {tab : List V} {el : Nat} (hi : intsB tab = true) (hr0 : isTab tab el (callBody P B (ev P B m) k [] .lf 0) = true) : KnF P Ib k (fTab tab el) := by
  refine ⟨?_⟩
  intro I hI args h nx v h' nx' σ π own args' hr hs hh hd
  obtain ⟨b, h0, nx0, hr0, hg⟩ := isTab_ok hr0
  unfold fTab at hr
  split at hr
  · cases hr
    have : args' = [] := by simp only [denL] at hd; exact (Option.some.inj hd).symm
    subst this
    rw [T.get_set]
    exact kn_table hB hr0 hg hi hI hs hh
  · cases hr
theorem KnF.bool {B : Bx} (hB : BxOk P B Ib) {m : Nat} {k : FuncId} (hr0 : isB true (callBody P B (ev P B m) k [] .lf 0) = true) : KnF P Ib k (fBool true) := by
  refine ⟨?_⟩
  intro I hI args h nx v h' nx' σ π own args' hr hs hh hd
  obtain ⟨h0, nx0, hr0⟩ := isB_true hr0
  unfold fBool at hr
  split at hr
  · cases hr
    have : args' = [] := by simp only [denL] at hd; exact (Option.some.inj hd).symm
    subst this
    have hC := call_ok hB m hr0 (σ := fun _ => none) (π := fun _ => (0, default)) (own := []) (args' := []) (fun _ _ => rfl) (HR.empty _ _) rfl hI
    intro w0 w F hst
    refine UpR.mono ?_ ?_ (EffT.call hC w0 w (own ++ F) (by simpa using hst))
    · rintro v w' ⟨I', own', hle, hst', v', σ', π', e, h1, h2, h3, h4, h5⟩
      cases e
      cases (show v = .bool true by simp only [den] at h3; exact (Option.some.inj h3).symm)
      exact ⟨I', own, hle, St.sub hst', _, σ, π, rfl, fun _ _ h => h, hs, rfl, hh, Ext.refl _ _ _ _⟩
    · rintro c w' ⟨I', own', hle, hst', v', σ', π', e, _⟩; cases e
  · cases hr
end
end Go.Proofs.Zz

namespace Go.Proofs.Zz
open Go
open Go.ChangeShapes Go.WideShapes Go.ChangeAt Go.RowKit

/-- What was there is there. -/
structure Keeps (w w' : World) : Prop where
  os : w'.os = w.os
  out : w'.output = w.output
  im : ∀ (k : Nat) (o : Obj), w.heap[k]? = some o → w'.heap[k]? = some o

theorem Keeps.get {w w' : World} (h : Keeps w w') {k : Nat} (hk : k < w.heap.size) : w'.heap[k]? = w.heap[k]? := by
  have : w.heap[k]? = some w.heap[k] := Array.getElem?_eq_getElem hk
  rw [this, h.im _ _ this]

theorem Keeps.kept {w w' : World} (h : Keeps w w') (may : MemPlace → Prop) : w.keptBut w' may := by
  refine ⟨h.os, h.out, fun i hi => ?_⟩
  rw [h.get hi]
  have : w.heap[i]? = some w.heap[i] := Array.getElem?_eq_getElem hi
  rw [this]
  cases w.heap[i] <;> simp

def imOf (W : World) : IM := fun k => W.heap[k]?

theorem calls_of_call {P : Program} {k : FuncId} {args : Array Value} {W : World} {R : Res → IM → HL → Prop} (h : Call P k args (imOf W) [] R) :
    Calls P k args W fun e W' => ∃ x I' H', e = Res.ending x ∧ Keeps W W' ∧ R x I' H' := by
  rw [← callsIn_wide (n := 0)]
  have hst : St W (imOf W) ([] ++ []) W := ⟨rfl, rfl, rfl, fun _ _ h => h, (fun p hp => by cases hp), List.nodup_nil, (fun p hp => by cases hp)⟩
  refine CallsIn.mono (h.2 W W [] hst) ?_
  rintro e w' ⟨x, I', H', rfl, hle, hs, hR⟩
  exact ⟨x, I', H', rfl, ⟨hs.os, hs.out, fun k o hk => hs.im k o (hle k o hk)⟩, hR⟩

section
variable {H : Type} {enc : TypeId × Value → H} {P : Program}

theorem keep_trod (hl : laidOutB P = true) {W W' : World} (hk : Keeps W W') {sp : Nat → Bool} : ∀ {ts : List TypeId} {vs : List Value} {ds : List (DataW H)} {ps : List MemPlace},
    DataW.TrodAll enc P W 0 (fun _ => true) true ts vs ds ps → (ts.all fun t => P.readableRec t && decide (t < P.types.size)) = true → (∀ p ∈ ps, p.block < W.heap.size) → (∀ p ∈ ps, sp p.block = true) → DataW.TrodAll enc P W' 0 sp true ts vs ds ps
  | [], [], [], ps, h, _, _, _ => h
  | t :: ts, v :: vs, d :: ds, ps, h, hr, hlt, hsp => by
    obtain ⟨p, q, h1, h2, rfl⟩ := h
    simp only [List.all_cons, Bool.and_eq_true, decide_eq_true_eq] at hr
    refine ⟨p, q, WideElems.Trod_stays hl hr.1.1 hr.1.2 h1 (fun x hx => ?_) (fun x hx => hsp x (List.mem_append_left _ hx)), keep_trod hl hk h2 hr.2 (fun x hx => hlt x (List.mem_append_right _ hx)) (fun x hx => hsp x (List.mem_append_right _ hx)), rfl⟩
    have hb : Below W.heap.size W { W' with tape := W.tape } := ⟨hk.os, rfl, hk.out, ?_, fun k hk2 => hk.get hk2⟩
    · have := hb.same (hlt x (List.mem_append_left _ hx))
      exact this
    · show W.heap.size ≤ W'.heap.size
      refine Nat.le_of_not_lt fun hlt2 => ?_
      have h0 : W.heap[W'.heap.size]? = some W.heap[W'.heap.size] := Array.getElem?_eq_getElem hlt2
      have := hk.im _ _ h0
      simp at this
  | [], _ :: _, _, _, h, _, _, _ => h.elim
  | [], [], _ :: _, _, h, _, _, _ => h.elim
  | _ :: _, [], _, _, h, _, _, _ => h.elim
  | _ :: _, _ :: _, [], _, h, _, _, _ => h.elim

/-- A law that returns true, and leaves all as it was. -/
theorem law_post (hl : laidOutB P = true) {f : Func} {s : ChangeSpec} {W W' : World} {args : Array Value} {ds gs : List (DataW H)} {before : List MemPlace} {tb : TypeId}
    (hres : f.resultTypes = #[tb]) (htb : P.underlying tb = some .bool) (hv : s.vars = []) (hro : (f.params.toList.all fun t => P.readableRec t && decide (t < P.types.size)) = true)
    (hs : (s.fn H (ds ++ gs)).results = [.lit (.bool true)] ∧ (s.fn H (ds ++ gs)).args = ds ∧ (s.fn H (ds ++ gs)).vars = [])
    (hW : DataW.Whole enc P f.params.toList s.vars false W args.toList ds gs before) (hk : Keeps W W') : s.post enc P f false true false false W args (.bool true) W' := by
  have hW' := hW
  obtain ⟨p, q, hA, hV, rfl, hfz, hnd⟩ := hW
  rw [hv] at hV
  obtain ⟨rfl, rfl⟩ := trodVars_none hV
  have hlt : ∀ x ∈ p ++ [], x.block < W.heap.size := fun x hx => by simpa using hW'.lt x hx
  refine ⟨ds, [], p ++ [], [], p, [], hW', ?_, ?_, ?_, hk.kept _, fun h => by cases h⟩
  · rw [hs.1, hres]
    refine ⟨[], [], ?_, rfl, rfl⟩
    exact ⟨1, by simp [DataW.trod, htb, Value.cells]⟩
  · rw [hs.2.1]
    exact keep_trod hl hk hA hro (fun x hx => hlt x (by simpa using hx)) (fun x hx => by simpa using hlt x (by simpa using hx))
  · rw [hv, hs.2.2]; exact rfl
end

theorem laid_at {P : Program} {w : World} : ∀ {laid : List (String × DataW Unit)} {ps : List MemPlace}, DataW.LaidVars P w laid ps → ∀ n d, (n, d) ∈ laid →
    ∃ g t cs fuel p, P.globalNamed n = some g ∧ (P.globals[g]?).map (·.type) = some t ∧ w.var? P n = some cs ∧ DataW.trod (fun _ => ()) P w 0 (fun _ => true) false fuel t cs.toList = some (d, p)
  | [], _, _, n, d, h => by cases h
  | (n0, d0) :: r, ps, h, n, d, hm => by
    obtain ⟨g, t, cs, fuel, p, q, h1, h2, h3, h4, h5, -⟩ := h
    rcases List.mem_cons.1 hm with e | hm
    · cases e; exact ⟨g, t, cs, fuel, p, h1, h2, h3, h4⟩
    · exact laid_at h5 n d hm

theorem var_block {P : Program} {w : World} {n : String} {g : Nat} {cs : Array Value} (hg : P.globalNamed n = some g) (h : w.var? P n = some cs) : ∃ e fr, w.heap[g]? = some (.cells cs e fr) := by
  simp only [World.var?, hg, Option.bind_some] at h
  split at h
  · rename_i c e fr hb; cases h; exact ⟨e, fr, hb⟩
  · cases h

/-- A table of whole numbers. -/
theorem laid_ints {P : Program} {w : World} {laid : List (String × DataW Unit)} (h : laidMet P laid w) {n : String} {g t e : Nat} {k : IntKind} {zs : List Int} (hm : (n, .agg (zs.map fun z => .lit (.int k z))) ∈ laid) (hg : P.globalNamed n = some g)
    (ht : (P.globals[g]?).map (·.type) = some t) (hu : P.underlying t = some (.array zs.length e)) (he : P.underlying e = some (.int k)) (hc : P.cellsOf e = 1) (hct : P.cellsOf t = zs.length) :
    ∃ el fr, w.heap[g]? = some (.cells (zs.map fun z => Value.int k z).toArray el fr) := by
  obtain ⟨ps, hl, -⟩ := h
  obtain ⟨g', t', cs, fuel, p, h1, h2, h3, h4⟩ := laid_at hl _ _ hm
  rw [hg] at h1; cases h1
  rw [ht] at h2; cases h2
  obtain ⟨el, fr, hb⟩ := var_block hg h3
  obtain ⟨xs, m, -, ex, hlen, hxl, hel⟩ := DataW.trod_array hu h4
  refine ⟨el, fr, ?_⟩
  rw [hb]
  congr 2
  apply Array.ext'
  simp only
  apply List.ext_getElem?
  intro i
  have hx1 : xs.map (·.1) = zs.map fun z => (DataW.lit (.int k z) : DataW Unit) := by
    have := congrArg Prod.fst ex
    simp only at this
    exact (DataW.agg.inj this).symm
  by_cases hi : i < zs.length
  · have hE := hel i hi
    rw [hc, Nat.mul_one, List.getElem?_eq_getElem (by omega)] at hE
    obtain ⟨z, e1, e2, -⟩ := DataW.trod_int he hE
    have hz := congrArg (·[i]?) hx1
    simp only [List.getElem?_map, List.getElem?_eq_getElem (show i < xs.length by omega), List.getElem?_eq_getElem hi, Option.map_some, e2, Option.some.injEq, DataW.lit.injEq, Lit.int.injEq, true_and] at hz
    have h0 : ((cs.toList.drop i).take 1)[0]? = some (.int k z) := by rw [e1]; rfl
    simp only [List.getElem?_take, List.getElem?_drop, Nat.lt_one_iff, if_true, Nat.add_zero] at h0
    rw [h0, List.getElem?_map, List.getElem?_eq_getElem hi, hz]
    rfl
  · rw [List.getElem?_eq_none (by rw [hlen, hct]; omega), List.getElem?_eq_none (by simp; omega)]
end Go.Proofs.Zz

namespace Go.Proofs.Zz
open Go
open Go.ChangeShapes Go.WideShapes Go.ChangeAt Go.RowKit

noncomputable def noC : BinOp → V → V → Option V := fun _ _ _ => none
noncomputable def noL : Nat → Option V := fun _ => none
theorem noOr (L : LoopOk) {P : Program} {gl : Nat → Option (List V)} (cF : Fn → List V → List V → T O → Nat → R) : OrOk P ⟨P, gl, noC, noL, cF⟩ :=
  ⟨fun _ _ _ _ h => (by cases h), fun _ _ h => (by cases h)⟩

/-- What a program's texts give, whatever is not known. -/
structure Site (P : Program) (alt : FuncId → Option Code) (okf : FuncId → Bool) (kn0 : Kn) : Prop where
  ok : ∀ (k : FuncId) (fn : Func) (c : Code), fI P k = some fn → okf k = true → alt k = none → fn.body = some c → okCode P fn.ntmps c = true ∧ (fn.name == "runtime.NumGoroutine") = false
  alt : ∀ (L : LoopOk) (gl : Nat → Option (List V)) (orc : BinOp → V → V → Option V) (orl : Nat → Option V) (kn : Kn) (Ib : IM) (m : Nat), (∀ j, j ≤ m → EvGood P Ib (ev P ⟨gl, orc, orl, kn, alt, okf⟩ j)) → AltGood P ⟨gl, orc, orl, kn, alt, okf⟩ Ib (ev P ⟨gl, orc, orl, kn, alt, okf⟩ m)
  kn : ∀ (L : LoopOk) (Ib : IM), KnOk P Ib kn0
  mixed : P.follows .mixedOrders = true

theorem Site.bx {P : Program} {alt : FuncId → Option Code} {okf : FuncId → Bool} {kn0 : Kn} (S : Site P alt okf kn0) {s : Nat → Value} {h1 : ∀ i, plainV (s i)} {h2 : ∀ i c, s i ≠ .bool c}
    {gl : Nat → Option (List V)} {orc : BinOp → V → V → Option V} {orl : Nat → Option V} {kn : Kn} {Ib : IM}
    (hgl : @GLok (loopI P s h1 h2) gl Ib) (horc : ∀ cF, @OrOk (loopI P s h1 h2) P ⟨P, gl, orc, orl, cF⟩) (hkn : @KnOk (loopI P s h1 h2) P Ib kn) : @BxOk (loopI P s h1 h2) P ⟨gl, orc, orl, kn, alt, okf⟩ Ib :=
  @BxOk.mk (loopI P s h1 h2) P ⟨gl, orc, orl, kn, alt, okf⟩ Ib hgl horc (@KnOk.h (loopI P s h1 h2) P Ib kn hkn) S.ok (fun m h => S.alt (loopI P s h1 h2) gl orc orl kn Ib m h) S.mixed (fun N as bd => Iff.rfl)

/-- A law whose run, over what is not known, answers true. -/
theorem Site.law {P : Program} {alt : FuncId → Option Code} {okf : FuncId → Bool} {kn0 : Kn} (S : Site P alt okf kn0) {s : Nat → Value} (h1 : ∀ i, plainV (s i)) (h2 : ∀ i c, s i ≠ .bool c)
    {gl : Nat → Option (List V)} {orc : BinOp → V → V → Option V} {orl : Nat → Option V} {W : World} {tab : List V} {el row aw k nr na m : Nat} {args : List V} {args' : List Value}
    (hgl : @GLok (loopI P s h1 h2) gl (imOf W)) (horc : ∀ cF, @OrOk (loopI P s h1 h2) P ⟨P, gl, orc, orl, cF⟩) (hi : intsB tab = true)
    (hrow : isTab tab el (callBody P ⟨gl, noC, noL, kn0, alt, okf⟩ (ev P ⟨gl, noC, noL, kn0, alt, okf⟩ nr) row [] .lf 0) = true)
    (haw : isB true (callBody P ⟨gl, noC, noL, knOr row (fTab tab el) kn0, alt, okf⟩ (ev P ⟨gl, noC, noL, knOr row (fTab tab el) kn0, alt, okf⟩ na) aw [] .lf 0) = true)
    (hm : isB true (callBody P ⟨gl, orc, orl, knOr aw (fBool true) (knOr row (fTab tab el) kn0), alt, okf⟩ (ev P ⟨gl, orc, orl, knOr aw (fBool true) (knOr row (fTab tab el) kn0), alt, okf⟩ m) k args .lf 0) = true)
    (hd : @denL (loopI P s h1 h2) (fun _ => none) args = some args') :
    Calls P k args'.toArray W fun e W' => e = .returned (.bool true) ∧ Keeps W W' := by
  letI L := loopI P s h1 h2
  have k0 : KnOk P (imOf W) kn0 := S.kn L _
  have b0 : BxOk P ⟨gl, noC, noL, kn0, alt, okf⟩ (imOf W) := S.bx hgl (noOr L) k0
  have k1 : KnOk P (imOf W) (knOr row (fTab tab el) kn0) := KnOk.or (KnF.tab b0 hi hrow) k0
  have b1 : BxOk P ⟨gl, noC, noL, knOr row (fTab tab el) kn0, alt, okf⟩ (imOf W) := S.bx hgl (noOr L) k1
  have k2 : KnOk P (imOf W) (knOr aw (fBool true) (knOr row (fTab tab el) kn0)) := KnOk.or (KnF.bool b1 haw) k1
  have b2 := S.bx hgl horc k2
  obtain ⟨h', nx', hr⟩ := isB_true hm
  have hC := call_ok b2 m hr (σ := fun _ => none) (π := fun _ => (0, default)) (own := []) (args' := args') (I := imOf W) (fun _ _ => rfl) (HR.empty _ _) hd (fun _ _ h => h)
  refine (calls_of_call hC).mono ?_
  rintro e W' ⟨x, I', H', rfl, hk, v', σ', π', e1, q1, q2, q3, q4, q5⟩
  subst e1
  refine ⟨?_, hk⟩
  have : v' = .bool true := by simp only [den] at q3; exact (Option.some.inj q3).symm
  subst this
  rfl
end Go.Proofs.Zz

namespace Go.Proofs.Zz
open Go

noncomputable def symS (l : List Value) : Nat → Value := fun i => match l[i]? with
  | some v => v
  | none => .nilIface
theorem symS_plain {l : List Value} (h : ∀ v ∈ l, plainV v) (i : Nat) : plainV (symS l i) := by
  unfold symS
  split
  · rename_i v hv; exact h v (List.mem_of_getElem? hv)
  · trivial
theorem symS_nobool {l : List Value} (h : ∀ v ∈ l, ∀ c, v ≠ .bool c) (i : Nat) (c : Bool) : symS l i ≠ .bool c := by
  unfold symS
  split
  · rename_i v hv; exact h v (List.mem_of_getElem? hv) c
  · exact fun h => by cases h

/-- What is said of two lengths (6, 7) and of their sum (8): 1: the one is great; 2: the other; 3: the sum; 0: none. -/
noncomputable def orcB (c : Nat) : BinOp → V → V → Option V := fun op x y => match op, x, y with
  | .gtr, .sym i, .int .i64 (.ofNat m) => bif Nat.beq m 30000 then (bif Nat.beq i 6 then some (.bool (Nat.beq c 1)) else bif Nat.beq c 1 then none else bif Nat.beq i 7 then some (.bool (Nat.beq c 2)) else bif Nat.beq c 2 then none else bif Nat.beq i 8 then some (.bool (Nat.beq c 3)) else none) else none
  | .add, .int .i64 (.ofNat m), .sym i => bif Nat.beq c 1 || Nat.beq c 2 then none else bif Nat.beq m 0 && Nat.beq i 6 then some (.sym 6) else none
  | .add, .sym i, .sym j => bif Nat.beq c 1 || Nat.beq c 2 then none else bif Nat.beq i 6 && Nat.beq j 7 then some (.sym 8) else none
  | _, _, _ => none
noncomputable def orlB : Nat → Option V := fun i => bif Nat.beq i 2 then some (.sym 6) else bif Nat.beq i 3 then some (.sym 7) else none

structure OrcFit (s : Nat → Value) (c d k : Nat) : Prop where
  s2 : ∃ a n, s 2 = .slice a d n
  s3 : ∃ a n, s 3 = .slice a k n
  s6 : s 6 = .int .i64 d
  s7 : s 7 = .int .i64 k
  s8 : s 8 = .int .i64 (d + k : Nat)
  c1 : Nat.beq c 1 = decide (d > 30000)
  c2 : Nat.beq c 1 = false → Nat.beq c 2 = decide (k > 30000)
  c3 : Nat.beq c 1 = false → Nat.beq c 2 = false → Nat.beq c 3 = decide (d + k > 30000)

theorem run_gtr {P : Program} {t : TypeId} {k : IntKind} {a b : Int} (w : World) : (binOp .gtr t (.int k a) (.int k b)).run P w = .ok (.bool (decide (a > b))) w := by
  simp [binOp, Op.intCmp, pure, Sem.run]
theorem run_add {P : Program} {t : TypeId} {k : IntKind} {a b : Int} (w : World) : (binOp .add t (.int k a) (.int k b)).run P w = .ok (.int k (k.wrap (a + b))) w := by
  simp [binOp, Op.intArith, pure, Sem.run]
theorem dec30 (n : Nat) : decide ((n : Int) > ((30000 : Nat) : Int)) = decide (n > 30000) := decide_eq_decide.2 (by omega)
theorem wrap64 {a b : Nat} (h : a + b ≤ 1000000) : IntKind.i64.wrap ((a : Int) + (b : Int)) = ((a + b : Nat) : Int) := by
  have := arA (a := (a : Int)) (b := (b : Int)) (c := ((a + b : Nat) : Int)) (by omega) (by omega) (by omega)
  simp only [arith, Option.some.injEq] at this
  exact this

theorem orB_ok {P Q : Program} {s : Nat → Value} {h1 : ∀ i, plainV (s i)} {h2 : ∀ i c, s i ≠ .bool c} {c d k : Nat} (hf : OrcFit s c d k) {gl : Nat → Option (List V)} (cF : Fn → List V → List V → T O → Nat → R) :
    @OrOk (loopI Q s h1 h2) P ⟨P, gl, orcB c, orlB, cF⟩ := by
  letI L := loopI Q s h1 h2
  have hsy : ∀ (σ : Sg) i y, den σ (.sym i) = some y → y = s i := fun σ i y h => by
    simp only [den] at h
    exact (Option.some.inj h).symm
  refine @OrOk.mk L _ _ ?_ ?_
  · intro op x y v hv σ x' y' hx hy
    change orcB c op x y = some v at hv
    unfold orcB at hv
    split at hv
    · rename_i i m
      have ey := den_int hy
      have ex := hsy _ _ _ hx
      cases em : Nat.beq m 30000 with
      | false => rw [em] at hv; cases hv
      | true =>
        cases Nat.eq_of_beq_eq_true em
        rw [em] at hv
        simp only [cond_true] at hv
        cases e6 : Nat.beq i 6 with
        | true =>
          cases Nat.eq_of_beq_eq_true e6
          rw [e6] at hv
          simp only [cond_true, Option.some.injEq] at hv
          subst hv
          refine ⟨.i64, d, .i64, (30000 : Nat), .bool (Nat.beq c 1), by rw [ex, hf.s6], ey, rfl, fun t w => ?_⟩
          rw [run_gtr, hf.c1]
          rw [dec30]
        | false =>
          rw [e6] at hv
          simp only [cond_false] at hv
          cases hc1 : Nat.beq c 1 with
          | true => rw [hc1] at hv; cases hv
          | false =>
            rw [hc1] at hv
            simp only [cond_false] at hv
            cases e7 : Nat.beq i 7 with
            | true =>
              cases Nat.eq_of_beq_eq_true e7
              rw [e7] at hv
              simp only [cond_true, Option.some.injEq] at hv
              subst hv
              refine ⟨.i64, k, .i64, (30000 : Nat), .bool (Nat.beq c 2), by rw [ex, hf.s7], ey, rfl, fun t w => ?_⟩
              rw [run_gtr, hf.c2 hc1]
              rw [dec30]
            | false =>
              rw [e7] at hv
              simp only [cond_false] at hv
              cases hc2 : Nat.beq c 2 with
              | true => rw [hc2] at hv; cases hv
              | false =>
                rw [hc2] at hv
                simp only [cond_false] at hv
                cases e8 : Nat.beq i 8 with
                | true =>
                  cases Nat.eq_of_beq_eq_true e8
                  rw [e8] at hv
                  simp only [cond_true, Option.some.injEq] at hv
                  subst hv
                  refine ⟨.i64, (d + k : Nat), .i64, (30000 : Nat), .bool (Nat.beq c 3), by rw [ex, hf.s8], ey, rfl, fun t w => ?_⟩
                  rw [run_gtr, hf.c3 hc1 hc2]
                  rw [dec30]
                | false => rw [e8] at hv; cases hv
    · rename_i m i
      have ex := den_int hx
      have ey := hsy _ _ _ hy
      cases hc1 : Nat.beq c 1 with
      | true => rw [hc1] at hv; cases hv
      | false =>
        cases hc2 : Nat.beq c 2 with
        | true => rw [hc1, hc2] at hv; cases hv
        | false =>
          have q1 := hf.c1.symm.trans hc1
          simp only [decide_eq_false_iff_not] at q1
          rw [hc1, hc2] at hv
          simp only [Bool.or_false, cond_false] at hv
          cases e6 : (Nat.beq m 0 && Nat.beq i 6) with
          | false => rw [e6] at hv; cases hv
          | true =>
            rw [e6] at hv
            simp only [cond_true, Option.some.injEq] at hv
            subst hv
            simp only [Bool.and_eq_true] at e6
            cases Nat.eq_of_beq_eq_true e6.1
            cases Nat.eq_of_beq_eq_true e6.2
            refine ⟨.i64, (0 : Nat), .i64, d, .int .i64 d, ex, by rw [ey, hf.s6], by rw [den]; exact congrArg some hf.s6, fun t w => ?_⟩
            rw [run_add, wrap64 (by omega), Nat.zero_add]
    · rename_i i j
      have ex := hsy _ _ _ hx
      have ey := hsy _ _ _ hy
      cases hc1 : Nat.beq c 1 with
      | true => rw [hc1] at hv; cases hv
      | false =>
        cases hc2 : Nat.beq c 2 with
        | true => rw [hc1, hc2] at hv; cases hv
        | false =>
          have q1 := hf.c1.symm.trans hc1
          have q2 := (hf.c2 hc1).symm.trans hc2
          simp only [decide_eq_false_iff_not] at q1 q2
          rw [hc1, hc2] at hv
          simp only [Bool.or_false, cond_false] at hv
          cases e6 : (Nat.beq i 6 && Nat.beq j 7) with
          | false => rw [e6] at hv; cases hv
          | true =>
            rw [e6] at hv
            simp only [cond_true, Option.some.injEq] at hv
            subst hv
            simp only [Bool.and_eq_true] at e6
            cases Nat.eq_of_beq_eq_true e6.1
            cases Nat.eq_of_beq_eq_true e6.2
            refine ⟨.i64, d, .i64, k, .int .i64 (d + k : Nat), by rw [ex, hf.s6], by rw [ey, hf.s7], by rw [den]; exact congrArg some hf.s8, fun t w => ?_⟩
            rw [run_add, wrap64 (by omega)]
    · cases hv
  · intro i v hv
    change orlB i = some v at hv
    unfold orlB at hv
    cases e2 : Nat.beq i 2 with
    | true =>
      cases Nat.eq_of_beq_eq_true e2
      obtain ⟨a, n, h⟩ := hf.s2
      cases hv
      exact ⟨a, d, n, h, fun σ => by rw [den]; exact congrArg some hf.s6⟩
    | false =>
      rw [e2] at hv
      cases e3 : Nat.beq i 3 with
      | true =>
        cases Nat.eq_of_beq_eq_true e3
        obtain ⟨a, n, h⟩ := hf.s3
        cases hv
        exact ⟨a, k, n, h, fun σ => by rw [den]; exact congrArg some hf.s7⟩
      | false => rw [e3] at hv; cases hv
end Go.Proofs.Zz

namespace Go.Proofs.Zz
open Go
open Go.ChangeShapes Go.WideShapes Go.ChangeAt Go.RowKit

theorem open_cells {P : Program} {w : World} {r : Reach} {base : Nat} {t : TypeId} {v : Value} {fs : Array Field} {ts : List TypeId} (hu : P.underlying t = some (.struct fs)) (hts : P.cellTypes P.depth t = some ts) (hc : P.cellsOf t = ts.length) (hval : Value.okWide P w r base t v) :
    ∃ cs : List Value, v = .agg cs.toArray ∧ cs.length = ts.length ∧ ∀ (i : Nat) (x : Value) (u : TypeId), cs[i]? = some x → ts[i]? = some u → Cell.okWide P w r base u x := by
  unfold Value.okWide at hval
  rw [hu] at hval
  obtain ⟨cs, rfl, h1, ts', h2, -, h3⟩ := hval
  rw [hts] at h2
  cases h2
  refine ⟨cs.toList, rfl, by rw [Array.length_toList, h1, hc], fun i x u hx hu2 => ?_⟩
  have hi : i < ts.length := by
    rw [List.getElem?_eq_some_iff] at hu2
    exact hu2.1
  obtain ⟨u', q1, q2⟩ := h3 i x (by simpa using hx)
  rw [Nat.mod_eq_of_lt hi, hu2] at q1
  cases q1
  exact q2

theorem cell_int {P : Program} {w : World} {r : Reach} {base : Nat} {u : TypeId} {v : Value} {k : IntKind} (hu : P.underlying u = some (.int k)) (h : Cell.okWide P w r base u v) : ∃ n, v = .int k n := by
  unfold Cell.okWide at h
  rw [hu] at h
  unfold Cell.ok at h
  rw [hu] at h
  cases v <;> simp at h
  exact ⟨_, by rw [h.1]⟩

theorem cell_slice {P : Program} {w : World} {r : Reach} {base : Nat} {u : TypeId} {v : Value} {e : TypeId} (hu : P.underlying u = some (.slice e)) (h : Cell.okWide P w r base u v) : ∃ a n c, v = .slice a n c := by
  unfold Cell.okWide at h
  rw [hu] at h
  unfold Cell.ok at h
  rw [hu] at h
  cases v <;> simp at h
  exact ⟨_, _, _, rfl⟩

theorem len5 {l : List Value} (h : l.length = 5) : ∃ x0 x1 x2 x3 x4, l = [x0, x1, x2, x3, x4] := by
  match l, h with
  | [x0, x1, x2, x3, x4], _ => exact ⟨x0, x1, x2, x3, x4, rfl⟩
theorem len6 {l : List Value} (h : l.length = 6) : ∃ x0 x1 x2 x3 x4 x5, l = [x0, x1, x2, x3, x4, x5] := by
  match l, h with
  | [x0, x1, x2, x3, x4, x5], _ => exact ⟨x0, x1, x2, x3, x4, x5, rfl⟩
/-- A number or a slice. -/
def isNS : Value → Bool
  | .int _ _ => true
  | .slice _ _ _ => true
  | _ => false
theorem isNS_plain {l : List Value} (h : l.all isNS = true) : ∀ v ∈ l, plainV v := fun v hv => by
  have := List.all_eq_true.1 h v hv
  cases v <;> first | trivial | cases this
theorem isNS_nobool {l : List Value} (h : l.all isNS = true) : ∀ v ∈ l, ∀ c, v ≠ .bool c := fun v hv c e => by
  have := List.all_eq_true.1 h v hv
  subst e; cases this
end Go.Proofs.Zz
