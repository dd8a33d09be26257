import Derived.Test.YtjmamidgbollgaaGreatDoorZzBase
set_option linter.all false
set_option linter.unusedVariables false
set_option linter.unusedSimpArgs false
namespace Go.Proofs.Zz
open Go

/-! ### Building structs and slices -/
def fillL (place : Nat → Option (Nat × Nat)) (cells : Array Value) : List (Nat × Value) → Option (Array Value)
  | [] => some cells
  | (i, v) :: rest => match place i with
    | none => none
    | some (off, size) => bif Nat.beq v.cells.size size && Nat.ble (off + size) cells.size then fillL place (putC cells off v.cells.toList) rest else none

theorem foldl_put (vs : List Value) : ∀ (cs : Array Value) (off k : Nat), off + k + vs.length ≤ cs.size → ((vs.zipIdx k).foldl (fun cs (c, j) => cs.setIfInBounds (off + j) c) cs) = putC cs (off + k) vs := by
  induction vs with
  | nil => intro cs off k _; simp [putC]
  | cons v vs ih =>
    intro cs off k h
    simp only [List.length_cons] at h
    simp only [List.zipIdx_cons, List.foldl_cons]
    rw [ih _ off (k + 1) (by simp; omega), putC_shift cs (off + k) v vs (by omega), Nat.add_assoc]

theorem fill_eq (place : Nat → Option (Nat × Nat)) : ∀ (parts : List (Nat × Value)) (cells arr : Array Value), fillL place cells parts = some arr → Instr.fill place cells parts = some arr := by
  intro parts
  induction parts with
  | nil => intro cells arr h; exact h
  | cons p parts ih =>
    obtain ⟨i, v⟩ := p
    intro cells arr h
    unfold fillL at h
    unfold Instr.fill
    cases hp : place i with
    | none => simp [hp] at h
    | some q =>
      obtain ⟨off, size⟩ := q
      simp only [hp] at h ⊢
      cases hb : (Nat.beq v.cells.size size && Nat.ble (off + size) cells.size) with
      | false => rw [hb] at h; cases h
      | true =>
        rw [hb] at h
        simp only [Bool.and_eq_true] at hb
        have h1 := Nat.eq_of_beq_eq_true hb.1
        have h2 := Nat.le_of_ble_eq_true hb.2
        have h3 : ¬ (v.cells.size ≠ size || decide (off + v.cells.size > cells.size)) = true := by
          simp [h1]; omega
        rw [if_neg h3]
        have e := foldl_put v.cells.toList cells off 0 (by simp; omega)
        simp only [Nat.add_zero] at e
        have e2 : (v.cells.zipIdx.foldl (fun cs x => cs.setIfInBounds (off + x.2) x.1) cells) = putC cells off v.cells.toList := by
          rw [← e, ← Array.foldl_toList]
          congr 1
          simp
        rw [← ih _ _ h, ← e2]

/-- A struct's places, and its zero. -/
def stP (P : Program) (t : TypeId) : Option (List (Nat × Nat) × Value) := match P.underlying t, tyZ P t with
  | some (.struct fs), some z => match fs.toList.mapM (fun f => (P.info? f.type).map fun i => (f.offset, i.size)) with
    | some l => some (l, z)
    | none => none
  | _, _ => none
class StT (P : Program) (t : TypeId) (places : outParam (List (Nat × Nat))) (z : outParam Value) : Prop where h : stP P t = some (places, z)

theorem run_mapM_places {P : Program} {w : World} : ∀ (fs : List Field) (l : List (Nat × Nat)), fs.mapM (fun f => (P.info? f.type).map fun i => (f.offset, i.size)) = some l →
    (fs.mapM (fun f => do pure (f.offset, ← sizeOf f.type)) : Sem (List (Nat × Nat))).run P w = .ok l w := by
  intro fs
  induction fs with
  | nil => intro l h; simp at h; subst h; rfl
  | cons f fs ih =>
    intro l h
    simp only [List.mapM_cons, Option.bind_eq_bind, Option.bind_eq_some_iff, Option.map_eq_some_iff, Option.pure_def, Option.some.injEq] at h
    obtain ⟨x, ⟨i, hi, rfl⟩, l', hl', rfl⟩ := h
    rw [List.mapM_cons, run_bind_ok (a := (f.offset, i.size)) (w' := w) (by rw [run_bind_ok (run_sizeOf hi)]; rfl), run_bind_ok (ih l' hl')]
    rfl

theorem run_build {P : Program} {t : TypeId} {places : List (Nat × Nat)} {z : Value} (ht : StT P t places z) {parts : Array (Nat × Value)} {arr : Array Value} (h : fillL (places[·]?) z.cells parts.toList = some arr) (w : World) :
    (Instr.build t parts).run P w = .ok (.agg arr) w := by
  have hs := ht.h
  unfold stP at hs
  split at hs
  · rename_i fs z' h1 h2
    split at hs
    · rename_i l hl
      cases hs
      have ⟨i, hi, hz⟩ := TyZ.get ⟨h2⟩
      unfold Instr.build zeroValue
      rw [run_bind_ok (a := z) (w' := w) (by rw [run_bind_ok (run_info hi), hz]; rfl), run_bind_ok (run_und h1)]
      simp only
      have hm : (fs.mapM fun f => do pure (f.offset, ← sizeOf f.type) : Sem (Array (Nat × Nat))).run P w = .ok places.toArray w := by
        rw [Array.mapM_eq_mapM_toList]
        show ((List.mapM _ fs.toList) >>= fun x => Pure.pure x.toArray : Sem (Array (Nat × Nat))).run P w = _
        rw [run_bind_ok (run_mapM_places _ _ hl)]
        rfl
      rw [run_bind_ok hm]
      have hf : Instr.fill (fun x => places.toArray[x]?) z.cells parts.toList = some arr := by
        have := fill_eq _ _ _ _ h
        simpa using this
      simp only [hf]
      rfl
    · cases hs
  · cases hs

/-- A slice literal's cells. -/
def bsL (sz : Nat) (z : Value) (len : Nat) (parts : List (Nat × Value)) : Option (Array Value) := fillL (fun i => some (i * sz, sz)) ((List.replicate len z.cells.toList).flatten).toArray parts

theorem range_rep (z : Array Value) (len : Nat) (h : len * z.size ≠ 0) : (Array.range (len * z.size)).map (z[· % z.size]!) = ((List.replicate len z.toList).flatten).toArray := by
  apply Array.ext'
  have hz : 0 < z.size := Nat.pos_of_ne_zero fun e => h (by simp [e])
  simp only [Array.toList_map, Array.toList_range]
  induction len with
  | zero => simp
  | succ len ih =>
    by_cases h0 : len * z.size = 0
    · have : len = 0 := by
        rcases Nat.mul_eq_zero.1 h0 with h | h
        · exact h
        · omega
      subst this
      simp
      apply List.ext_getElem?
      intro k
      by_cases hk : k < z.size
      · simp [List.getElem?_range, hk, Nat.mod_eq_of_lt hk]
      · simp [hk]
    · rw [List.replicate_succ', List.flatten_append, ← ih h0, Nat.succ_mul, List.range_add, List.map_append]
      congr 1
      simp
      apply List.ext_getElem?
      intro k
      by_cases hk : k < z.size
      · simp [List.getElem?_range, hk, Nat.mod_eq_of_lt hk, Nat.mul_add_mod_self_right]
      · simp [hk]

theorem run_buildSlice {P : Program} {t e : TypeId} {sz by' : Nat} {z : Value} (ht : SlT P t e sz by') (hz : TyZ P e z) (hzs : z.cells.size = sz) {len : Nat} {parts : Array (Nat × Value)} {arr : Array Value} (hlen : Nat.ble (len * sz) 16777216 = true)
    (h : bsL sz z len parts.toList = some arr) (w : World) : (Instr.buildSlice t len parts).run P w = .ok (.slice (some ⟨w.heap.size, 0, none⟩) len len) { w with heap := w.heap.push (.cells arr e (0, 0)) } := by
  obtain ⟨i, h1, h2, h3, h4⟩ := ht.get
  obtain ⟨i', h2', h5⟩ := hz.get
  have hl := Nat.le_of_ble_eq_true hlen
  unfold Instr.buildSlice
  rw [run_bind_ok (run_und h1)]
  simp only
  rw [run_bind_ok (run_sizeOf h2), h3]
  have hn : ¬ len * sz > 2 ^ 24 := by
    have : (2 : Nat) ^ 24 = 16777216 := by decide
    omega
  rw [if_neg hn]
  have fin : ∀ zc : Array Value, (Array.range (len * sz)).map (zc[· % zc.size]!) = ((List.replicate len z.cells.toList).flatten).toArray →
      Instr.fill (fun i => some (i * sz, sz)) ((Array.range (len * sz)).map (zc[· % zc.size]!)) parts.toList = some arr := by
    intro zc hzc
    rw [hzc, fill_eq _ _ _ _ h]
  by_cases h0 : len * sz = 0
  · have hf := fin #[] (by
      rw [h0]
      rcases Nat.mul_eq_zero.1 h0 with h | h
      · subst h; simp
      · rw [h] at hzs
        have : z.cells = #[] := Array.eq_empty_of_size_eq_zero hzs
        rw [this]; simp)
    rw [h0] at hf
    simp only [h0, if_true]
    rw [run_bind_ok (run_pure _)]
    simp only [hf]
    rfl
  · have hf := fin z.cells (by rw [← hzs]; exact range_rep _ _ (by rw [hzs]; exact h0))
    simp only [h0, if_false]
    rw [run_bind_ok (a := z) (w' := w) (by unfold zeroValue; rw [run_bind_ok (run_info h2'), h5]; rfl), run_bind_ok (run_pure _)]
    simp only [hf]
    rfl

section rules
variable {P : Program} {ops : Array Oper} {bs : List Nat} {ord : Nat → Nat → Bool} {K : Env → IM → HL → Prop} {PK : List PanicEntry → IM → HL → Prop}
  {Rl : List (Nat × (Nat × Obj))} {i : Nat} {is : List Nat} {ρ : Env} {I : IM} {H : HL} {dd : Option Nat} {ty : TypeId} {pos : String} {af : Array Edge} {g : Option (Nat × Bool)}

theorem map_toList (parts : Array (Nat × Operand)) : (parts.map fun x => (x.1, evE ρ x.2)).toList = parts.toList.map fun x => (x.1, evE ρ x.2) := by simp

theorem DX.bd {t : TypeId} {parts : Array (Nat × Operand)} {places : List (Nat × Nat)} {z : Value} {arr : Array Value} (ho : ops[i]? = some ⟨dd, .build t parts, ty, pos, af, g⟩) (hw : wantedE ops ρ ⟨dd, .build t parts, ty, pos, af, g⟩ = true)
    [ht : StT P t places z] (ha : fillL (places[·]?) z.cells (parts.toList.map fun x => (x.1, evE ρ x.2)) = some arr)
    (h : DX P ops bs ord K PK Rl is (updE ρ dd (.agg arr)) I H) : DX P ops bs ord K PK Rl (i :: is) ρ I H := by
  refine .pure ho hw Nat.zero_ne_one ?_ h
  simp only [execOp]
  exact PureT.of fun w => run_build ht (by rw [map_toList]; exact ha) w

theorem DX.bS {t e : TypeId} {sz by' : Nat} {z : Value} {len : Nat} {parts : Array (Nat × Operand)} {arr : Array Value} (ho : ops[i]? = some ⟨dd, .buildSlice t len parts, ty, pos, af, g⟩) (hw : wantedE ops ρ ⟨dd, .buildSlice t len parts, ty, pos, af, g⟩ = true)
    [ht : SlT P t e sz by'] [hz : TyZ P e z] (hzs : z.cells.size = sz) (hlen : Nat.ble (len * sz) 16777216 = true) (ha : bsL sz z len (parts.toList.map fun x => (x.1, evE ρ x.2)) = some arr)
    (h : ∀ b, DX P ops bs ord K PK Rl is (updE ρ dd (.slice (some ⟨b, 0, none⟩) len len)) I ((b, .cells arr e (0, 0)) :: H)) : DX P ops bs ord K PK Rl (i :: is) ρ I H := by
  have hr : ∀ w : World, (execOp (evE ρ) ⟨dd, .buildSlice t len parts, ty, pos, af, g⟩).run P w = .ok (.value (.slice (some ⟨w.heap.size, 0, none⟩) len len)) { w with heap := w.heap.push (.cells arr e (0, 0)) } := fun w => by
    simp only [execOp]
    rw [run_bind_ok (run_buildSlice ht hz hzs hlen (by rw [map_toList]; exact ha) w)]
    rfl
  refine .mk ho hw Nat.one_ne_zero (fun w => ⟨_, _, w.drawn, hr w⟩) ?_
  rintro b u ob ⟨w, n, rfl, hr'⟩
  rw [hr w] at hr'
  injection hr' with e1 e2
  injection e1 with e1
  have e3 := congrArg World.heap e2
  have e4 := Array.push_inj_right.1 e3
  subst e1 e4
  exact h _

/-! ### Conversions -/
class CvI (P : Program) (s d : TypeId) (k : outParam IntKind) : Prop where h : (P.underlying s).isSome = true ∧ P.underlying d = some (.int k)
theorem DX.cv {s d : TypeId} {x : Operand} {k kd : IntKind} {n c : Int} (ho : ops[i]? = some ⟨dd, .convert s d x, ty, pos, af, g⟩) (hw : wantedE ops ρ ⟨dd, .convert s d x, ty, pos, af, g⟩ = true) (hbs : bs.contains d = false)
    [ht : CvI P s d kd] (hx : evE ρ x = .int k n) (hc : kd.wrap n = c)
    (h : DX P ops bs ord K PK Rl is (updE ρ dd (.int kd c)) I H) : DX P ops bs ord K PK Rl (i :: is) ρ I H := by
  obtain ⟨h1, h2⟩ := ht.h
  obtain ⟨ds, h1⟩ := Option.isSome_iff_exists.1 h1
  refine .pure ho hw (by simp only [opCls, hbs]; cases Nat.beq s d <;> decide) ?_ h
  subst hc
  simp only [execOp, hx]
  refine PureT.of fun w => ?_
  unfold convert
  rw [run_bind_ok (run_und h1), run_bind_ok (run_und h2)]
  cases ds <;> rfl

class CvS (P : Program) (s d e : TypeId) : Prop where h : P.underlying s = some .string ∧ P.underlying d = some (.slice e) ∧ P.underlying e = some (.int .u8)

def bytesV (l : List UInt8) : List Value := l.map fun c => .int .u8 c.toNat

theorem DX.s2b {s d e : TypeId} {x : Operand} {l : List UInt8} (ho : ops[i]? = some ⟨dd, .convert s d x, ty, pos, af, g⟩) (hw : wantedE ops ρ ⟨dd, .convert s d x, ty, pos, af, g⟩ = true) (hbs : bs.contains d = true)
    [ht : CvS P s d e] (hx : evE ρ x = str l)
    (h : ∀ b cap sp, l.length ≤ cap → sp.length = cap - l.length → DX P ops bs ord K PK Rl is (updE ρ dd (.slice (some ⟨b, 0, none⟩) l.length cap)) I ((b, .cells (bytesV l ++ sp).toArray e (cap, cap + 1)) :: H)) : DX P ops bs ord K PK Rl (i :: is) ρ I H := by
  obtain ⟨h1, h2, h3⟩ := ht.h
  let cap : World → Nat := fun w => (Question.appendCap l.length 0 e).cut (w.tape w.drawn (.appendCap l.length 0 e))
  have hcap : ∀ w, l.length ≤ cap w := fun w => Nat.le_add_right _ _
  have hr : ∀ w : World, (execOp (evE ρ) ⟨dd, .convert s d x, ty, pos, af, g⟩).run P w = .ok (.value (.slice (some ⟨w.heap.size, 0, none⟩) l.length (cap w)))
      { w with heap := w.heap.push (.cells (bytesV l ++ List.replicate (cap w - l.length) (Value.int .u8 0)).toArray e (cap w, cap w + 1)), drawn := w.drawn + 1 } := fun w => by
    simp only [execOp, hx]
    have hsz : (ByteArray.mk l.toArray).size = l.length := by show l.toArray.size = _; simp
    have key : (convert s d (str l)).run P w = .ok (.slice (some ⟨w.heap.size, 0, none⟩) l.length (cap w)) { w with heap := w.heap.push (.cells (bytesV l ++ List.replicate (cap w - l.length) (Value.int .u8 0)).toArray e (cap w, cap w + 1)), drawn := w.drawn + 1 } := by
      unfold convert
      rw [run_bind_ok (run_und h1), run_bind_ok (run_und h2)]
      simp only [str]
      rw [run_bind_ok (run_und h3)]
      simp only [Conv.stringToBytes, hsz]
      have hch : (choose (.appendCap l.length 0 e)).run P w = .ok (cap w) { w with drawn := w.drawn + 1 } := rfl
      rw [run_bind_ok hch]
      have harr : (Array.map (fun b : UInt8 => Value.int .u8 b.toNat) l.toArray ++ Array.replicate (cap w - l.length) (Value.int .u8 0)) = (bytesV l ++ List.replicate (cap w - l.length) (Value.int .u8 0)).toArray := by
        apply Array.ext'; simp [bytesV]
      rw [harr]
      rw [run_bind_ok (a := (⟨w.heap.size, 0, none⟩ : Addr)) (w' := { w with heap := w.heap.push (.cells (bytesV l ++ List.replicate (cap w - l.length) (Value.int .u8 0)).toArray e (0, 0)), drawn := w.drawn + 1 }) rfl]
      have hsz2 : (bytesV l ++ List.replicate (cap w - l.length) (Value.int .u8 0)).toArray.size = cap w := by
        have := hcap w
        simp [bytesV]; omega
      rw [run_bind_ok (a := ()) (w' := { w with heap := w.heap.push (.cells (bytesV l ++ List.replicate (cap w - l.length) (Value.int .u8 0)).toArray e (cap w, cap w + 1)), drawn := w.drawn + 1 })]
      · rfl
      · unfold markStringish
        simp only [shape, freeze]
        show Sem.run P (Sem.shape _ _) _ = _
        simp only [Sem.run, World.shape?, Array.getElem?_push_size, hsz2]
        show Sem.run P (Sem.freeze _ _ _) _ = _
        simp only [Sem.run, World.freeze]
        simp
        apply Array.ext_getElem?
        intro k
        simp only [Array.getElem?_modify, Array.getElem?_push]
        split
        · rename_i hk; subst hk; simp
        · rename_i hk; rw [if_neg (fun e => hk e.symm)]; rw [if_neg (fun e => hk e.symm)]
    rw [run_bind_ok key]
    rfl
  refine .mk ho hw (by simp only [opCls, hbs]; cases Nat.beq s d <;> decide) (fun w => ⟨_, _, w.drawn + 1, hr w⟩) ?_
  rintro b u ob ⟨w, n, rfl, hr'⟩
  rw [hr w] at hr'
  injection hr' with e1 e2
  injection e1 with e1
  have e3 := congrArg World.heap e2
  have e4 := Array.push_inj_right.1 e3
  subst e1 e4
  exact h _ _ _ (hcap w) (by simp)

end rules
end Go.Proofs.Zz

namespace Go.Proofs.Zz
open Go

theorem str_extract (l : List UInt8) (a b : Nat) : (ByteArray.mk l.toArray).extract a b = ⟨((l.drop a).take (b - a)).toArray⟩ := by
  apply ByteArray.ext
  simp [ByteArray.data_extract]

def eqC (op : BinOp) (b : Bool) : Option Bool := match op with
  | .eql => some b
  | .neq => some (!b)
  | _ => none
def shC (op : BinOp) (k : IntKind) (a : Int) (n : Nat) : Option Int := match op with
  | .shl => some (k.wrap (a * 2 ^ min n k.bits))
  | .shr => some (a.fdiv (2 ^ min n k.bits))
  | _ => none

def nilB : Value → Option Bool
  | .pointer none => some true
  | .pointer (some _) => some false
  | .slice none _ _ => some true
  | .slice (some _) _ _ => some false
  | .map none => some true
  | .map (some _) => some false
  | .nilFunc => some true
  | .func _ _ _ => some false
  | _ => none

def nilT (d : TypeDesc) (v : Value) : Bool := match d, v with
  | .pointer _, .pointer _ => true
  | .slice _, .slice _ _ _ => true
  | .map _ _, .map _ => true
  | .func _ _ _, .nilFunc => true
  | .func _ _ _, .func _ _ _ => true
  | _, _ => false

def nilV : Value → Bool
  | .pointer none => true
  | .slice none _ _ => true
  | .map none => true
  | .nilFunc => true
  | _ => false

section rules
variable {P : Program} {ops : Array Oper} {bs : List Nat} {ord : Nat → Nat → Bool} {K : Env → IM → HL → Prop} {PK : List PanicEntry → IM → HL → Prop}
  {Rl : List (Nat × (Nat × Obj))} {i : Nat} {is : List Nat} {ρ : Env} {I : IM} {H : HL} {dd : Option Nat} {ty : TypeId} {pos : String} {af : Array Edge} {g : Option (Nat × Bool)}

theorem run_bound {k : IntKind} {n y : Nat} {code : BoundsCode} (h : n ≤ y) (w : World) : (Instr.sliceBound (.int k n) y code).run P w = .ok n w := by
  unfold Instr.sliceBound
  rw [run_bind_ok (a := (k, (n : Int))) (w' := w) rfl]
  simp only
  rw [if_pos ⟨by omega, by omega⟩]
  rfl

/-- The bound that a slice expression names. -/
def BndIs (ρ : Env) : Option Operand → Nat → Nat → Prop
  | none, d, n => n = d
  | some x, _, n => ∃ k, evE ρ x = .int k (n : Int)
theorem BndIs.none {ρ : Env} {d : Nat} : BndIs ρ .none d d := rfl
theorem BndIs.some {ρ : Env} {x : Operand} {d n : Nat} {k : IntKind} (h : evE ρ x = .int k (n : Int)) : BndIs ρ (.some x) d n := ⟨k, h⟩

theorem run_bounds2 {lo hi : Option Operand} {isS : Bool} {len cap l h : Nat} (h1 : BndIs ρ lo 0 l) (h2 : BndIs ρ hi len h) (hlh : l ≤ h) (hh : h ≤ cap) (w : World) :
    (Instr.sliceBounds isS len cap (lo.map (evE ρ)) (hi.map (evE ρ)) .none).run P w = .ok (l, h, cap) w := by
  unfold Instr.sliceBounds
  simp only
  rw [run_bind_ok (run_pure _)]
  cases hi with
  | none =>
    cases h2
    simp only [Option.map_none]
    rw [run_bind_ok (run_pure _)]
    cases lo with
    | none => cases h1; rfl
    | some x =>
      obtain ⟨k, hx⟩ := h1
      simp only [Option.map_some, hx]
      rw [run_bind_ok (run_bound hlh w)]
      rfl
  | some y =>
    obtain ⟨k2, hy⟩ := h2
    simp only [Option.map_some, hy]
    rw [run_bind_ok (run_bound hh w)]
    cases lo with
    | none => cases h1; rfl
    | some x =>
      obtain ⟨k, hx⟩ := h1
      simp only [Option.map_some, hx]
      rw [run_bind_ok (run_bound hlh w)]
      rfl

/-- s[lo:hi] of a string. -/
theorem DX.slS {t : TypeId} {x : Operand} {lo hi : Option Operand} {s : List UInt8} {l h : Nat} (ho : ops[i]? = some ⟨dd, .slice t x lo hi .none, ty, pos, af, g⟩) (hw : wantedE ops ρ ⟨dd, .slice t x lo hi .none, ty, pos, af, g⟩ = true)
    [ht : UnT P t .string] (hx : evE ρ x = str s) (h1 : BndIs ρ lo 0 l) (h2 : BndIs ρ hi s.length h) (hlh : l ≤ h) (hh : h ≤ s.length)
    (hk : DX P ops bs ord K PK Rl is (updE ρ dd (str ((s.drop l).take (h - l)))) I H) : DX P ops bs ord K PK Rl (i :: is) ρ I H := by
  refine .pure ho hw Nat.zero_ne_one ?_ hk
  have hsz : (ByteArray.mk s.toArray).size = s.length := by show s.toArray.size = _; simp
  simp only [execOp, hx, Option.map_none]
  refine PureT.of fun w => ?_
  unfold Instr.sliceAt
  rw [run_bind_ok (run_und ht.h)]
  simp only [str]
  unfold Instr.slice
  rw [run_bind_ok (run_und ht.h)]
  simp only [Option.isSome_none, Bool.false_eq_true, if_false, hsz]
  rw [run_bind_ok (run_bounds2 h1 h2 hlh hh w)]
  simp only [str_extract]
  rfl

/-- s[lo:hi] of a slice. -/
theorem DX.slL {t e : TypeId} {sz by' : Nat} {x : Operand} {lo hi : Option Operand} {a : Option Addr} {n cap : Nat} {l h : Nat} (ho : ops[i]? = some ⟨dd, .slice t x lo hi .none, ty, pos, af, g⟩) (hw : wantedE ops ρ ⟨dd, .slice t x lo hi .none, ty, pos, af, g⟩ = true)
    [ht : SlT P t e sz by'] (hx : evE ρ x = .slice a n cap) (h1 : BndIs ρ lo 0 l) (h2 : BndIs ρ hi n h) (hlh : l ≤ h) (hh : h ≤ cap)
    (hk : DX P ops bs ord K PK Rl is (updE ρ dd (.slice (if cap = l then a else a.map (·.add (l * sz))) (h - l) (cap - l))) I H) : DX P ops bs ord K PK Rl (i :: is) ρ I H := by
  obtain ⟨i', k1, k2, k3, -⟩ := ht.get
  refine .pure ho hw Nat.zero_ne_one ?_ hk
  simp only [execOp, hx, Option.map_none]
  refine PureT.of fun w => ?_
  unfold Instr.sliceAt
  rw [run_bind_ok (run_und k1)]
  simp only
  unfold Instr.slice
  rw [run_bind_ok (run_und k1)]
  simp only
  rw [run_bind_ok (run_bounds2 h1 h2 hlh hh w), run_bind_ok (run_sizeOf k2), k3]
  rfl

/-- A comparison with nil (pointers, slices, maps, functions). -/
theorem DX.nl {op : BinOp} {t t' : TypeId} {d : TypeDesc} {x y : Operand} {v u : Value} {b c : Bool} (ho : ops[i]? = some ⟨dd, .binOp op t x y t', ty, pos, af, g⟩) (hw : wantedE ops ρ ⟨dd, .binOp op t x y t', ty, pos, af, g⟩ = true)
    [ht : UnT P t d] (hx : evE ρ x = v) (hy : evE ρ y = u) (hu : nilV u = true) (hv : nilB v = some b) (htv : nilT d v = true) (htu : nilT d u = true)
    (hc : eqC op b = some c)
    (h : DX P ops bs ord K PK Rl is (updE ρ dd (.bool c)) I H) : DX P ops bs ord K PK Rl (i :: is) ρ I H := by
  refine .pure ho hw Nat.zero_ne_one ?_ h
  simp only [execOp, hx, hy]
  have hgd : ∀ w, (eqGuard op t x y v u).run P w = .ok () w := fun w => run_eqGuard_plain (by cases v <;> cases u <;> first | trivial | cases hv) w
  have heq : ∀ w, (Op.equal t v u).run P w = .ok b w := fun w => by
    unfold Op.equal
    rw [show Op.maxDepth = 9999 + 1 from rfl]
    unfold Op.equalIn
    rw [run_bind_ok (run_und ht.h)]
    cases v with
    | pointer a =>
      cases u with
      | pointer a' =>
        cases a' with
        | some _ => cases hu
        | none => cases a <;> cases hv <;> (cases d <;> first | rfl | (cases htv; done))
      | slice a' n' c' => cases d <;> first | (cases htu; done) | (cases htv; done)
      | map r => cases d <;> first | (cases htu; done) | (cases htv; done)
      | nilFunc => cases d <;> first | (cases htu; done) | (cases htv; done)
      | _ => cases hu
    | slice a n c =>
      cases u with
      | slice a' n' c' =>
        cases a' with
        | some _ => cases hu
        | none => cases a <;> cases hv <;> (cases d <;> first | rfl | (cases htv; done))
      | pointer a' => cases d <;> first | (cases htu; done) | (cases htv; done)
      | map r => cases d <;> first | (cases htu; done) | (cases htv; done)
      | nilFunc => cases d <;> first | (cases htu; done) | (cases htv; done)
      | _ => cases hu
    | map r =>
      cases u with
      | map r' =>
        cases r' with
        | some _ => cases hu
        | none => cases r <;> cases hv <;> (cases d <;> first | rfl | (cases htv; done))
      | pointer a' => cases d <;> first | (cases htu; done) | (cases htv; done)
      | slice a' n' c' => cases d <;> first | (cases htu; done) | (cases htv; done)
      | nilFunc => cases d <;> first | (cases htu; done) | (cases htv; done)
      | _ => cases hu
    | nilFunc =>
      cases u with
      | nilFunc => cases hv; (cases d <;> first | rfl | (cases htv; done))
      | pointer a' => cases d <;> first | (cases htu; done) | (cases htv; done)
      | slice a' n' c' => cases d <;> first | (cases htu; done) | (cases htv; done)
      | map r => cases d <;> first | (cases htu; done) | (cases htv; done)
      | _ => cases hu
    | func fn fi ca =>
      cases u with
      | nilFunc => cases hv; (cases d <;> first | rfl | (cases htv; done))
      | pointer a' => cases d <;> first | (cases htu; done) | (cases htv; done)
      | slice a' n' c' => cases d <;> first | (cases htu; done) | (cases htv; done)
      | map r => cases d <;> first | (cases htu; done) | (cases htv; done)
      | _ => cases hu
    | _ => cases hv
  have hbin : ∀ w, (binOp op t v u).run P w = .ok (.bool c) w := fun w => by
    cases op <;> first | cases hc | skip
    · have : binOp .eql t v u = (Op.equal t v u >>= fun b => Pure.pure (Value.bool b)) := by cases v <;> first | (cases hv; done) | (cases u <;> first | rfl | (cases hu; done))
      rw [this, run_bind_ok (heq w)]; rfl
    · have : binOp .neq t v u = (Op.equal t v u >>= fun b => Pure.pure (Value.bool (!b))) := by cases v <;> first | (cases hv; done) | (cases u <;> first | rfl | (cases hu; done))
      rw [this, run_bind_ok (heq w)]; rfl
  refine PureT.of fun w => ?_
  rw [run_bind_ok (hgd w)]
  exact hbin w

theorem DX.mf {fn : Fn} {first capt : Array Operand} {fv cv : Array Value} (ho : ops[i]? = some ⟨dd, .makeFunc fn first capt, ty, pos, af, g⟩) (hw : wantedE ops ρ ⟨dd, .makeFunc fn first capt, ty, pos, af, g⟩ = true)
    (hf : first.toList.map (evE ρ) = fv.toList) (hc : capt.toList.map (evE ρ) = cv.toList)
    (h : DX P ops bs ord K PK Rl is (updE ρ dd (.func fn fv cv)) I H) : DX P ops bs ord K PK Rl (i :: is) ρ I H := by
  refine .pure ho hw Nat.zero_ne_one ?_ h
  simp only [execOp]
  have e1 : first.map (evE ρ) = fv := Array.ext' (by simpa using hf)
  have e2 : capt.map (evE ρ) = cv := Array.ext' (by simpa using hc)
  rw [e1, e2]
  exact PureT.of fun w => rfl

/-- bool == bool. -/
theorem DX.bc {op : BinOp} {t t' : TypeId} {x y : Operand} {a b c : Bool} (ho : ops[i]? = some ⟨dd, .binOp op t x y t', ty, pos, af, g⟩) (hw : wantedE ops ρ ⟨dd, .binOp op t x y t', ty, pos, af, g⟩ = true)
    [ht : UnT P t .bool] (hx : evE ρ x = .bool a) (hy : evE ρ y = .bool b) (hc : eqC op (a == b) = some c)
    (h : DX P ops bs ord K PK Rl is (updE ρ dd (.bool c)) I H) : DX P ops bs ord K PK Rl (i :: is) ρ I H := by
  refine .pure ho hw Nat.zero_ne_one ?_ h
  simp only [execOp, hx, hy]
  have heq : ∀ w, (Op.equal t (.bool a) (.bool b)).run P w = .ok (a == b) w := fun w => by
    unfold Op.equal
    rw [show Op.maxDepth = 9999 + 1 from rfl]
    unfold Op.equalIn
    rw [run_bind_ok (run_und ht.h)]
    rfl
  refine PureT.of fun w => ?_
  rw [run_bind_ok (run_eqGuard_plain trivial w)]
  cases op <;> first | cases hc | skip
  · show (Op.equal t (.bool a) (.bool b) >>= fun b => Pure.pure (Value.bool b)).run P w = _
    rw [run_bind_ok (heq w)]; rfl
  · show (Op.equal t (.bool a) (.bool b) >>= fun b => Pure.pure (Value.bool (!b))).run P w = _
    rw [run_bind_ok (heq w)]; rfl

/-- Shifts by a known count. -/
theorem DX.sh {op : BinOp} {t t' : TypeId} {x y : Operand} {k k' : IntKind} {a c : Int} {n : Nat} (ho : ops[i]? = some ⟨dd, .binOp op t x y t', ty, pos, af, g⟩) (hw : wantedE ops ρ ⟨dd, .binOp op t x y t', ty, pos, af, g⟩ = true)
    (hx : evE ρ x = .int k a) (hy : evE ρ y = .int k' (n : Int)) (hc : shC op k a n = some c)
    (h : DX P ops bs ord K PK Rl is (updE ρ dd (.int k c)) I H) : DX P ops bs ord K PK Rl (i :: is) ρ I H := by
  refine .pure ho hw Nat.zero_ne_one ?_ h
  simp only [execOp, hx, hy]
  refine PureT.of fun w => ?_
  rw [run_bind_ok (run_eqGuard_plain trivial w)]
  have hn : ¬ ((n : Int) < 0) := by omega
  cases op <;> first | cases hc | skip
  · simp [binOp, Op.shift, hn, pure, Sem.run]
  · simp [binOp, Op.shift, hn, pure, Sem.run]

theorem DX.neg {t : TypeId} {x : Operand} {k : IntKind} {a c : Int} (ho : ops[i]? = some ⟨dd, .unOp .neg t x, ty, pos, af, g⟩) (hw : wantedE ops ρ ⟨dd, .unOp .neg t x, ty, pos, af, g⟩ = true) (hx : evE ρ x = .int k a) (hc : k.wrap (0 - a) = c)
    (h : DX P ops bs ord K PK Rl is (updE ρ dd (.int k c)) I H) : DX P ops bs ord K PK Rl (i :: is) ρ I H := by
  refine .pure ho hw Nat.zero_ne_one ?_ h
  subst hc
  simp only [execOp, hx]
  exact PureT.of fun w => rfl

/-- min, max of two integers. -/
theorem DX.mm {mx : Bool} {x y : Operand} {ts : Array TypeId} {k : IntKind} {a b c : Int} (ho : ops[i]? = some ⟨dd, .call { callee := .builtin (bif mx then .max else .min), args := #[x, y], argTypes := ts }, ty, pos, af, g⟩)
    (hw : wantedE ops ρ ⟨dd, .call { callee := .builtin (bif mx then .max else .min), args := #[x, y], argTypes := ts }, ty, pos, af, g⟩ = true) (hx : evE ρ x = .int k a) (hy : evE ρ y = .int k b) (hc : (bif mx then max a b else min a b) = c)
    (h : DX P ops bs ord K PK Rl is (updE ρ dd (.int k c)) I H) : DX P ops bs ord K PK Rl (i :: is) ρ I H := by
  subst hc
  cases mx with
  | true =>
    refine .pure ho hw Nat.zero_ne_one (fun w => ?_) h
    simp only [execOp, resolve, List.map_toArray, List.map_cons, List.map_nil, hx, hy, cond_true]
    rw [run_bind_ok (run_pure _)]
    show ((Builtin.max_ ts ty #[.int k a, .int k b]) >>= fun v => Pure.pure (Next.value v)).run P w = _
    rw [run_bind_ok (a := Value.int k (max a b)) (w' := w)]
    · rfl
    · show ((Builtin.max2 (.int k a) (.int k b)) >>= fun v => Pure.pure v).run P w = _
      unfold Builtin.max2
      rw [run_bind_ok (run_pure _), run_pure]
      congr 2
      by_cases h : a < b
      · simp [h]; omega
      · simp [h]; omega
  | false =>
    refine .pure ho hw Nat.zero_ne_one (fun w => ?_) h
    simp only [execOp, resolve, List.map_toArray, List.map_cons, List.map_nil, hx, hy, cond_false]
    rw [run_bind_ok (run_pure _)]
    show ((Builtin.min_ ts ty #[.int k a, .int k b]) >>= fun v => Pure.pure (Next.value v)).run P w = _
    rw [run_bind_ok (a := Value.int k (min a b)) (w' := w)]
    · rfl
    · show ((Builtin.min2 (.int k a) (.int k b)) >>= fun v => Pure.pure v).run P w = _
      unfold Builtin.min2
      rw [run_bind_ok (run_pure _), run_pure]
      congr 2
      by_cases h : b < a
      · simp [h]; omega
      · simp [h]; omega

end rules
end Go.Proofs.Zz

namespace Go.Proofs.Zz
open Go

section rules
variable {P : Program} {ops : Array Oper} {bs : List Nat} {ord : Nat → Nat → Bool} {K : Env → IM → HL → Prop} {PK : List PanicEntry → IM → HL → Prop}
  {Rl : List (Nat × (Nat × Obj))} {i : Nat} {is : List Nat} {ρ : Env} {I : IM} {H : HL} {dd : Option Nat} {ty : TypeId} {pos : String} {af : Array Edge} {g : Option (Nat × Bool)}

/-- l[:h:m]. -/
theorem DX.sl3 {t e : TypeId} {sz by' : Nat} {x y z : Operand} {a : Option Addr} {n cap h m : Nat} {k k' : IntKind} (ho : ops[i]? = some ⟨dd, .slice t x .none (.some y) (.some z), ty, pos, af, g⟩) (hw : wantedE ops ρ ⟨dd, .slice t x .none (.some y) (.some z), ty, pos, af, g⟩ = true)
    [ht : SlT P t e sz by'] (hx : evE ρ x = .slice a n cap) (hy : evE ρ y = .int k (h : Int)) (hz : evE ρ z = .int k' (m : Int)) (hhm : h ≤ m) (hm : m ≤ cap)
    (hk : DX P ops bs ord K PK Rl is (updE ρ dd (.slice a h m)) I H) : DX P ops bs ord K PK Rl (i :: is) ρ I H := by
  obtain ⟨i', k1, k2, k3, -⟩ := ht.get
  refine .pure ho hw Nat.zero_ne_one ?_ hk
  simp only [execOp, hx, Option.map_none, Option.map_some, hy, hz]
  refine PureT.of fun w => ?_
  unfold Instr.sliceAt
  rw [run_bind_ok (run_und k1)]
  simp only
  unfold Instr.slice
  rw [run_bind_ok (run_und k1)]
  simp only
  have hb : (Instr.sliceBounds true n cap .none (.some (.int k (h : Int))) (.some (.int k' (m : Int)))).run P w = .ok (0, h, m) w := by
    unfold Instr.sliceBounds
    simp only
    rw [run_bind_ok (run_bound hm w), run_bind_ok (run_bound hhm w), run_bind_ok (run_pure _)]
    rfl
  rw [run_bind_ok hb, run_bind_ok (run_sizeOf k2)]
  have e1 : (if m = 0 then a else Option.map (fun x => x.add (0 * i'.size)) a) = a := by
    split
    · rfl
    · cases a with
      | none => rfl
      | some ad => simp [Addr.add]
  simp only [e1, Nat.sub_zero]
  rfl

/-- x[l:h:m]. -/
theorem DX.sl4 {t e : TypeId} {sz by' : Nat} {x u y z : Operand} {a : Option Addr} {n cap l h m : Nat} {k0 k k' : IntKind} (ho : ops[i]? = some ⟨dd, .slice t x (.some u) (.some y) (.some z), ty, pos, af, g⟩) (hw : wantedE ops ρ ⟨dd, .slice t x (.some u) (.some y) (.some z), ty, pos, af, g⟩ = true)
    [ht : SlT P t e sz by'] (hx : evE ρ x = .slice a n cap) (hu : evE ρ u = .int k0 (l : Int)) (hy : evE ρ y = .int k (h : Int)) (hz : evE ρ z = .int k' (m : Int)) (hlh : l ≤ h) (hhm : h ≤ m) (hm : m ≤ cap)
    (hk : DX P ops bs ord K PK Rl is (updE ρ dd (.slice (if m = l then a else a.map fun x => x.add (l * sz)) (h - l) (m - l))) I H) : DX P ops bs ord K PK Rl (i :: is) ρ I H := by
  obtain ⟨i', k1, k2, k3, -⟩ := ht.get
  refine .pure ho hw Nat.zero_ne_one ?_ hk
  simp only [execOp, hx, Option.map_some, hu, hy, hz]
  refine PureT.of fun w => ?_
  unfold Instr.sliceAt
  rw [run_bind_ok (run_und k1)]
  simp only
  unfold Instr.slice
  rw [run_bind_ok (run_und k1)]
  simp only
  have hb : (Instr.sliceBounds true n cap (.some (.int k0 (l : Int))) (.some (.int k (h : Int))) (.some (.int k' (m : Int)))).run P w = .ok (l, h, m) w := by
    unfold Instr.sliceBounds
    simp only
    rw [run_bind_ok (run_bound hm w), run_bind_ok (run_bound hhm w), run_bind_ok (run_bound hlh w)]
    rfl
  rw [run_bind_ok hb, run_bind_ok (run_sizeOf k2), k3]
  rfl

theorem pow48 : (2 : Int) ^ 48 = 281474976710656 := by decide

theorem EffT.appI {P : Program} {t tx e : TypeId} {sz by' : Nat} {ty : TypeId} (ht : AppT P t tx e sz by') {a : Option Addr} {n : Nat} {x : Value} {cells news : List (List Value)} {src : HL} {m : Nat} {I : IM} {cs : Array Bool}
    (ho : Sl I sz (.slice a n n) cells) (hcl : ∀ c ∈ cells, c.length = sz) (hl : ∀ c ∈ news, c.length = sz) (hm : Builtin.lenOf x = Sem.pure m) (hlen : news.length = m) (h0 : 0 < m)
    (hsrc : ∀ w, (∀ k o, I k = some o → w.heap[k]? = some o) → (∀ p ∈ src, w.heap[p.1]? = some p.2) → (Builtin.firstCells sz m x).run P w = .ok news.flatten.toArray w)
    (hb : (cells.length + m) * by' ≤ 140737488355328) :
    EffT P (builtin .append #[t, tx] ty cs #[.slice a n n, x]) I src fun r I' own' => ∃ a cap bl', r = .ret (.slice a (cells ++ news).length cap) ∧ I' = I ∧ own' = bl' ∧ Ow e sz (.slice a (cells ++ news).length cap) (cells ++ news) bl' := by
  intro w0 w F hst
  obtain ⟨i, z, d, k1, k2, k3, k4, k5, k6, k7, k8, k9⟩ := ht.get
  obtain rfl := ho.len.1
  have hzz : (match tyZ P e with | some z => z | none => undef) = z := by simp [tyZ, k2, k5]
  have hst2 : St w0 I F w := St.sub hst
  have hnew : ∀ k, (Builtin.firstCells sz m x).run P { w with drawn := k } = .ok news.flatten.toArray { w with drawn := k } := fun k =>
    hsrc _ (fun j o hj => hst.im j o hj) fun p hp => hst.own p (List.mem_append_left _ hp)
  have hold : ∀ k, (Builtin.firstCells sz cells.length (.slice a cells.length cells.length)).run P { w with drawn := k } = .ok cells.flatten.toArray { w with drawn := k } := fun k =>
    firstCells_Sl ho fun j o hj => hst.im j o hj
  obtain ⟨c, rest, hc1, hc2, hr⟩ := run_append_grow (ty := ty) ht hm hnew hold (by omega) hb
  show UpR P _ _ ((Builtin.append_ #[t, tx] ty #[.slice a cells.length cells.length, x] >>= fun v => Pure.pure (Next.value v)).run P w)
  rw [run_bind_ok hr]
  have hc2 : rest.size = (c - (cells.length + m)) * sz := by rw [hc2]; congr 1; simp [tyZ, k2, k5, k9]
  have hps := St.push hst2 (.cells (cells.flatten.toArray ++ news.flatten.toArray ++ rest) e (0, 0)) (w.drawn + 1)
  refine ⟨I, _, .refl I, hps, some ⟨w.heap.size, 0, none⟩, c, [(w.heap.size, .cells (cells.flatten.toArray ++ news.flatten.toArray ++ rest) e (0, 0))], ?_, rfl, rfl, fun c h => (List.mem_append.1 h).elim (hcl c) (hl c), .inr ⟨w.heap.size, c, rest.toList, rfl, ?_, ?_, ?_⟩⟩
  · rw [List.length_append, hlen]
  · congr 3
    apply Array.ext'
    simp
  · rw [List.length_append, hlen]; exact hc1
  · rw [List.length_append, hlen]; simpa using hc2

/-- append(l[:n:n], x), l a slice that never changes, x in the block at the head of what is owned. -/
theorem DX.appI1 {x y : Operand} {t tx e : TypeId} {sz by' : Nat} [ht : AppT P t tx e sz by'] {a : Option Addr} {n : Nat} {cells : List (List Value)} {F : HL} {bn c : Nat} {arr : Array Value} {e' : TypeId} {fr : Nat × Nat} {new : List Value}
    (ho : Sl I sz (.slice a n n) cells) (hn : arr = new.toArray) (hl : new.length = sz) (hb : (cells.length + 1) * by' ≤ 140737488355328)
    (hH : H.Perm ((bn, .cells arr e' fr) :: F))
    (hop : ops[i]? = some ⟨dd, .call { callee := .builtin .append, args := #[x, y], argTypes := #[t, tx] }, ty, pos, af, g⟩) (hw : wantedE ops ρ ⟨dd, .call { callee := .builtin .append, args := #[x, y], argTypes := #[t, tx] }, ty, pos, af, g⟩ = true) (hrl : RlOk ord Rl i I F)
    (hx : evE ρ x = .slice a n n) (hy : evE ρ y = .slice (some ⟨bn, 0, none⟩) 1 c)
    (h : ∀ a n cap bl', n = cells.length + 1 → Ow e sz (.slice a n cap) (cells ++ [new]) bl' → DX P ops bs ord K PK Rl is (updE ρ dd (.slice a n cap)) I (bl' ++ F)) : DX P ops bs ord K PK Rl (i :: is) ρ I H := by
  subst hn
  have hcl : ∀ c ∈ cells, c.length = sz := by obtain ⟨_, _, _, _, h, _⟩ := ho; exact h
  have hsem : execOp (evE ρ) ⟨dd, .call { callee := .builtin .append, args := #[x, y], argTypes := #[t, tx] }, ty, pos, af, g⟩ = builtin .append #[t, tx] ty (#[x, y].map fun | .const _ => true | _ => false) #[.slice a n n, .slice (some ⟨bn, 0, none⟩) 1 c] := by
    simp only [execOp, resolve, List.map_toArray, List.map_cons, List.map_nil, hx, hy]
    rfl
  refine .eff (own := [(bn, .cells new.toArray e' fr)]) hop hw rfl hH (RlOk.up hrl) (by
    rw [hsem]
    refine EffT.appI (news := [new]) ht ho hcl (by simpa using hl) rfl rfl (by decide) (fun w _ hh => ?_) hb
    refine firstCells_block (hh _ List.mem_cons_self) (by simp [hl]) ?_
    simp only [cut, List.drop_zero, Nat.one_mul, List.flatten_cons, List.flatten_nil, List.append_nil]
    rw [List.take_of_length_le (by omega)]) ?_ ?_
  · rintro v' I' own' _ ⟨a, cap, bl', e', rfl, rfl, how⟩
    cases e'
    exact h a _ cap _ (by simp) how
  · rintro c I' own' _ _ ⟨a, cap, bl', e', _⟩; cases e'

/-- make([]T, l, n). -/
theorem DX.mkS2 {t e : TypeId} {sz by' : Nat} {z : Value} {x y : Operand} {k k' : IntKind} {l n : Nat} (hln : l ≤ n) (ho : ops[i]? = some ⟨dd, .makeSlice t x y, ty, pos, af, g⟩) (hw : wantedE ops ρ ⟨dd, .makeSlice t x y, ty, pos, af, g⟩ = true)
    [ht : SlT P t e sz by'] [hz : TyZ P e z] (hzs : z.cells.size = sz) (hx : evE ρ x = .int k (l : Int)) (hy : evE ρ y = .int k' (n : Int)) (hb : by' * n ≤ 281474976710656) (hn : n < 9223372036854775808)
    (h : ∀ b, DX P ops bs ord K PK Rl is (updE ρ dd (.slice (some ⟨b, 0, none⟩) l n)) I ((b, .cells ((List.replicate n z.cells.toList).flatten).toArray e (0, 0)) :: H)) : DX P ops bs ord K PK Rl (i :: is) ρ I H := by
  obtain ⟨i', h1, h2, h3, h4⟩ := ht.get
  obtain ⟨i'', h2', h5⟩ := hz.get
  have hr : ∀ w : World, (execOp (evE ρ) ⟨dd, .makeSlice t x y, ty, pos, af, g⟩).run P w = .ok (.value (.slice (some ⟨w.heap.size, 0, none⟩) l n)) { w with heap := w.heap.push (.cells ((List.replicate n z.cells.toList).flatten).toArray e (0, 0)) } := fun w => by
    simp only [execOp, hx, hy]
    have key : (Instr.makeSlice t (.int k l) (.int k' n)).run P w = .ok (.slice (some ⟨w.heap.size, 0, none⟩) l n) { w with heap := w.heap.push (.cells ((List.replicate n z.cells.toList).flatten).toArray e (0, 0)) } := by
      unfold Instr.makeSlice
      rw [run_bind_ok (run_und h1)]
      simp only
      rw [run_bind_ok (a := (l : Int)) (w' := w) rfl, run_bind_ok (a := (n : Int)) (w' := w) rfl, run_bind_ok (run_info h2), h4]
      have hwr : IntKind.i64.wrap (n : Int) = n := i64_wrap (by omega) (by omega)
      have hwl : IntKind.i64.wrap (l : Int) = l := i64_wrap (by omega) (by omega)
      have hle : ¬ ((by' : Int) * (n : Int) > 2 ^ 48) := by
        rw [pow48]
        intro hh
        have h3 : ((by' * n : Nat) : Int) > 281474976710656 := by rw [Int.natCast_mul]; exact hh
        omega
      have hc : ((decide ((n : Int) < 0) || decide ((by' : Int) * (n : Int) > 2 ^ 48)) || decide ((l : Int) < 0) || decide ((l : Int) > (n : Int))) = false := by
        have h1 : ¬ ((n : Int) < 0) := by omega
        have h2 : ¬ ((l : Int) < 0) := by omega
        have h3 : ¬ ((l : Int) > (n : Int)) := by omega
        rw [decide_eq_false h1, decide_eq_false hle, decide_eq_false h2, decide_eq_false h3]
        rfl
      simp only [hwr, hwl, hc, Bool.false_eq_true, if_false]
      have hask : ∀ q (w : World), (askRoom q).run P w = .ok () w := by
        intro q w
        unfold askRoom
        split <;> rfl
      rw [run_bind_ok (hask _ _), run_bind_ok (run_sizeOf h2), h3]
      simp only [Int.toNat_natCast]
      by_cases h0 : n * sz = 0
      · simp only [h0, if_true]
        rw [run_bind_ok (run_pure _)]
        have e1 : (List.replicate n z.cells.toList).flatten = [] := by
          apply List.eq_nil_of_length_eq_zero
          simp [List.length_flatten, hzs, h0]
        rw [e1]
        have e2 : ∀ f : Nat → Value, Array.map f (Array.range 0) = #[] := fun f => by simp
        rw [e2]
        rfl
      · simp only [h0, if_false]
        have hrr := range_rep z.cells n (by rw [hzs]; exact h0)
        rw [hzs] at hrr
        rw [run_bind_ok (a := z) (w' := w) (by unfold zeroValue; rw [run_bind_ok (run_info h2'), h5]; rfl), run_bind_ok (run_pure _)]
        simp only [hzs, hrr]
        rfl
    rw [run_bind_ok key]
    rfl
  refine .mk ho hw Nat.one_ne_zero (fun w => ⟨_, _, w.drawn, hr w⟩) ?_
  rintro b u ob ⟨w, n, rfl, hr'⟩
  rw [hr w] at hr'
  injection hr' with e1 e2
  injection e1 with e1
  have e3 := congrArg World.heap e2
  have e4 := Array.push_inj_right.1 e3
  subst e1 e4
  exact h _

/-- make([]T, n). -/
theorem DX.mkS {t e : TypeId} {sz by' : Nat} {z : Value} {x y : Operand} {k k' : IntKind} {n : Nat} (ho : ops[i]? = some ⟨dd, .makeSlice t x y, ty, pos, af, g⟩) (hw : wantedE ops ρ ⟨dd, .makeSlice t x y, ty, pos, af, g⟩ = true)
    [ht : SlT P t e sz by'] [hz : TyZ P e z] (hzs : z.cells.size = sz) (hx : evE ρ x = .int k (n : Int)) (hy : evE ρ y = .int k' (n : Int)) (hb : by' * n ≤ 281474976710656) (hn : n < 9223372036854775808)
    (h : ∀ b, DX P ops bs ord K PK Rl is (updE ρ dd (.slice (some ⟨b, 0, none⟩) n n)) I ((b, .cells ((List.replicate n z.cells.toList).flatten).toArray e (0, 0)) :: H)) : DX P ops bs ord K PK Rl (i :: is) ρ I H := by
  obtain ⟨i', h1, h2, h3, h4⟩ := ht.get
  obtain ⟨i'', h2', h5⟩ := hz.get
  have hr : ∀ w : World, (execOp (evE ρ) ⟨dd, .makeSlice t x y, ty, pos, af, g⟩).run P w = .ok (.value (.slice (some ⟨w.heap.size, 0, none⟩) n n)) { w with heap := w.heap.push (.cells ((List.replicate n z.cells.toList).flatten).toArray e (0, 0)) } := fun w => by
    simp only [execOp, hx, hy]
    have key : (Instr.makeSlice t (.int k n) (.int k' n)).run P w = .ok (.slice (some ⟨w.heap.size, 0, none⟩) n n) { w with heap := w.heap.push (.cells ((List.replicate n z.cells.toList).flatten).toArray e (0, 0)) } := by
      unfold Instr.makeSlice
      rw [run_bind_ok (run_und h1)]
      simp only
      rw [run_bind_ok (a := (n : Int)) (w' := w) rfl, run_bind_ok (a := (n : Int)) (w' := w) rfl, run_bind_ok (run_info h2), h4]
      have hwr : IntKind.i64.wrap (n : Int) = n := i64_wrap (by omega) (by omega)
      have hle : ¬ ((by' : Int) * (n : Int) > 2 ^ 48) := by
        rw [pow48]
        intro hh
        have h3 : ((by' * n : Nat) : Int) > 281474976710656 := by rw [Int.natCast_mul]; exact hh
        omega
      have hc : ((decide ((n : Int) < 0) || decide ((by' : Int) * (n : Int) > 2 ^ 48)) || decide ((n : Int) < 0) || decide ((n : Int) > (n : Int))) = false := by
        have h1 : ¬ ((n : Int) < 0) := by omega
        rw [decide_eq_false h1, decide_eq_false hle, decide_eq_false (Int.lt_irrefl _)]
        rfl
      simp only [hwr, hc, Bool.false_eq_true, if_false]
      have hask : ∀ q (w : World), (askRoom q).run P w = .ok () w := by
        intro q w
        unfold askRoom
        split <;> rfl
      rw [run_bind_ok (hask _ _), run_bind_ok (run_sizeOf h2), h3]
      simp only [Int.toNat_natCast]
      by_cases h0 : n * sz = 0
      · simp only [h0, if_true]
        rw [run_bind_ok (run_pure _)]
        have e1 : (List.replicate n z.cells.toList).flatten = [] := by
          apply List.eq_nil_of_length_eq_zero
          simp [List.length_flatten, hzs, h0]
        rw [e1]
        have e2 : ∀ f : Nat → Value, Array.map f (Array.range 0) = #[] := fun f => by simp
        rw [e2]
        rfl
      · simp only [h0, if_false]
        have hrr := range_rep z.cells n (by rw [hzs]; exact h0)
        rw [hzs] at hrr
        rw [run_bind_ok (a := z) (w' := w) (by unfold zeroValue; rw [run_bind_ok (run_info h2'), h5]; rfl), run_bind_ok (run_pure _)]
        simp only [hzs, hrr]
        rfl
    rw [run_bind_ok key]
    rfl
  refine .mk ho hw Nat.one_ne_zero (fun w => ⟨_, _, w.drawn, hr w⟩) ?_
  rintro b u ob ⟨w, n, rfl, hr'⟩
  rw [hr w] at hr'
  injection hr' with e1 e2
  injection e1 with e1
  have e3 := congrArg World.heap e2
  have e4 := Array.push_inj_right.1 e3
  subst e1 e4
  exact h _

/-- copy(dst, src): dst the whole j-th block of one's own, src as long, and never changing. -/
theorem DX.cpy {x y : Operand} {t tx e : TypeId} {sz by' : Nat} [ht : SlT P t e sz by'] {b cap n c : Nat} {a : Option Addr} {arr : Array Value} {e' : TypeId} {cells : List (List Value)} (j : Nat)
    (hs : Sl I sz (.slice a n c) cells) (hp : plainL cells.flatten = true) (hj : H[j]? = some (b, .cells arr e' (0, 0))) (hsz : arr.size = n * sz)
    (hop : ops[i]? = some ⟨dd, .call { callee := .builtin .copy, args := #[x, y], argTypes := #[t, tx] }, ty, pos, af, g⟩) (hw : wantedE ops ρ ⟨dd, .call { callee := .builtin .copy, args := #[x, y], argTypes := #[t, tx] }, ty, pos, af, g⟩ = true) (hrl : RlOk ord Rl i I (H.eraseIdx j))
    (hx : evE ρ x = .slice (some ⟨b, 0, none⟩) n cap) (hy : evE ρ y = .slice a n c) {H' : HL} (hH : H.set j (b, .cells cells.flatten.toArray e' (0, 0)) = H')
    (h : DX P ops bs ord K PK Rl is (updE ρ dd (.int .i64 n)) I H') : DX P ops bs ord K PK Rl (i :: is) ρ I H := by
  subst hH
  obtain ⟨i', h1, h2, h3, h4⟩ := ht.get
  have hcl : ∀ c ∈ cells, c.length = sz := by obtain ⟨_, _, _, _, h, _⟩ := hs; exact h
  have hfl := flatten_len hcl
  have hn := hs.len.1
  have hsem : execOp (evE ρ) ⟨dd, .call { callee := .builtin .copy, args := #[x, y], argTypes := #[t, tx] }, ty, pos, af, g⟩ = builtin .copy #[t, tx] ty (#[x, y].map fun | .const _ => true | _ => false) #[.slice (some ⟨b, 0, none⟩) n cap, .slice a n c] := by
    simp only [execOp, resolve, List.map_toArray, List.map_cons, List.map_nil, hx, hy]
    rfl
  refine .eff (own := [(b, .cells arr e' (0, 0))]) (F := H.eraseIdx j) (R := fun r I' own' => r = .ret (.int .i64 n) ∧ I' = I ∧ own' = [(b, .cells cells.flatten.toArray e' (0, 0))]) hop hw rfl (perm_eraseIdx hj) (fun e he => (hrl e he).imp id fun h => h.imp id .inl) ?_ ?_ ?_
  · rw [hsem]
    intro w0 w F hst
    have hbb := hst.own _ List.mem_cons_self
    have hf : (Builtin.firstCells sz n (.slice a n c)).run P w = .ok cells.flatten.toArray w := firstCells_Sl hs fun k o hk => hst.im k o hk
    have hput : putC arr 0 cells.flatten = cells.flatten.toArray := by
      unfold putC
      simp only [List.take_zero, List.nil_append, Nat.zero_add]
      rw [List.drop_eq_nil_of_le (by simp only [Array.length_toList, hsz, hfl, ← hn]; exact Nat.le_refl _), List.append_nil]
    have hst' := run_storeCells (P := P) (b := b) (e := e') (fr := (0, 0)) cells.flatten 0 0 arr w hbb (by simp only [hfl, hsz, ← hn]; omega) (by simp [frB]) (plainL_ok hp)
    rw [Nat.add_zero, hput] at hst'
    show UpR P _ _ ((Builtin.copy_ #[t, tx] ty #[.slice (some ⟨b, 0, none⟩) n cap, .slice a n c] >>= fun v => Pure.pure (Next.value v)).run P w)
    have key : (Builtin.copy_ #[t, tx] ty #[.slice (some ⟨b, 0, none⟩) n cap, .slice a n c]).run P w = .ok (.int .i64 n) { w with heap := w.heap.setIfInBounds b (.cells cells.flatten.toArray e' (0, 0)) } := by
      unfold Builtin.copy_
      simp only [List.getElem?_toArray, List.getElem?_cons_zero, List.getElem?_cons_succ]
      rw [run_bind_ok (run_und h1)]
      simp only
      rw [run_bind_ok (a := n) (w' := w) rfl, run_bind_ok (run_sizeOf h2), h3]
      have hmin : Nat.min n n = n := Nat.min_self n
      rw [hmin, run_bind_ok hf, run_bind_ok hst']
      rfl
    rw [run_bind_ok key]
    exact ⟨I, _, .refl I, St.set hst, rfl, rfl, rfl⟩
  · rintro v' I' own' _ ⟨e1, rfl, rfl⟩
    cases e1
    exact h.permH (perm_set hj)
  · rintro c I' own' _ _ ⟨e1, _⟩; cases e1

end rules

/-- Results in memory. -/
theorem Results.cell {P : Program} {fn : Func} {ρ : Env} {I : IM} {H : HL} {t b off : Nat} {ty : TypeId} {agg : Bool} {sz : Nat} {v : Value} {cs : Array Value} {e : TypeId} {fr : Nat × Nat} (j : Nat) (hr : fn.results = #[.cell t ty]) (ha : ρ t = .pointer (some ⟨b, off, none⟩))
    [ht : TyL P ty agg sz] (hj : H[j]? = some (b, .cells cs e fr)) (hv : readV agg sz cs off = some v) : Results P fn ρ I H v := by
  intro w0 w F a haρ hst
  subst haρ
  have hb := hst.own _ (List.mem_append_left F (List.mem_of_getElem? hj))
  have hl := run_loadVar ht hb hv
  have he : (a.tmps[t]?).getD undef = .pointer (some ⟨b, off, none⟩) := by rw [← ha]; simp [envA, Array.getD_eq_getD_getElem?]
  unfold results
  rw [hr, Array.mapM_eq_mapM_toList]
  simp only [Array.getD_eq_getD_getElem?]
  show ((List.mapM _ [ResultVar.cell t ty] >>= fun l => Pure.pure l.toArray : Sem (Array Value)) >>= _).run P w = _
  rw [run_bind_ok (a := #[v]) (w' := w)]
  · rfl
  · rw [run_bind_ok (a := [v]) (w' := w)]
    · rfl
    · rw [List.mapM_cons, run_bind_ok (a := v) (w' := w)]
      · rfl
      · simp only [he]
        rw [run_bind_ok (a := (⟨b, off, none⟩ : Addr)) (w' := w) rfl]
        exact hl

end Go.Proofs.Zz

namespace Go.Proofs.Zz
open Go
noncomputable section

/-! ### Runs without a world: names for blocks -/

inductive V where
  | bool (b : Bool)
  | int (k : IntKind) (n : Int)
  | str (s : List UInt8)
  | ptr (b off : Nat)
  | gp (g off : Nat)
  | nptr
  | sl (b off len cap : Nat) (grow : Bool)
  | nsl
  | map (b : Nat)
  | nmap
  | func (f : Fn) (first capt : List V)
  | nfn
  | iface (t : TypeId) (v : V)
  | nif
  | agg (l : List V)
  | tup (l : List V)
  /-- an empty part of a slice of unknown room: it lies at 'alt' if no room is left -/
  | se (b off alt cap : Nat) (g : Bool)
  /-- a value of which nothing is known -/
  | sym (i : Nat)
  deriving Inhabited

inductive T (α : Type) where
  | lf
  | nd (l : T α) (v : Option α) (r : T α)
  deriving Inhabited

def T.get {α : Type} (t : T α) : Nat → Option α :=
  T.rec (fun _ => none) (fun _ v _ gl gr k => Bool.rec (motive := fun _ => Option α) (Bool.rec (motive := fun _ => Option α) (gr (Nat.pred (Nat.div k 2))) (gl (Nat.div k 2)) (Nat.beq (Nat.mod k 2) 1)) v (Nat.beq k 0)) t

def T.put {α : Type} (x : Option α) (n : Nat) : Nat → T α → T α :=
  Nat.rec (fun _ t => t) (fun _ ih k t => T.rec (motive := fun _ => T α)
      (Bool.rec (motive := fun _ => T α) (Bool.rec (motive := fun _ => T α) (.nd .lf none (ih (Nat.pred (Nat.div k 2)) .lf)) (.nd (ih (Nat.div k 2) .lf) none .lf) (Nat.beq (Nat.mod k 2) 1)) (.nd .lf x .lf) (Nat.beq k 0))
      (fun l v r _ _ => Bool.rec (motive := fun _ => T α) (Bool.rec (motive := fun _ => T α) (.nd l v (ih (Nat.pred (Nat.div k 2)) r)) (.nd (ih (Nat.div k 2) l) v r) (Nat.beq (Nat.mod k 2) 1)) (.nd l x r) (Nat.beq k 0)) t) n

def nthL {α : Type} (l : List α) : Nat → Option α := List.rec (fun _ => none) (fun a _ ih n => Nat.rec (some a) (fun m _ => ih m) n) l
def T.set {α : Type} (t : T α) (k : Nat) (x : α) : T α := T.put (some x) (Nat.succ k) k t
def T.del {α : Type} (t : T α) (k : Nat) : T α := T.put none (Nat.succ k) k t
def mkT {α : Type} (l : List α) : Nat → T α → T α := List.rec (fun _ t => t) (fun a _ ih i t => ih (Nat.succ i) (t.set i a)) l
def tI (P : Program) (t : TypeId) : Option TypeInfo := (mkT P.types.toList 0 .lf).get t
def fI (P : Program) (k : FuncId) : Option Func := (mkT P.funcs.toList 0 .lf).get k
def tU1 (P : Program) (d : TypeDesc) : Option TypeDesc := match d with
  | .named _ u => match tI P u with
    | some i => some i.desc
    | none => none
  | d => some d
def tU (P : Program) (t : TypeId) : Option TypeDesc := match tI P t with
  | some i => tU1 P i.desc
  | none => none
def xL (P : Program) (t : TypeId) : Option (Bool × Nat) := match tU P t, tI P t with
  | some d, some i => some (aggB d, i.size)
  | _, _ => none
def xZ (P : Program) (t : TypeId) : Option Value := match tI P t with
  | some i => i.zero
  | _ => none
def xS (P : Program) (t : TypeId) : Option (TypeId × Nat × Nat) := match tU P t with
  | some (.slice e) => match tI P e with
    | some i => some (e, i.size, i.bytes)
    | none => none
  | _ => none
def xF (P : Program) (s : TypeId) (f : Nat) : Option Nat := match tU P s with
  | some (.struct fs) => match nthL fs.toList f with
    | some x => match tI P x.type with
      | some i => bif Nat.beq i.size 0 then none else some x.offset
      | none => none
    | none => none
  | _ => none
def xPl (P : Program) : List Field → Option (List (Nat × Nat))
  | [] => some []
  | f :: l => match tI P f.type, xPl P l with
    | some i, some l => some ((f.offset, i.size) :: l)
    | _, _ => none
def xA (P : Program) (t tx : TypeId) : Option (TypeId × Nat × Nat) := match xS P t, tU P tx with
  | some (e, sz, by'), some d => match (match d with | .int _ => false | _ => true), xZ P e with
    | true, some z => bif Nat.beq by' 0 || !Nat.beq z.cells.size sz then none else some (e, sz, by')
    | _, _ => none
  | _, _ => none

inductive O where
  | cells (l : List V) (e : TypeId) (fz : Nat × Nat)
  /-- more room behind it, nobody knows how much -/
  | grow (l : List V) (e : TypeId) (sz : Nat) (m : Bool) (fz : Nat × Nat)
  | map (es : List (V × V × Nat)) (clock : Nat)
  | iter (m : Nat) (since : Nat) (seen : List Nat) (stepped : Nat)
  | niter
  | siter (s : List UInt8) (pos : Nat)
  | loop (st : LoopState) (pend : Option Code) (N : Nat) (e : T V) (ps : List Nat) (as bd : Code)
  deriving Inhabited

structure S where
  e : T V
  h : T O
  nx : Nat
  deriving Inhabited

def optL {α β : Type} (f : α → Option β) : List α → Option (List β)
  | [] => some []
  | a :: l => match f a with
    | some b => match optL f l with
      | some l' => some (b :: l')
      | none => none
    | none => none

def ofV : Nat → Value → Option V
  | 0, _ => none
  | n + 1, v => match v with
    | .bool b => some (.bool b)
    | .int k i => some (.int k i)
    | .string s => some (.str s.data.toList)
    | .pointer none => some .nptr
    | .slice none 0 0 => some .nsl
    | .map none => some .nmap
    | .nilFunc => some .nfn
    | .nilIface => some .nif
    | .agg cs => match optL (ofV n) cs.toList with
      | some l => some (.agg l)
      | none => none
    | .tuple cs => match optL (ofV n) cs.toList with
      | some l => some (.tup l)
      | none => none
    | .func (.func f) a b => match a.toList, b.toList with
      | [], [] => some (.func (.func f) [] [])
      | _, _ => none
    | _ => none

def zV (P : Program) (t : TypeId) : Option V := match xZ P t with
  | some z => ofV 8 z
  | none => none

def evO (e : T V) (x : Operand) : Option V :=
  Operand.rec (motive := fun _ => Option V) (fun t => Option.rec (motive := fun _ => Option V) (some (.tup [])) (fun v => some v) (e.get t)) (fun v => Option.rec (motive := fun _ => Option V) none (fun v => some v) (ofV 12 v))
    (fun g => some (.gp g 0)) (fun f => some (.func (.func f) [] [])) x

/-- The cells of a value. -/
def V.cs : V → List V
  | .agg l => l
  | v => [v]

def vNil : V → Option Bool
  | .ptr _ _ | .gp _ _ => some false
  | .nptr => some true
  | .sl .. => some false
  | .nsl => some true
  | .map _ => some false
  | .nmap => some true
  | .func .. => some false
  | .nfn => some true
  | .iface .. => some false
  | .nif => some true
  | .se .. => some false
  | _ => none

def rdV (agg : Bool) (sz : Nat) (cs : List V) (off : Nat) : Option V :=
  bif agg then (bif Nat.ble (off + sz) cs.length then some (.agg ((cs.drop off).take sz)) else none)
  else nthL cs off

def plV : V → Bool
  | .agg _ => false
  | .tup _ => false
  | _ => true
def putL (cs : List V) (off : Nat) (vs : List V) : Option (List V) :=
  bif Nat.ble (off + vs.length) cs.length then some (cs.take off ++ vs ++ cs.drop (off + vs.length)) else none

/-- The cells of a block, as far as they are known. -/
def O.known : O → Option (List V)
  | .cells l _ _ => some l
  | .grow l _ _ _ _ => some l
  | _ => none

def asN (v : V) : Option Nat := match v with
  | .int _ (.ofNat n) => some n
  | _ => none

/-- The elements that a slice (a string) has. -/
def elems (h : T O) (sz : Nat) : V → Option (List V × Nat)
  | .nsl => some ([], 0)
  | .sl b off len _ _ => match h.get b with
    | some o => match o.known with
      | some l => let r := (l.drop off).take (len * sz); bif Nat.beq r.length (len * sz) then some (r, len) else none
      | none => none
    | none => none
  | .str s => bif Nat.beq sz 1 then some (s.map fun c => .int .u8 c.toNat, s.length) else none
  | .se .. => some ([], 0)
  | _ => none

abbrev R := Option (V × T O × Nat)

def u0 : V := .tup []

def storeAt (h : T O) (nx : Nat) (b off : Nat) (vs : List V) (r : V) : R := match h.get b with
  | some (.cells l e fz) => bif frB fz off vs.length && vs.all plV then (match putL l off vs with
    | some l' => some (r, h.set b (.cells l' e fz), nx)
    | none => none) else none
  | some (.grow l e sz m fz) => bif frB fz off vs.length && vs.all plV then (match putL l off vs with
    | some l' => some (r, h.set b (.grow l' e sz m fz), nx)
    | none => none) else none
  | _ => none

def appendV (P : Program) (t tx : TypeId) (x y : V) (h : T O) (nx : Nat) : R := match xA P t tx with
  | some (e, sz, by') => match elems h sz y, elems h sz x with
    | some (news, m), some (olds, n) => bif Nat.ble ((n + m) * by') 1000000 && news.all plV && olds.all plV then (match x with
      | .nsl => bif Nat.beq m 0 then some (.nsl, h, nx) else some (.sl nx 0 m 0 true, h.set nx (.grow news e sz false (0, 0)), nx + 1)
      | .sl b off len cap g => bif g then
          (match h.get b with
            | some (.grow l e' gsz st fz) => bif Nat.beq gsz sz && Nat.blt 0 sz && Nat.beq e' e then (bif Nat.ble (off + (len + m) * sz) l.length then (bif Nat.ble (cap * sz) off then storeAt h nx b (off + len * sz) news (.sl b off (len + m) cap true) else none)
              else bif Nat.beq off 0 && Nat.beq cap 0 && Nat.beq l.length (len * sz) && frB fz (len * sz) (m * sz) then some (.sl nx 0 (len + m) 0 true, (h.del b).set nx (.grow (olds ++ news) e sz st fz), nx + 1) else none) else none
            | _ => none)
        else bif Nat.ble (len + m) cap then storeAt h nx b (off + len * sz) news (.sl b off (len + m) cap false)
        else some (.sl nx 0 (len + m) 0 true, h.set nx (.grow (olds ++ news) e sz false (0, 0)), nx + 1)
      | .se _ _ _ _ g => bif g || Nat.beq m 0 then none else some (.sl nx 0 m 0 true, h.set nx (.grow news e sz false (0, 0)), nx + 1)
      | _ => none) else none
    | _, _ => none
  | none => match xS P t, tU P tx, x, y with
    | some (e, sz, by'), some (.int _), .nsl, .int _ (.ofNat n) => bif Nat.beq n 0 then none else match zV P e with
        | some z => bif Nat.ble (n * by') 1000000 && Nat.ble n 1000000 && Nat.beq z.cs.length sz then some (.sl nx 0 n 0 true, h.set nx (.grow (List.replicate n z.cs).flatten e sz false (0, 0)), nx + 1) else none
        | none => none
    | _, _, _, _ => none

def arrT (P : Program) (t : TypeId) : Option (Nat × TypeId × Nat) := match tU P t with
  | some (.array n el) => match tI P el with
    | some i => some (n, el, i.size)
    | none => none
  | _ => none
def bndV (o : Option V) (d : Nat) : Option Nat := match o with
  | none => some d
  | some v => asN v

/-- A slice's part: 'cp': its room. -/
def okRoom (h : T O) (b off cap sz u : Nat) : Bool := match h.get b with
  | some (.grow l _ gsz _ _) => Nat.beq gsz sz && (Nat.blt 0 sz && (Nat.ble (cap * sz) off && Nat.ble (off + u * sz) l.length))
  | _ => false
def slPart (h : T O) (b off sz len cap : Nat) (g : Bool) (l u : Nat) : Option V :=
  bif g then (bif Nat.ble l u && (Nat.ble u len || okRoom h b off cap sz u) then (bif Nat.blt l u || Nat.beq l 0 then some (.sl b (off + l * sz) (u - l) (cap + l) true) else some (.se b (off + l * sz) off (cap + l) true)) else none)
  else (bif Nat.ble l u && Nat.ble u cap then some (.sl b (bif Nat.beq cap l then off else off + l * sz) (u - l) (cap - l) false) else none)

def sliceV (P : Program) (t : TypeId) (x : V) (lo hi mx : Option V) (h : T O) (nx : Nat) : Option V := match mx with
  | none => match x with
    | .str s => match tU P t, bndV lo 0, bndV hi s.length with
      | some .string, some l, some u => bif Nat.ble l u && Nat.ble u s.length then some (.str ((s.drop l).take (u - l))) else none
      | _, _, _ => none
    | .nsl => match xS P t, bndV lo 0, bndV hi 0 with
      | some _, some 0, some 0 => some .nsl
      | _, _, _ => none
    | .sl b off len cap g => match xS P t, bndV lo 0, bndV hi len with
      | some (_, sz, _), some l, some u => slPart h b off sz len cap g l u
      | _, _, _ => none
    | .se b off alt cap g => match xS P t, bndV lo 0, bndV hi 0 with
      | some _, some 0, some 0 => some (.se b off alt cap g)
      | _, _, _ => none
    | .ptr b off => match arrT P t with
      | some (n, _, sz) => match bndV lo 0, bndV hi n with
        | some l, some u => bif Nat.ble l u && Nat.ble u n then some (.sl b (bif Nat.beq n l then off else off + l * sz) (u - l) (n - l) false) else none
        | _, _ => none
      | none => none
    | _ => none
  | some m => match x, lo, hi with
    | .sl b off len cap g, none, some u => match xS P t, asN u, asN m with
      | some (_, sz, _), some u, some m => bif Nat.ble u m && (Nat.ble m (bif g then len else cap) || (g && okRoom h b off cap sz m)) then some (.sl b off u m false) else none
      | _, _, _ => none
    | .sl b off len cap g, some l, some u => match xS P t, asN l, asN u, asN m with
      | some (_, sz, _), some l, some u, some m => bif Nat.ble l u && (Nat.ble u m && (Nat.ble m (bif g then len else cap) || (g && okRoom h b off cap sz m))) then some (.sl b (bif Nat.beq m l then off else off + l * sz) (u - l) (m - l) false) else none
      | _, _, _, _ => none
    | .nsl, none, some u => match xS P t, asN u, asN m with
      | some _, some 0, some 0 => some .nsl
      | _, _, _ => none
    | .se b off alt cap _, none, some u => match xS P t, asN u, asN m with
      | some _, some 0, some 0 => some (.se b off alt cap false)
      | _, _, _ => none
    | _, _, _ => none

/-- Equality of plain values. -/
def eqV : Nat → V → V → Option Bool
  | 0, _, _ => none
  | n + 1, a, b => match a, b with
    | .bool x, .bool y => some (x == y)
    | .int k x, .int k' y => bif decide (k = k') then some (x == y) else none
    | .str x, .str y => some (x == y)
    | .agg l, .agg m => eqL (eqV n) l m
    | _, _ => none
where eqL (f : V → V → Option Bool) : List V → List V → Option Bool
  | [], [] => some true
  | a :: l, b :: m => match f a b with
    | some true => eqL f l m
    | some false => some false
    | none => none
  | _, _ => none

/-- The place, the value, the stamp. -/
def findE (k : V) : List (V × V × Nat) → Nat → Option (Option (Nat × V × Nat))
  | [], _ => some none
  | (k', v, bn) :: l, i => match eqV 1 k k' with
    | some true => some (some (i, v, bn))
    | some false => findE k l (Nat.succ i)
    | none => none
def idxB (bn : Nat) : List (V × V × Nat) → Nat → Option Nat
  | [], _ => none
  | p :: l, i => bif Nat.beq p.2.2 bn then some i else idxB bn l (Nat.succ i)

def kindOk (d : TypeDesc) (v : V) : Bool := match d, v with
  | .int _, .int _ _ => true
  | .string, .str _ => true
  | .bool, .bool _ => true
  | _, _ => false

def nilTd (d : TypeDesc) (v : V) : Bool := match d, v with
  | .pointer _, .ptr _ _ | .pointer _, .gp _ _ | .pointer _, .nptr => true
  | .slice _, .sl .. | .slice _, .nsl | .slice _, .se .. => true
  | .map _ _, .map _ | .map _ _, .nmap => true
  | .func _ _ _, .nfn | .func _ _ _, .func .. => true
  | _, _ => false

/-- Equality: with nil; of booleans; of a pointer with itself. -/
def eqN (P : Program) (d : TypeDesc) (cy : Bool) (x y : V) : Option Bool := match x, y with
  | .bool a, .bool b => match d with
    | .bool => some (a == b)
    | _ => none
  | .ptr b o, .ptr b' o' => match d with
    | .pointer el => match tI P el with
      | some _ => bif Nat.beq b b' && Nat.beq o o' then some true else none
      | none => none
    | _ => none
  | .iface _ _, .nif => match d with
    | .interface _ => some false
    | _ => none
  | .nif, .nif => match d with
    | .interface _ => bif cy then some true else none
    | _ => none
  | x, y => match vNil x, vNil y with
    | some a, some true => bif nilTd d x && nilTd d y then some a else none
    | _, _ => none

def binI (op : BinOp) (k : IntKind) (a b : Int) : Option V := match arith op k a b with
  | some c => some (.int k c)
  | none => match icmp op a b with
    | some c => some (.bool c)
    | none => none

def binS (op : BinOp) (a b : List UInt8) : Option V := match scmp op a b with
  | some c => some (.bool c)
  | none => match op with
    | .add => bif Nat.blt (a.length + b.length) 1000000 then some (.str (a ++ b)) else none
    | _ => none

def binE (op : BinOp) (r : Option Bool) : Option V := match r with
  | some b => match eqC op b with
    | some c => some (.bool c)
    | none => none
  | none => none

def binV (P : Program) (op : BinOp) (t : TypeId) (cy : Bool) (x y : V) : Option V := match x, y with
  | .int k a, .int k' b => match op with
    | .shl | .shr => match b with
      | .ofNat n => match shC op k a n with
        | some c => some (.int k c)
        | none => none
      | _ => none
    | _ => bif decide (k = k') then binI op k a b else none
  | .str a, .str b => binS op a b
  | x, y => match tU P t with
    | some d => binE op (eqN P d cy x y)
    | none => none

def byteOf : V → Option UInt8
  | .int .u8 (.ofNat n) => bif Nat.blt n 256 then some (UInt8.ofNat n) else none
  | _ => none

abbrev Out := Option (V × T O × Nat × Option Nat)
def lenV (P : Program) (orl : Nat → Option V) (ts : List TypeId) (args : List V) (h : T O) (nx : Nat) : Out := match ts, args with
  | [t], [x] => match tU P t, x with
    | some .string, .str s => some (.int .i64 s.length, h, nx, none)
    | some (.array n _), _ => some (.int .i64 n, h, nx, none)
    | some (.slice _), .nsl => some (.int .i64 0, h, nx, none)
    | some (.slice _), .se .. => some (.int .i64 0, h, nx, none)
    | some (.slice _), .sl _ _ n _ _ => some (.int .i64 n, h, nx, none)
    | some (.slice _), .sym i => match orl i with
      | some v => some (v, h, nx, none)
      | none => none
    | some (.map _ _), .nmap => some (.int .i64 0, h, nx, none)
    | some (.map _ _), .map m => match h.get m with
      | some (.map es _) => some (.int .i64 es.length, h, nx, some m)
      | _ => none
    | _, _ => none
  | _, _ => none
def capV (P : Program) (ts : List TypeId) (args : List V) (h : T O) (nx : Nat) : Out := match ts, args with
  | [t], [x] => match tU P t, x with
    | some (.slice _), .nsl => some (.int .i64 0, h, nx, none)
    | some (.slice _), .sl _ _ _ c false => some (.int .i64 c, h, nx, none)
    | _, _ => none
  | _, _ => none
def mmV (mx : Bool) (args : List V) (h : T O) (nx : Nat) : Out := match args with
  | [.int k a, .int _ b] => some (.int k (bif mx then (bif decide (a < b) then b else a) else (bif decide (b < a) then b else a)), h, nx, none)
  | _ => none
def copyV (P : Program) (ts : List TypeId) (args : List V) (h : T O) (nx : Nat) : R := match ts, args with
  | [t, _], [x, y] => match xS P t with
    | some (_, sz, _) => match elems h sz y with
      | some (l, m) => match x with
        | .sl b off n _ _ => storeAt h nx b off (l.take (Nat.min m n * sz)) (.int .i64 (Nat.min m n))
        | .nsl => some (.int .i64 0, h, nx)
        | _ => none
      | none => none
    | none => none
  | _, _ => none
def clearV (P : Program) (ts : List TypeId) (args : List V) (h : T O) (nx : Nat) : R := match ts, args with
  | [t], [x] => match tU P t with
    | some d => match x with
      | .nsl | .se .. => some (u0, h, nx)
      | .nmap => some (u0, h, nx)
      | .map m => match h.get m with
        | some (.map _ c) => some (u0, h.set m (.map [] c), nx)
        | _ => none
      | .sl b off n _ _ => bif Nat.beq n 0 then some (u0, h, nx) else (match d with
        | .slice e => match zV P e with
          | some z => storeAt h nx b off (List.replicate n z.cs).flatten u0
          | none => none
        | _ => none)
      | _ => none
    | none => none
  | _, _ => none
def ptrV : V → Bool
  | .ptr _ _ | .nptr => true
  | _ => false
def frz (fz : Nat × Nat) (n : Nat) : Nat × Nat := bif Nat.beq fz.1 fz.2 then (0, n) else (Nat.min fz.1 0, Nat.max fz.2 n)
def ustrV (P : Program) (ts : List TypeId) (args : List V) (h : T O) (nx : Nat) : R := match ts, args with
  | [pt, _], [p, .int .i64 (.ofNat n)] => bif Nat.beq n 0 then (bif ptrV p then some (.str [], h, nx) else none) else (match p with
    | .ptr b 0 => match h.get b with
      | some ob => match ob.known with
        | some l => bif Nat.ble n l.length && Nat.ble n 1000000 then (match optL byteOf (l.take n), tU P pt with
          | some s, some (.pointer u) => match tI P u with
            | some i => bif Nat.beq i.size 1 then (match ob with
              | .cells l e fz => bif Nat.beq e u then some (.str s, h.set b (.cells l e (frz fz n)), nx) else none
              | .grow l e sz false fz => bif Nat.beq e u then some (.str s, h.set b (.grow l e sz false (frz fz n)), nx) else none
              | _ => none) else none
            | none => none
          | _, _ => none) else none
        | none => none
      | none => none
    | _ => none)
  | _, _ => none
def usdV (args : List V) (h : T O) (nx : Nat) : R := match args with
  | [.nsl] => some (.nptr, h, nx)
  | [.sl b off len cap g] => bif (bif g then Nat.blt 0 len else Nat.blt 0 cap) then some (.ptr b off, h, nx) else none
  | _ => none
def mapE (P : Program) (t : TypeId) : Option (TypeDesc × Option V) := match tU P t with
  | some (.map kt el) => match tU P kt with
    | some d => some (d, zV P el)
    | none => none
  | _ => none
def delV (P : Program) (ts : List TypeId) (args : List V) (h : T O) (nx : Nat) : R := match ts, args with
  | t :: _, [x, k] => match mapE P t with
    | some (d, _) => bif kindOk d k then (match x with
      | .map m => match h.get m with
        | some (.map es c) => match findE k es 0 with
          | some none => some (u0, h, nx)
          | some (some (i, _)) => some (u0, h.set m (.map (es.eraseIdx i) c), nx)
          | none => none
        | _ => none
      | _ => none) else none
    | none => none
  | _, _ => none

def O.seen (b : Nat) : List Nat → Bool := fun l => l.contains b

/-- The places of a type's parts. -/
def buildP (P : Program) (t : TypeId) : Option (Nat → Option (Nat × Nat)) := match tU P t with
  | some (.struct fs) => match xPl P fs.toList with
    | some pl => some (nthL pl)
    | none => none
  | some (.array _ el) => match tI P el with
    | some i => some fun k => some (k * i.size, i.size)
    | none => none
  | _ => none

def evP (e : T V) (p : Nat × Operand) : Option (Nat × V) := match evO e p.2 with
  | some v => some (p.1, v)
  | none => none

structure Cx where
  P : Program
  gl : Nat → Option (List V)
  /-- what is known of values of which nothing else is -/
  orc : BinOp → V → V → Option V
  orl : Nat → Option V
  callF : Fn → List V → List V → T O → Nat → R

abbrev Hd := Cx → T V → T O → Nat → Out

def okV (v : V) (h : T O) (nx : Nat) : Out := some (v, h, nx, none)
def okO (v : Option V) (h : T O) (nx : Nat) : Out := match v with
  | some v => some (v, h, nx, none)
  | none => none
def okR (r : R) : Out := match r with
  | some (v, h, nx) => some (v, h, nx, none)
  | none => none
def okN (h : T O) (nx : Nat) (v : V) (o : O) : Out := some (v, h.set nx o, nx + 1, none)

def hMove (x : Operand) : Hd := fun _ e h nx => okO (evO e x) h nx
def hPick (c a b : Operand) : Hd := fun _ e h nx => match evO e c with
  | some (.bool t) => okO (evO e (bif t then a else b)) h nx
  | _ => none
def hAlloc (t : TypeId) : Hd := fun cx _ h nx => match zV cx.P t with
  | some z => okN h nx (.ptr nx 0) (.cells z.cs t (0, 0))
  | none => none
def hBox (t : TypeId) (x : Operand) : Hd := fun _ e h nx => match evO e x with
  | some v => okN h nx (.ptr nx 0) (.cells v.cs t (0, 0))
  | none => none
def fillV (place : Nat → Option (Nat × Nat)) (cells : List V) : List (Nat × V) → Option (List V)
  | [] => some cells
  | (i, v) :: ps => match place i with
    | some (off, sz) => bif Nat.beq v.cs.length sz then (match putL cells off v.cs with
      | some l => fillV place l ps
      | none => none) else none
    | none => none
def hBuild (t : TypeId) (parts : Array (Nat × Operand)) : Hd := fun cx e h nx => match buildP cx.P t, zV cx.P t with
  | some pl, some z => match optL (evP e) parts.toList with
    | some ps => match fillV pl z.cs ps with
      | some l => okV (.agg l) h nx
      | none => none
    | none => none
  | _, _ => none
def hBuildS (t : TypeId) (len : Nat) (parts : Array (Nat × Operand)) : Hd := fun cx e h nx => match xS cx.P t with
  | some (el, sz, _) => match zV cx.P el, optL (evP e) parts.toList with
    | some z, some ps => bif Nat.beq z.cs.length sz && Nat.ble (len * sz) 16777216 then (match fillV (fun i => some (i * sz, sz)) (List.replicate len z.cs).flatten ps with
      | some l => okN h nx (.sl nx 0 len len false) (.cells l el (0, 0))
      | none => none) else none
    | _, _ => none
  | none => none
def ldV (ty : Option (Bool × Nat)) (l : Option (List V)) (off : Nat) : Option V := match ty, l with
  | some (agg, sz), some l => rdV agg sz l off
  | _, _ => none
def kn? (h : T O) (b : Nat) : Option (List V) := match h.get b with
  | some ob => ob.known
  | none => none
def hLoad (t : TypeId) (x : Operand) : Hd := fun cx e h nx => match evO e x with
  | some (.ptr b off) => match ldV (xL cx.P t) (kn? h b) off with
    | some v => some (v, h, nx, some b)
    | none => none
  | some (.gp g off) => okO (ldV (xL cx.P t) (cx.gl g) off) h nx
  | _ => none
def hStore (t : TypeId) (x y : Operand) : Hd := fun cx e h nx => match evO e x, evO e y, xL cx.P t with
  | some (.ptr b off), some v, some (_, sz) => bif Nat.beq v.cs.length sz then okR (storeAt h nx b off v.cs u0) else none
  | _, _, _ => none
def ncV : V → Bool
  | .ptr _ _ | .gp _ _ | .func (.func _) _ _ | .func (.yield _) _ _ | .map _ => true
  | _ => false
def hNil (x : Operand) : Hd := fun _ e h nx => match evO e x with
  | some v => bif ncV v then okV v h nx else none
  | _ => none
def hBin (op : BinOp) (t : TypeId) (x y : Operand) : Hd := fun cx e h nx => match evO e x, evO e y with
  | some a, some b => match a, b with
    | .sym i, b => okO (cx.orc op (.sym i) b) h nx
    | a, .sym i => okO (cx.orc op a (.sym i)) h nx
    | a, b => okO (binV cx.P op t (match y with | .const _ => true | _ => false) a b) h nx
  | _, _ => none
def unV (op : UnOp) (v : V) : Option V := match op, v with
  | .not, .bool b => some (.bool !b)
  | .neg, .int k a => some (.int k (k.wrap (0 - a)))
  | .xor, .int k a => match arith .xor k (bif k.signed then -1 else k.max) a with
    | some c => some (.int k c)
    | none => none
  | _, _ => none
def hUn (op : UnOp) (x : Operand) : Hd := fun _ e h nx => match evO e x with
  | some a => okO (unV op a) h nx
  | _ => none
def u8T (P : Program) (t : TypeId) : Bool := match tU P t with
  | some (.int .u8) => true
  | _ => false
/-- Where a variable of a type lies at a block's head. -/
def headOk (P : Program) (el u : TypeId) (n : Nat) : Bool := match tI P u with
  | some i => !Nat.beq i.size 0 && Nat.blt 0 n && liesAt P P.depth el (n / P.cellsOf el) 0 u 1
  | none => false
def cvV (P : Program) (ds dd : TypeDesc) (v : V) (h : T O) (nx : Nat) : Out := match ds, dd, v with
  | .int _, .int k, .int _ n => okV (.int k (k.wrap n)) h nx
  | .string, .string, .str l => okV (.str l) h nx
  | .string, .slice el, .str l => bif u8T P el then okN h nx (.sl nx 0 l.length 0 true) (.grow (l.map fun c => .int .u8 c.toNat) el 1 true (0, 0)) else none
  | .slice el, .string, .nsl => bif u8T P el then okV (.str []) h nx else none
  | .slice el, .string, .sl b off len _ _ => bif u8T P el then (match kn? h b with
    | some l => bif Nat.ble (off + len) l.length then (match optL byteOf ((l.drop off).take len) with
      | some s => some (.str s, h, nx, some b)
      | none => none) else none
    | none => none) else none
  | .pointer u, .unsafePointer, .ptr b 0 => match h.get b with
    | some (.cells l el _) => bif headOk P el u l.length then some (.ptr b 0, h, nx, some b) else none
    | _ => none
  | .unsafePointer, .pointer u, .ptr b 0 => match h.get b with
    | some (.cells l el _) => bif headOk P el u l.length then some (.ptr b 0, h, nx, some b) else none
    | _ => none
  | _, _, _ => none
/-- The bytes are marked as a string's: the block's end is frozen. -/
def markV (v : V) (h : T O) (nx : Nat) : Out := match v with
  | .sl b off len cap g => match h.get b with
    | some (.cells l e fz) => some (.sl b off len cap g, h.set b (.cells l e (bif Nat.beq fz.1 fz.2 then (l.length, l.length + 1) else (Nat.min fz.1 l.length, Nat.max fz.2 (l.length + 1)))), nx, none)
    | some (.grow l e sz true fz) => some (.sl b off len cap g, h.set b (.grow l e sz true fz), nx, none)
    | _ => none
  | _ => none
def hConv (s d : TypeId) (x : Operand) : Hd := fun cx e h nx => match tU cx.P s, tU cx.P d, evO e x with
  | some ds, some dd, some v => bif Nat.beq s d then (match ds with
    | .slice el => bif u8T cx.P el then markV v h nx else none
    | _ => none) else cvV cx.P ds dd v h nx
  | _, _, _ => none
def hIface (t : TypeId) (x : Operand) : Hd := fun _ e h nx => match evO e x with
  | some v => okV (.iface t v) h nx
  | none => none
def hMkF (fn : Fn) (first capt : Array Operand) : Hd := fun _ e h nx => match optL (evO e) first.toList, optL (evO e) capt.toList with
  | some a, some b => okV (.func fn a b) h nx
  | _, _ => none
def hMkMap : Hd := fun _ _ h nx => okN h nx (.map nx) (.map [] 0)
def mkSV (st : Option (TypeId × Nat × Nat)) (z : TypeId → Option V) (n m : Option Nat) (h : T O) (nx : Nat) : Out := match st, n, m with
  | some (el, sz, by'), some n, some m => match z el with
    | some z => bif Nat.ble n m && Nat.ble m 1000000 && Nat.ble (by' * m) 1000000 && Nat.beq z.cs.length sz then okN h nx (.sl nx 0 n m false) (.cells (List.replicate m z.cs).flatten el (0, 0)) else none
    | none => none
  | _, _, _ => none
def hMkS (t : TypeId) (l c : Operand) : Hd := fun cx e h nx => match evO e l, evO e c with
  | some l, some c => mkSV (xS cx.P t) (zV cx.P) (asN l) (asN c) h nx
  | _, _ => none
def evOO (e : T V) (o : Option Operand) : Option (Option V) := match o with
  | none => some none
  | some x => match evO e x with
    | some v => some (some v)
    | none => none
def hSlice (t : TypeId) (x : Operand) (lo hi mx : Option Operand) : Hd := fun cx e h nx => match evO e x, evOO e lo, evOO e hi, evOO e mx with
  | some v, some a, some b, some c => okO (sliceV cx.P t v a b c h nx) h nx
  | _, _, _, _ => none
def hFA (s : TypeId) (x : Operand) (f : Nat) : Hd := fun cx e h nx => match evO e x, xF cx.P s f with
  | some (.ptr b off), some d => okV (.ptr b (off + d)) h nx
  | some (.gp b off), some d => okV (.gp b (off + d)) h nx
  | _, _ => none
def fldV (P : Program) (s : TypeId) (f : Nat) (l : List V) : Option V := match tU P s with
  | some (.struct fs) => match nthL fs.toList f with
    | some fl => ldV (xL P fl.type) (some l) fl.offset
    | none => none
  | _ => none
def hFld (s : TypeId) (x : Operand) (f : Nat) : Hd := fun cx e h nx => match evO e x with
  | some (.agg l) => okO (fldV cx.P s f l) h nx
  | _ => none
def ixA (P : Program) (t : TypeId) (v : V) (j : Nat) : Option V := match v with
  | .sl b off len _ _ => match xS P t with
    | some (_, sz, _) => bif Nat.blt j len then some (.ptr b (off + j * sz)) else none
    | none => none
  | .ptr b off => match arrT P t with
    | some (n, _, sz) => bif Nat.blt j n then some (.ptr b (off + j * sz)) else none
    | none => none
  | .gp b off => match arrT P t with
    | some (n, _, sz) => bif Nat.blt j n then some (.gp b (off + j * sz)) else none
    | none => none
  | _ => none
def hIxA (t : TypeId) (x i : Operand) : Hd := fun cx e h nx => match evO e x, evO e i with
  | some v, some i => match asN i with
    | some j => okO (ixA cx.P t v j) h nx
    | none => none
  | _, _ => none
def ixV (P : Program) (t : TypeId) (v : V) (j : Nat) : Option V := match v with
  | .str s => match tU P t with
    | some .string => match nthL s j with
      | some c => some (.int .u8 c.toNat)
      | none => none
    | _ => none
  | .agg l => match arrT P t with
    | some (n, el, sz) => bif Nat.blt j n then ldV (xL P el) (some l) (j * sz) else none
    | none => none
  | _ => none
def hIx (t : TypeId) (x i : Operand) : Hd := fun cx e h nx => match evO e x, evO e i with
  | some v, some i => match asN i with
    | some j => okO (ixV cx.P t v j) h nx
    | none => none
  | _, _ => none
def lkV (c : Bool) (v : V) (b : Bool) : V := bif c then .tup [v, .bool b] else v
def hLook (t : TypeId) (x k : Operand) (c : Bool) : Hd := fun cx e h nx => match evO e x, evO e k, mapE cx.P t with
  | some m, some k, some (d, z) => bif kindOk d k then (match m with
    | .nmap => match z with
      | some z => okV (lkV c z false) h nx
      | none => none
    | .map b => match h.get b with
      | some (.map es _) => match findE k es 0 with
        | some (some (_, v, _)) => some (lkV c v true, h, nx, some b)
        | some none => match z with
          | some z => some (lkV c z false, h, nx, some b)
          | none => none
        | none => none
      | _ => none
    | _ => none) else none
  | _, _, _ => none
def hUpd (t : TypeId) (m k x : Operand) : Hd := fun cx e h nx => match evO e m, evO e k, evO e x, mapE cx.P t with
  | some (.map b), some k, some v, some (d, _) => bif kindOk d k then (match h.get b with
    | some (.map es c) => match findE k es 0 with
      | some (some (i, _)) => some (u0, h.set b (.map (es.modify i fun p => (k, v, p.2.2)) c), nx, none)
      | some none => some (u0, h.set b (.map (es ++ [(k, v, c)]) (c + 1)), nx, none)
      | none => none
    | _ => none) else none
  | _, _, _, _ => none
def hMapEntry (t : TypeId) (m k : Operand) : Hd := fun cx e h nx => match evO e m, evO e k, mapE cx.P t with
  | some (.map b), some k, some (d, z) => bif kindOk d k then (match h.get b with
    | some (.map es c) => match findE k es 0 with
      | some (some (_, v, bn)) => some (.tup [v, .int .i64 bn], h.set b (.map es c), nx, none)
      | some none => match z with
        | some z => some (.tup [z, .int .i64 c], h.set b (.map (es ++ [(k, z, c)]) (c + 1)), nx, none)
        | none => none
      | none => none
    | _ => none) else none
  | _, _, _ => none
def hEntryStore (m st x : Operand) : Hd := fun _ e h nx => match evO e m, evO e st, evO e x with
  | some (.map b), some st, some v => match h.get b, asN st with
    | some (.map es c), some bn => match idxB bn es 0 with
      | some i => some (u0, h.set b (.map (es.modify i fun p => (p.1, v, p.2.2)) c), nx, none)
      | none => none
    | _, _ => none
  | _, _, _ => none
def hRange (t : TypeId) (x : Operand) : Hd := fun cx e h nx => match tU cx.P t, evO e x with
  | some .string, some (.str s) => okN h nx (.ptr nx 0) (.siter s 0)
  | some (.map _ _), some .nmap => okN h nx (.ptr nx 0) .niter
  | some (.map _ _), some (.map m) => match h.get m with
    | some (.map _ c) => okN h nx (.ptr nx 0) (.iter m c [] c)
    | _ => none
  | _, _ => none
def hNext (x : Operand) (isS : Bool) : Hd := fun _ e h nx => match evO e x with
  | some (.ptr b 0) => match h.get b, isS with
    | some .niter, false => okV (.tup [.bool false]) h nx
    | some (.iter m since seen last), false => match h.get m with
      | some (.map es c) => bif es.all (fun p => Nat.blt p.2.2 since && Nat.blt p.2.2 last) then (match es.filter fun p => !seen.contains p.2.2 with
        | [] => okV (.tup [.bool false]) h nx
        | [(k, v, bn)] => some (.tup [.bool true, k, v], h.set b (.iter m since (seen ++ [bn]) c), nx, none)
        | _ => none) else none
      | _ => none
    | _, _ => none
  | _ => none
def hEntry (x : Operand) : Hd := fun _ e h nx => match evO e x with
  | some (.ptr b 0) => match h.get b with
    | some (.iter m _ seen st) => match h.get m, seen.getLast? with
      | some (.map es c), some bn => bif Nat.beq c st then (match es.find? fun p => Nat.beq p.2.2 bn with
        | some (k, v, _) => okV (.tup [k, v]) h nx
        | none => none) else none
      | _, _ => none
    | _ => none
  | _ => none
def hAssert (x : Operand) (t : TypeId) (c : Bool) : Hd := fun cx e h nx => match tU cx.P t, evO e x with
  | some (.interface _), _ => none
  | some _, some (.iface t' v) => bif Nat.beq t t' then okV (bif c then .tup [v, .bool true] else v) h nx else none
  | _, _ => none
def hExt (x : Operand) (n : Nat) : Hd := fun _ e h nx => match evO e x with
  | some (.tup l) => okO (nthL l n) h nx
  | _ => none
def callB (P : Program) (orl : Nat → Option V) (b : Builtin) (ts : List TypeId) (args : List V) (h : T O) (nx : Nat) : Out := match b with
  | .len => lenV P orl ts args h nx
  | .cap => capV P ts args h nx
  | .min => mmV false args h nx
  | .max => mmV true args h nx
  | .append => match ts, args with
    | [t, tx], [x, y] => okR (appendV P t tx x y h nx)
    | _, _ => none
  | .copy => okR (copyV P ts args h nx)
  | .clear => okR (clearV P ts args h nx)
  | .delete => okR (delV P ts args h nx)
  | .unsafeSliceData => okR (usdV args h nx)
  | .unsafeString => okR (ustrV P ts args h nx)
  | _ => none
def hCallB (b : Builtin) (ts : Array TypeId) (as : Array Operand) : Hd := fun cx e h nx => match optL (evO e) as.toList with
  | some as => callB cx.P cx.orl b ts.toList as h nx
  | none => none
def hCallV (f : Operand) (as : Array Operand) : Hd := fun cx e h nx => match evO e f, optL (evO e) as.toList with
  | some (.func fn first capt), some as => okR (cx.callF fn (first ++ as) capt h nx)
  | _, _ => none
def hCall (c : Go.Call) : Hd := match c.callee with
  | .builtin b => hCallB b c.argTypes c.args
  | .value f => hCallV f c.args
  | _ => fun _ _ _ _ => none

structure Hw where
  f : Hd

/-- One operation. The last part: the block that it reads. -/
def opTab (o : Op) : Hw := match o with
  | .move x | .assign x => ⟨hMove x⟩
  | .pick c a b => ⟨hPick c a b⟩
  | .alloc t => ⟨hAlloc t⟩
  | .box t x => ⟨hBox t x⟩
  | .build t parts => ⟨hBuild t parts⟩
  | .buildSlice t len parts => ⟨hBuildS t len parts⟩
  | .load t x => ⟨hLoad t x⟩
  | .store t x y => ⟨hStore t x y⟩
  | .nilCheck x => ⟨hNil x⟩
  | .binOp op t x y _ => ⟨hBin op t x y⟩
  | .unOp op _ x => ⟨hUn op x⟩
  | .convert s d x => ⟨hConv s d x⟩
  | .makeInterface t x => ⟨hIface t x⟩
  | .makeFunc fn first capt => ⟨hMkF fn first capt⟩
  | .makeMap _ _ => ⟨hMkMap⟩
  | .makeSlice t l c => ⟨hMkS t l c⟩
  | .slice t x lo hi mx => ⟨hSlice t x lo hi mx⟩
  | .fieldAddr s x f => ⟨hFA s x f⟩
  | .field s x f => ⟨hFld s x f⟩
  | .indexAddr t x i => ⟨hIxA t x i⟩
  | .index t x i => ⟨hIx t x i⟩
  | .lookup t x k c => ⟨hLook t x k c⟩
  | .mapUpdate t m k x | .insert t m k x => ⟨hUpd t m k x⟩
  | .mapEntry t m k => ⟨hMapEntry t m k⟩
  | .entryStore _ m s x => ⟨hEntryStore m s x⟩
  | .range t x => ⟨hRange t x⟩
  | .next x isS => ⟨hNext x isS⟩
  | .entry x => ⟨hEntry x⟩
  | .typeAssert x _ t c => ⟨hAssert x t c⟩
  | .extract x n => ⟨hExt x n⟩
  | .call c => ⟨hCall c⟩
  | _ => ⟨fun _ _ _ _ => none⟩

/-- A string into bytes: it makes a block. -/
def mkCv (P : Program) (s d : TypeId) : Bool := match tU P s, tU P d with
  | some .string, some (.slice _) => true
  | _, _ => false
def bsOf (P : Program) (ops : Array Oper) : List Nat := ops.toList.filterMap fun o => match o.op with
  | .convert s d _ => bif mkCv P s d then some d else none
  | _ => none
/-- What is asked of an operation, once. -/
def opOk (P : Program) (bs : List Nat) (o : Op) : Bool := match o with
  | .convert s d _ => bs.contains d == mkCv P s d
  | .makeInterface t _ => match tU P t with
    | some (.interface _) => false
    | some _ => true
    | none => false
  | .makeFunc fn _ _ => match fn with
    | .yield _ => false
    | _ => true
  | .makeMap _ r => r.isNone
  | _ => true
def cvOk (P : Program) (ops : Array Oper) : Bool := ops.toList.all fun o => opOk P (bsOf P ops) o.op

mutual
/-- The same value. -/
def sameV : V → V → Bool
  | .bool a, v => match v with | .bool b => a == b | _ => false
  | .int k n, v => match v with | .int j m => (bif decide (k = j) then decide (n = m) else false) | _ => false
  | .str s, v => match v with | .str t => decide (s = t) | _ => false
  | .ptr b o, v => match v with | .ptr c p => Nat.beq b c && Nat.beq o p | _ => false
  | .gp b o, v => match v with | .gp c p => Nat.beq b c && Nat.beq o p | _ => false
  | .nptr, v => match v with | .nptr => true | _ => false
  | .sl b o n c g, v => match v with | .sl b' o' n' c' g' => Nat.beq b b' && (Nat.beq o o' && (Nat.beq n n' && (Nat.beq c c' && (g == g')))) | _ => false
  | .nsl, v => match v with | .nsl => true | _ => false
  | .map b, v => match v with | .map c => Nat.beq b c | _ => false
  | .nmap, v => match v with | .nmap => true | _ => false
  | .func f a b, v => match v with | .func f' a' b' => (match f, f' with | .func k, .func k' => Nat.beq k k' | _, _ => false) && (sameL a a' && sameL b b') | _ => false
  | .nfn, v => match v with | .nfn => true | _ => false
  | .iface t x, v => match v with | .iface u y => Nat.beq t u && sameV x y | _ => false
  | .nif, v => match v with | .nif => true | _ => false
  | .agg l, v => match v with | .agg m => sameL l m | _ => false
  | .tup l, v => match v with | .tup m => sameL l m | _ => false
  | .sym i, v => match v with | .sym j => Nat.beq i j | _ => false
  | .se b o n c g, v => match v with | .se b' o' n' c' g' => Nat.beq b b' && (Nat.beq o o' && (Nat.beq n n' && (Nat.beq c c' && (g == g')))) | _ => false
def sameL : List V → List V → Bool
  | [], l => match l with | [] => true | _ => false
  | a :: l, m => match m with | b :: m => sameV a b && sameL l m | [] => false
end
/-- A block that has not changed. -/
def sameO (o o' : Option O) : Bool := match o, o' with
  | some (.cells l e fz), some (.cells l' e' fz') => Nat.beq e e' && (Nat.beq fz.1 fz'.1 && (Nat.beq fz.2 fz'.2 && sameL l l'))
  | _, _ => false

/-- A region, made ready: each operation with its place, its guard's slot, and the places whose loads it need not wait for. -/
structure Pr where
  i : Nat
  hw : Hw
  dst : Option Nat
  guard : Option (Option Nat × Bool)
  /-- 0: it waits for all loads -/
  mask : Option Nat

def gdOf (ops : Array Oper) (g : Option (Nat × Bool)) : Option (Option Nat × Bool) := match g with
  | none => none
  | some (j, b) => some (match ops[j]? with | some oj => oj.dst | none => none, b)
def mkOf (ms : Option (List Nat)) (cls i : Nat) : Option Nat := match ms with
  | none => none
  | some ms => bif Nat.beq cls 2 then some (maskOf ms i) else none
def prep (ops : Array Oper) (ms : Option (List Nat)) (bs : List Nat) (i : Nat) : List Pr := match ops[i]? with
  | none => []
  | some o => [{ i := i, hw := opTab o.op, dst := o.dst,
                 guard := gdOf ops o.guard,
                 mask := mkOf ms (opCls bs o.op) i }]
def allW : Nat → Bool := fun _ => true
def prepN (P : Program) (ops : Array Oper) : List Pr := (List.range ops.size).flatMap (prep ops none (bsOf P ops))
def prepD (P : Program) (ops : Array Oper) : List Pr := (canon ops (bsOf P ops)).flatMap (prep ops (some (masks ops)) (bsOf P ops))
/-- What is asked of a function's code, once. -/
def okCode (P : Program) (N : Nat) : Code → Bool
  | .region _ ops draw => cvOk P ops && bif draw then calmB P N allW ops (bsOf P ops) (masks ops) (canon ops (bsOf P ops)) else okOps N allW ops
  | .seq a b => okCode P N a && okCode P N b
  | .cond _ a b => okCode P N a && okCode P N b
  | .block _ b => okCode P N b
  | .loop b => okCode P N b
  | .scope b => okCode P N b
  | .rangeFunc _ _ a b => okCode P N a && okCode P N b
  | _ => true

def putE (d : Option Nat) (v : V) (e : T V) : T V := match d with
  | some d => e.set d v
  | none => e

def wantV (g : Option (Option Nat × Bool)) (e : T V) : Bool := match g with
  | none => true
  | some (some d, b) => match e.get d with
    | some (.bool c) => c == b
    | _ => false
  | some (none, _) => false

def hidGo (m : Nat) : List (Nat × Option Nat) → Option (List Nat)
  | [] => some []
  | (i, n) :: rl => bif Nat.testBit m i then hidGo m rl else (match n, hidGo m rl with
    | some b, some l => some (bif l.contains b then l else b :: l)
    | _, _ => none)
def hidOf (m : Option Nat) (rl : List (Nat × Option Nat)) : Option (List Nat) := match m with
  | none => some []
  | some m => hidGo m rl

def stale (m : Option Nat) (rl : List (Nat × Option Nat)) : List (Nat × Option Nat) := match m with
  | none => rl
  | some m => rl.map fun p => bif Nat.testBit m p.1 then (p.1, none) else p

def addL (m : Option Nat) (i : Nat) (ld : Option Nat) (rl : List (Nat × Option Nat)) : List (Nat × Option Nat) := match ld with
  | some b => (i, match m with | none => some b | some _ => none) :: rl
  | none => rl

def onOp (hid : Option (List Nat)) (w : Hw) (cx : Cx) (e : T V) (h : T O) (nx : Nat) : Out := match hid with
  | none => none
  | some hid => match hid with
    | [] => w.f cx e h nx
    | hid => match w.f cx e h nx with
      | some (v, h', nx, ld) => bif hid.all (fun b => sameO (h.get b) (h'.get b)) then some (v, h', nx, ld) else none
      | none => none

def nxtOp (p : Pr) (ih : List (Nat × Option Nat) → S → Option S) (rl : List (Nat × Option Nat)) (e : T V) (r : Out) : Option S := match r with
  | some (v, h, nx, ld) => ih (addL p.mask p.i ld (stale p.mask rl)) ⟨putE p.dst v e, h, nx⟩
  | none => none
def runOps (cx : Cx) (l : List Pr) : List (Nat × Option Nat) → S → Option S :=
  List.rec (fun _ s => some s) (fun p _ ih rl s => Bool.rec (motive := fun _ => Option S) (ih rl ⟨putE p.dst u0 s.e, s.h, s.nx⟩) (nxtOp p ih rl s.e (onOp (hidOf p.mask rl) p.hw cx s.e s.h s.nx)) (wantV p.guard s.e)) l

inductive Ex where
  | normal | exit (id : Nat) | ret | goto (l : Nat)
  deriving Inhabited

def bindE : List Nat → List V → T V → T V
  | p :: ps, v :: vs, e => bindE ps vs (e.set p v)
  | _, _, e => e
def envOf (i : Nat) : List V → T V → T V
  | [], e => e
  | v :: l, e => envOf (i + 1) l (e.set i v)

def resV (P : Program) (s : S) : ResultVar → Option V
  | .tmp t => evO s.e (.tmp t)
  | .cell a t => match evO s.e (.tmp a) with
    | some (.ptr b off) => ldV (xL P t) (kn? s.h b) off
    | _ => none

abbrev Kn := FuncId → List V → T O → Nat → Option R
structure Bx where
  gl : Nat → Option (List V)
  orc : BinOp → V → V → Option V
  orl : Nat → Option V
  kn : Kn
  alt : FuncId → Option Code
  /-- functions whose code is in order -/
  ok : FuncId → Bool

abbrev Ev := Nat → Option Nat → Code → S → Option (Ex × S)

def finF (P : Program) (rs : Array ResultVar) (r : Option (Ex × S)) : R := match r with
  | some (x, s) => match x with
    | .normal | .ret => match optL (resV P s) rs.toList with
      | some [v] => some (v, s.h, s.nx)
      | some l => some (.tup l, s.h, s.nx)
      | none => none
    | _ => none
  | none => none

def bodyOf (B : Bx) (k : FuncId) (fn : Func) : Option Code := match B.alt k with
  | some c => some c
  | none => fn.body

def callBody (P : Program) (B : Bx) (self : Ev) (k : FuncId) (args : List V) (h : T O) (nx : Nat) : R := match fI P k with
  | some fn => match (bif B.ok k then bodyOf B k fn else none) with
    | some c => finF P fn.results (bif Nat.ble args.length fn.ntmps then self fn.ntmps none c ⟨envOf 0 args .lf, h, nx⟩ else none)
    | none => none
  | none => none

def pendOf : Ex → Option Code
  | .normal => none
  | .ret => some .ret
  | .exit i => some (.exit i)
  | .goto t => some (.goto t)

def endRd (l : Nat) (r : Option (Ex × S)) : R := match r with
  | some (x, s) => match s.h.get l with
    | some (.loop .busy _ N e ps as bd) => some (.bool (pendOf x).isNone, s.h.set l (.loop (if (pendOf x).isNone then .ready else .done) (pendOf x) N e ps as bd), s.nx)
    | _ => none
  | none => none

def round2 (self : Ev) (l N0 : Nat) (bd0 : Code) (r : Option (Ex × S)) : R := match r with
  | some (.normal, s) => match s.h.get l with
    | some (.loop .ready none N e ps as bd) => endRd l (self N0 (some l) bd0 { s with h := s.h.set l (.loop .busy none N e ps as bd) })
    | _ => none
  | _ => none

def callY (self : Ev) (l : Nat) (args : List V) (h : T O) (nx : Nat) : R := match h.get l with
  | some (.loop .ready none N e ps as bd) => bif Nat.beq ps.length args.length && ps.all (fun p => Nat.blt p N) then round2 self l N bd (self N (some l) as ⟨bindE ps args e, h, nx⟩) else none
  | _ => none

def callAny (P : Program) (B : Bx) (self : Ev) (f : Fn) (args capt : List V) (h : T O) (nx : Nat) : R := match f with
  | .func k => match B.kn k (args ++ capt) h nx with
    | some r => r
    | none => callBody P B self k (args ++ capt) h nx
  | .yield l => callY self l args h nx
  | _ => none

def exPend : Option Code → Option Ex
  | none => some .normal
  | some .ret => some .ret
  | some (.exit i) => some (.exit i)
  | _ => none

def endLp (l : Nat) (e : T V) (r : R) : Option (Ex × S) := match r with
  | some (_, h, nx) => match h.get l with
    | some (.loop .ready none _ _ _ _ _) => some (.normal, ⟨e, h.del l, nx⟩)
    | some (.loop .done p _ _ _ _ _) => match exPend p with
      | some x => some (x, ⟨e, h.del l, nx⟩)
      | none => none
    | _ => none
  | none => none

abbrev Hc := Program → Bx → Ev → Nat → Option Nat → S → Option (Ex × S)

def thenN (k : S → Option (Ex × S)) (r : Option (Ex × S)) : Option (Ex × S) := match r with
  | some (.normal, s) => k s
  | x => x
def blk (id : Nat) (r : Option (Ex × S)) : Option (Ex × S) := match r with
  | some (.exit i, s) => some (bif Nat.beq i id then .normal else .exit i, s)
  | x => x
def scp (r : Option (Ex × S)) : Option (Ex × S) := match r with
  | some (.goto _, _) => none
  | x => x
def cSkip : Hc := fun _ _ _ _ _ s => some (.normal, s)
def regE (s : Option S) : Option (Ex × S) := match s with
  | some s => some (.normal, s)
  | none => none
def cReg (l : Program → List Pr) : Hc := fun P B self _ _ s => regE (runOps ⟨P, B.gl, B.orc, B.orl, callAny P B self⟩ (l P) [] s)
def cSeq (a b : Code) : Hc := fun _ _ self N r s => thenN (self N r b) (self N r a s)
def cCond (c : Operand) (a b : Code) : Hc := fun _ _ self N r s => match evO s.e c with
  | some (.bool t) => self N r (bif t then a else b) s
  | _ => none
def cBlock (id : Nat) (b : Code) : Hc := fun _ _ self N r s => blk id (self N r b s)
def cLoop (b : Code) : Hc := fun _ _ self N r s => thenN (self N r (.loop b)) (self N r b s)
def cEx (x : Ex) : Hc := fun _ _ _ _ _ s => some (x, s)
def cScope (b : Code) : Hc := fun _ _ self N r s => scp (self N r b s)
def cRF (g : Operand) (ps : Array Nat) (as bd : Code) : Hc := fun P B self N r s => match r, evO s.e g with
  | none, some (.func (.func k) first capt) => endLp s.nx s.e (callBody P B self k ((first ++ [.func (.yield s.nx) [] []]) ++ capt) (s.h.set s.nx (.loop .ready none N s.e ps.toList as bd)) (s.nx + 1))
  | _, _ => none
structure Hv where
  f : Hc

def codeTab (c : Code) : Hv := match c with
  | .skip | .label _ => ⟨cSkip⟩
  | .region _ ops draw => ⟨cReg (Bool.rec (motive := fun _ => Program → List Pr) (fun P => prepN P ops) (fun P => prepD P ops) draw)⟩
  | .seq a b => ⟨cSeq a b⟩
  | .cond c a b => ⟨cCond c a b⟩
  | .block id b => ⟨cBlock id b⟩
  | .loop b => ⟨cLoop b⟩
  | .exit id => ⟨cEx (.exit id)⟩
  | .scope b => ⟨cScope b⟩
  | .goto l => ⟨cEx (.goto l)⟩
  | .ret => ⟨cEx .ret⟩
  | .rangeFunc g ps as bd => ⟨cRF g ps as bd⟩
  | _ => ⟨fun _ _ _ _ _ _ => none⟩

def evStep (P : Program) (B : Bx) (self : Ev) : Ev := fun N r c s => (codeTab c).f P B self N r s

def ev (P : Program) (B : Bx) (n : Nat) : Ev := Nat.rec (motive := fun _ => Ev) (fun _ _ _ _ => none) (fun _ ih => evStep P B ih) n

/-- Code without its deferred calls. -/
def stripD : Code → Code
  | .region id ops d => .region id (ops.map fun o => match o.op with
    | .defer _ => { o with op := .move (.const (.bool false)) }
    | _ => o) d
  | .seq a b => .seq (stripD a) (stripD b)
  | c => c

end
end Go.Proofs.Zz
