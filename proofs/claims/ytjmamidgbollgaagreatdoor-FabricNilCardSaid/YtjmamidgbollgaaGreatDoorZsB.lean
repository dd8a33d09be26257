import Derived.Test.YtjmamidgbollgaaGreatDoorZzFs
import Derived.Test.YtjmamidgbollgaaGreatDoorProg
set_option linter.all false
set_option linter.unusedVariables false
set_option linter.unusedSimpArgs false
namespace Go.Proofs.Zs
open Go Go.Proofs.Zz
noncomputable def exB : Nat → Bool := fun k => Nat.beq k 107 || Nat.beq k 204 || Nat.beq k 418
noncomputable def okB : Nat → Bool := fun k => !(Nat.beq k 107 || Nat.beq k 204) && Nat.blt k 734
/-- Code without its deferred calls. -/
noncomputable def cutD : Code → Code
  | .region id ops d => .region id (ops.toList.filter fun o => match o.op with
    | .defer _ => false
    | _ => true).toArray d
  | .seq a b => .seq (cutD a) (cutD b)
  | c => c
noncomputable def altB : Nat → Option Code := fun k => bif Nat.beq k 418 then Tryz.f418.body.map cutD else none
noncomputable def kn0 : Kn := knOr 656 fIb (knOr 411 fNe (knOr 464 (fMk 5) knNo))
noncomputable def upN (p : Nat) : Nat := bif Nat.beq (p % 2) 1 then Nat.xor (p / 2) 0x82f63b78 else p / 2
noncomputable def tab : List V := (List.range 256).map fun i => .int .u32 (.ofNat (upN (upN (upN (upN (upN (upN (upN (upN i)))))))))
noncomputable def asciiZ : List Int := (List.range 256).map fun n => bif Nat.beq n 32 || (Nat.ble 9 n && Nat.ble n 13) then 1 else 0
noncomputable def powZ : List Int := (List.range 20).map fun n => .ofNat (10 ^ n)
noncomputable def glB : Nat → Option (List V) := fun g => bif Nat.beq g 0 then some (asciiZ.map fun z => .int .u8 z) else bif Nat.beq g 3 then some (powZ.map fun z => .int .u64 z) else none
noncomputable def B0 : Bx := ⟨glB, noC, noL, kn0, altB, okB⟩
noncomputable def B1 : Bx := ⟨glB, noC, noL, knOr 477 (fTab tab 647) kn0, altB, okB⟩
/-- A run whose awake is known to say true. -/
noncomputable def B2 (aw : Nat) (orc : BinOp → V → V → Option V) (orl : Nat → Option V) : Bx := ⟨glB, orc, orl, knOr aw (fBool true) (knOr 477 (fTab tab 647) kn0), altB, okB⟩
end Go.Proofs.Zs
