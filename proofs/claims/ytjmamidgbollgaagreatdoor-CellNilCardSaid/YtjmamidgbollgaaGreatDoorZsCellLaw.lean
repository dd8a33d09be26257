import Derived.Test.YtjmamidgbollgaaGreatDoorZzFs
import Derived.Test.YtjmamidgbollgaaGreatDoorZsSite
import Derived.Test.YtjmamidgbollgaaGreatDoorZsRow
import Derived.Test.YtjmamidgbollgaaGreatDoorZsAw28
import Derived.Test.YtjmamidgbollgaaGreatDoorZsCell
set_option linter.all false
set_option linter.unusedVariables false
set_option linter.unusedSimpArgs false
namespace Go.Proofs.Zs
open Go Go.Proofs.Zz

theorem cellSyms (x0 x1 x2 x3 x4 x5 s : Value) (d : Nat) : ∀ (Q : Program) (h1 : ∀ i, plainV (symS [x0, x1, x2, s, x3, x4, .int .i64 d, .int .i64 (0 : Nat), .int .i64 (d + 0 : Nat), x5] i)) (h2 : ∀ i c, symS [x0, x1, x2, s, x3, x4, .int .i64 d, .int .i64 (0 : Nat), .int .i64 (d + 0 : Nat), x5] i ≠ .bool c),
    @denL (loopI Q _ h1 h2) (fun _ => none) [.agg [.sym 0, .sym 1, .sym 2, .sym 4, .sym 5, .sym 9]] = some [.agg #[x0, x1, x2, x3, x4, x5]] := by
  intro Q h1 h2
  simp only [denL, den]
  rfl

theorem cell_calls {W : World} (hgl : ∀ L : LoopOk, GLok glB (imOf W)) (x0 x1 x3 x4 x5 : Value) (hx : [x0, x1, x3, x4, x5].all isNS = true) (a : Option Addr) (d n : Nat) :
    Calls Tryz.prog 3 #[.agg #[x0, x1, .slice a d n, x3, x4, x5]] W fun e W' => e = .returned (.bool true) ∧ Keeps W W' := by
  have hall : [x0, x1, .slice a d n, .slice none 0 0, x3, x4, .int .i64 d, .int .i64 (0 : Nat), .int .i64 (d + 0 : Nat), x5].all isNS = true := by
    simp only [List.all_cons, List.all_nil, Bool.and_true, Bool.and_eq_true] at hx ⊢
    exact ⟨hx.1, hx.2.1, rfl, rfl, hx.2.2.1, hx.2.2.2.1, rfl, rfl, rfl, hx.2.2.2.2⟩
  have h1 := symS_plain (isNS_plain hall)
  have h2 := symS_nobool (isNS_nobool hall)
  have hd := cellSyms x0 x1 (.slice a d n) x3 x4 x5 (.slice none 0 0) d Tryz.prog h1 h2
  have fit : ∀ c, Nat.beq c 1 = decide (d > 30000) → (Nat.beq c 1 = false → Nat.beq c 2 = decide (0 > 30000)) → (Nat.beq c 1 = false → Nat.beq c 2 = false → Nat.beq c 3 = decide (d + 0 > 30000)) → OrcFit (symS [x0, x1, .slice a d n, .slice none 0 0, x3, x4, .int .i64 d, .int .i64 (0 : Nat), .int .i64 (d + 0 : Nat), x5]) c d 0 := fun c q1 q2 q3 =>
    ⟨⟨a, n, rfl⟩, ⟨none, 0, rfl⟩, rfl, rfl, rfl, q1, q2, q3⟩
  by_cases hbig : d > 30000
  · exact site.law h1 h2 (hgl _) (orB_ok (fit 1 (by rw [decide_eq_true hbig]; rfl) (fun h => (by cases h)) (fun h => (by cases h)))) tab_ints row_runs awake28 ZsCell1 hd
  · have h0 : Nat.beq 0 3 = decide (d + 0 > 30000) := by rw [Nat.add_zero, decide_eq_false hbig]; rfl
    exact site.law h1 h2 (hgl _) (orB_ok (fit 0 (by rw [decide_eq_false hbig]; rfl) (fun _ => rfl) (fun _ _ => h0))) tab_ints row_runs awake28 ZsCell0 hd
end Go.Proofs.Zs
