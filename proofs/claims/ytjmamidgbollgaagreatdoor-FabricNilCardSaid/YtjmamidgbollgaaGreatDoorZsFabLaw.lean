import Derived.Test.YtjmamidgbollgaaGreatDoorZzFs
import Derived.Test.YtjmamidgbollgaaGreatDoorZsSite
import Derived.Test.YtjmamidgbollgaaGreatDoorZsRow
import Derived.Test.YtjmamidgbollgaaGreatDoorZsAw31
import Derived.Test.YtjmamidgbollgaaGreatDoorZsFab
set_option linter.all false
set_option linter.unusedVariables false
set_option linter.unusedSimpArgs false
namespace Go.Proofs.Zs
open Go Go.Proofs.Zz

theorem fabSyms (x0 x1 x5 xd xk s4 : Value) (d k : Nat) : ∀ (Q : Program) (h1 : ∀ i, plainV (symS [x0, x1, xd, xk, s4, x5, .int .i64 d, .int .i64 k, .int .i64 (d + k : Nat)] i)) (h2 : ∀ i c, symS [x0, x1, xd, xk, s4, x5, .int .i64 d, .int .i64 k, .int .i64 (d + k : Nat)] i ≠ .bool c),
    @denL (loopI Q _ h1 h2) (fun _ => none) [.agg [.sym 0, .sym 1, .sym 5, .sym 2, .sym 3]] = some [.agg #[x0, x1, x5, xd, xk]] := by
  intro Q h1 h2
  simp only [denL, den]
  rfl

theorem fab_calls {W : World} (hgl : ∀ L : LoopOk, GLok glB (imOf W)) (x0 x1 x2 : Value) (hx : [x0, x1, x2].all isNS = true) (a a' : Option Addr) (d n k n' : Nat) :
    Calls Tryz.prog 7 #[.agg #[x0, x1, x2, .slice a d n, .slice a' k n']] W fun e W' => e = .returned (.bool true) ∧ Keeps W W' := by
  have hall : [x0, x1, .slice a d n, .slice a' k n', .slice none 0 0, x2, .int .i64 d, .int .i64 k, .int .i64 (d + k : Nat)].all isNS = true := by
    simp only [List.all_cons, List.all_nil, Bool.and_true, Bool.and_eq_true] at hx ⊢
    exact ⟨hx.1, hx.2.1, rfl, rfl, rfl, hx.2.2, rfl, rfl, rfl⟩
  have h1 := symS_plain (isNS_plain hall)
  have h2 := symS_nobool (isNS_nobool hall)
  have hd := fabSyms x0 x1 x2 (.slice a d n) (.slice a' k n') (.slice none 0 0) d k Tryz.prog h1 h2
  have fit : ∀ c, Nat.beq c 1 = decide (d > 30000) → (Nat.beq c 1 = false → Nat.beq c 2 = decide (k > 30000)) → (Nat.beq c 1 = false → Nat.beq c 2 = false → Nat.beq c 3 = decide (d + k > 30000)) → OrcFit (symS [x0, x1, .slice a d n, .slice a' k n', .slice none 0 0, x2, .int .i64 d, .int .i64 k, .int .i64 (d + k : Nat)]) c d k := fun c q1 q2 q3 =>
    ⟨⟨a, n, rfl⟩, ⟨a', n', rfl⟩, rfl, rfl, rfl, q1, q2, q3⟩
  by_cases hb1 : d > 30000
  · exact site.law h1 h2 (hgl _) (orB_ok (fit 1 (by rw [decide_eq_true hb1]; rfl) (fun h => (by cases h)) (fun h => (by cases h)))) tab_ints row_runs awake31 ZsFab1 hd
  by_cases hb2 : k > 30000
  · exact site.law h1 h2 (hgl _) (orB_ok (fit 2 (by rw [decide_eq_false hb1]; rfl) (fun _ => by rw [decide_eq_true hb2]; rfl) (fun _ h => (by cases h)))) tab_ints row_runs awake31 ZsFab2 hd
  by_cases hb3 : d + k > 30000
  · exact site.law h1 h2 (hgl _) (orB_ok (fit 3 (by rw [decide_eq_false hb1]; rfl) (fun _ => by rw [decide_eq_false hb2]; rfl) (fun _ _ => by rw [decide_eq_true hb3]; rfl))) tab_ints row_runs awake31 ZsFab3 hd
  · exact site.law h1 h2 (hgl _) (orB_ok (fit 0 (by rw [decide_eq_false hb1]; rfl) (fun _ => by rw [decide_eq_false hb2]; rfl) (fun _ _ => by rw [decide_eq_false hb3]; rfl))) tab_ints row_runs awake31 ZsFab0 hd
end Go.Proofs.Zs
