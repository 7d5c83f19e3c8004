/-
  The walks of rows of balls: valid ones, and such as are apart.
-/
import Derived.Test.YtifdcoambehekaaSc
import Derived.Test.YtifdcoambehekaaCz
set_option linter.unusedVariables false
set_option linter.unusedSimpArgs false
namespace Go.Proofs.Ytifdcoambehekaa
open Go.RowKit

def inR (n lo hi : Nat) : Bool := decide (lo ≤ n) && decide (n ≤ hi)
def ballB (x y z : Nat) : Bool := finB .f32 x && finB .f32 y && aboveB z
/-- Ball number 'k' is one, and not before the last one. -/
def okBall (l : List Nat) (k : Nat) : Bool := ballB (l.getD (k * 3) 0) (l.getD (k * 3 + 1) 0) (l.getD (k * 3 + 2) 0) && (k == 0 || !ltF .f32 (l.getD (k * 3) 0) (l.getD ((k - 1) * 3) 0))
def upto (p : Nat → Bool) (n : Nat) : Bool := (List.range n).all p
theorem upto_true {p : Nat → Bool} {n : Nat} (h : ∀ j, j < n → p j = true) : upto p n = true := by unfold upto; rw [List.all_eq_true]; intro j hj; exact h j (List.mem_range.1 hj)
theorem upto_false {p : Nat → Bool} {n k : Nat} (hk : k < n) (h : p k = false) : upto p n = false := by
  unfold upto
  rw [List.all_eq_false]
  exact ⟨k, List.mem_range.2 hk, by rw [h]; decide⟩
theorem all_step {p : Nat → Bool} {k : Nat} (h : ∀ j, j < k → p j = true) (hk : p k = true) : ∀ j, j < k + 1 → p j = true := fun j hj => by
  rcases Nat.lt_succ_iff_lt_or_eq.1 hj with h1 | rfl
  · exact h j h1
  · exact hk
theorem inN_any (n lo hi : Nat) (w : World) : Calls Try.prog 54 #[.int .i64 (n : Int), .int .i64 (lo : Int), .int .i64 (hi : Int)] w fun e w' => e = .returned (.bool (inR n lo hi)) ∧ w' = w := by
  have e1 : decide ((lo : Int) ≤ (n : Int)) = decide (lo ≤ n) := by rw [decide_eq_decide]; omega
  have e2 : decide ((n : Int) ≤ (hi : Int)) = decide (n ≤ hi) := by rw [decide_eq_decide]; omega
  cases h1 : decide (lo ≤ n) <;> cases h2 : decide (n ≤ hi)
  all_goals
    rw [h1] at e1
    rw [h2] at e2
    go_enter Try.func54, Try.ntmps54
    go_wp2
    go_ret
    exact ⟨ret_bool (by unfold inR; rw [h1, h2]; first | rfl | simp), rfl⟩
def rowB (n : Nat) (l : List Nat) (z : Nat) : Bool := (inR n 2 16 && shareB z) && upto (okBall l) n





end Go.Proofs.Ytifdcoambehekaa
