/-
  The walks of the tests of tops, and of the product of two spins.
-/
import Derived.Test.YtjfmcmdhkmcpiaaWd
set_option linter.unusedVariables false
set_option linter.unusedSimpArgs false
namespace Go.Proofs.Ytjfmcmdhkmcpiaa
open Go.RowKit

def topB (x0 x1 x2 x3 x4 x5 x6 x7 x8 x9 : Nat) : Bool := aboveB x0 && aboveB x1 && aboveB x2 && spinB x3 x4 x5 x6 && fin3 x7 x8 x9

set_option maxRecDepth 100000 in
theorem l01VFinite_any (x0 x1 x2 : Nat) (w : World) : Calls Try.prog 70 #[.agg #[.float .f32 x0, .float .f32 x1, .float .f32 x2]] w (BB (fin3 x0 x1 x2) w) := by
  go_enter Try.func70, Try.ntmps70
  go_wp2_with (first | (go_at_call 56; refine (l01Finite_any _ _).mono ?_; rintro e w' ⟨n, rfl, rfl⟩))
  all_goals (go_ret; unfold fin3; refine ⟨ret_bool (by simp_all), ?_⟩; (repeat (first | (with_reducible exact Below.refl _ _) | (with_reducible refine Below.drewN ?_ _) | (with_reducible refine Below.drew ?_) | (with_reducible refine Below.allocS ?_ _) | ((with_reducible refine Below.setCell ?_ ?_ _); rotate_left; focus (first | omega | (simp; done) | (simp; omega))) | (with_reducible refine Below.step ?_ (by assumption)))))

set_option maxRecDepth 100000 in
theorem finiteVector_any (x0 x1 x2 : Nat) (w : World) : Calls Try.prog 95 #[.agg #[.float .f32 x0, .float .f32 x1, .float .f32 x2]] w (BB (fin3 x0 x1 x2) w) := by
  go_enter Try.func95, Try.ntmps95
  go_wp2_with fail
  refine (finite3_any x0 x1 x2 _ _ ?_ ?_ ?_).mono ?_
  all_goals (try (simp [go_sem]; done))
  rintro e w' ⟨n, rfl, rfl⟩
  go_wp2
  go_ret
  refine ⟨rfl, ?_⟩
  (repeat (first | (with_reducible exact Below.refl _ _) | (with_reducible refine Below.drewN ?_ _) | (with_reducible refine Below.drew ?_) | (with_reducible refine Below.allocS ?_ _) | ((with_reducible refine Below.setCell ?_ ?_ _); rotate_left; focus (first | omega | (simp; done) | (simp; omega))) | (with_reducible refine Below.step ?_ (by assumption))))





def BF4 (X0 X1 X2 X3 : Nat) (w : World) (e : Ending) (w' : World) : Prop := ∃ r0 r1 r2 r3, e = .returned (.agg #[.float .f32 r0, .float .f32 r1, .float .f32 r2, .float .f32 r3]) ∧ (cn .f32 r0 = X0 ∧ cn .f32 r1 = X1 ∧ cn .f32 r2 = X2 ∧ cn .f32 r3 = X3) ∧ Below w.heap.size w w'
def BF3 (X0 X1 X2 : Nat) (w : World) (e : Ending) (w' : World) : Prop := ∃ r0 r1 r2, e = .returned (.agg #[.float .f32 r0, .float .f32 r1, .float .f32 r2]) ∧ (cn .f32 r0 = X0 ∧ cn .f32 r1 = X1 ∧ cn .f32 r2 = X2) ∧ Below w.heap.size w w'
def mulC (x y : Nat) : Nat := fbin .mul .f32 (cn .f32 x) (cn .f32 y)


end Go.Proofs.Ytjfmcmdhkmcpiaa
