/-
  The walks of what compares two answers; of the spins' product and opposite; of numbers that are told if they are finite.
-/
import Derived.Test.YtoiomgofbohmoaaWc
import Derived.Test.YtoiomgofbohmoaaFx
set_option linter.unusedVariables false
set_option linter.unusedSimpArgs false
namespace Go.Proofs.Ytoiomgofbohmoaa
open Go.RowKit






theorem toldNumber_any (x : Nat) (w : World) : Calls Try.prog 15 #[.float .f32 x] w (RT x w) := by
  cases h : finB .f32 x
  all_goals
    go_enter Try.func15, Try.ntmps15
    go_wp2_with (first | (go_at_call 23; refine (IsFinite_any _ _).mono ?_; rintro e w' ⟨n, rfl, rfl⟩))
    go_ret2
    exact ⟨_, by simp [h, toldF], rfl⟩







end Go.Proofs.Ytoiomgofbohmoaa
