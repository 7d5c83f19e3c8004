/-
  The walks of the tests of tables, spins, pendulums and tops; of the copies of the law's arguments; of the laws that compare two bools.
-/
import Derived.Test.YtifdcoambehekaaWb
set_option linter.unusedVariables false
set_option linter.unusedSimpArgs false
namespace Go.Proofs.Ytifdcoambehekaa
open Go.RowKit




theorem levelOk_any (x : Nat) (w : World) : Calls Try.prog 99 #[.float .f32 x] w (RB (leastB x) w) := by
  go_enter Try.func99, Try.ntmps99
  go_wp2_with (first | (go_at_call 104; refine (IsFinite_any _ _).mono ?_; rintro e w' ⟨n, rfl, rfl⟩))
  all_goals (go_ret; unfold leastB; first | exact ⟨_, ret_bool (by simp_all), rfl⟩ | exact ⟨0, ret_bool (by simp_all), rfl⟩)




def tableB (x0 x1 x2 x3 : Nat) : Bool := fin2 x0 x1 && shareB x2 && aboveB x3









theorem fin_of_gt {x : Nat} (h : finB .f32 x = false) : True := trivial














end Go.Proofs.Ytifdcoambehekaa
