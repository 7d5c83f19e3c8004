/-
  The walks of the tests of tables, spins, pendulums and tops; of the copies of the law's arguments; of the laws that compare two bools.
-/
import Derived.Test.YtoiomgofbohmoaaWb
set_option linter.unusedVariables false
set_option linter.unusedSimpArgs false
namespace Go.Proofs.Ytoiomgofbohmoaa
open Go.RowKit



theorem lengthOk_any (x : Nat) (w : World) : Calls Try.prog 13 #[.float .f32 x] w (RB (aboveB x) w) := by
  go_enter Try.func13, Try.ntmps13
  go_wp2_with (first | (go_at_call 23; refine (IsFinite_any _ _).mono ?_; rintro e w' ⟨n, rfl, rfl⟩))
  all_goals (go_ret; unfold aboveB; first | exact ⟨_, ret_bool (by simp_all), rfl⟩ | exact ⟨0, ret_bool (by simp_all), rfl⟩)




theorem keepOk_any (x : Nat) (w : World) : Calls Try.prog 20 #[.float .f32 x] w (RB (keepB x) w) := by
  go_enter Try.func20, Try.ntmps20
  go_wp2_with fail
  all_goals (go_ret; unfold keepB; first | exact ⟨_, ret_bool (by simp_all), rfl⟩ | exact ⟨0, ret_bool (by simp_all), rfl⟩)

def tableB (x0 x1 x2 x3 : Nat) : Bool := fin2 x0 x1 && shareB x2 && aboveB x3









theorem fin_of_gt {x : Nat} (h : finB .f32 x = false) : True := trivial














end Go.Proofs.Ytoiomgofbohmoaa
