/-
  The walks of what compares two answers; of the spins' product and opposite; of numbers that are told if they are finite.
-/
import Derived.Test.YtifdcoambehekaaWc
import Derived.Test.YtifdcoambehekaaFx
set_option linter.unusedVariables false
set_option linter.unusedSimpArgs false
namespace Go.Proofs.Ytifdcoambehekaa
open Go.RowKit

set_option maxRecDepth 100000 in
theorem sameFloat_any (a b : Nat) (w : World) (h : cn .f64 a = cn .f64 b) : Calls Try.prog 28 #[.float .f64 a, .float .f64 b] w (RB true w) := by
  have ea := eqF_self .f64 a
  have eb := eqF_self .f64 b
  cases hn : isN .f64 a
  · have hb : isN .f64 b = false := by rw [← isN_cn, ← h, isN_cn, hn]
    have hab : a = b := by rw [cn_of_not hn, cn_of_not hb] at h; exact h
    subst hab
    clear h eb hb
    rw [hn] at ea
    clear hn
    cases hz : eqF .f64 a 0
    all_goals
      go_enter Try.func28, Try.ntmps28
      go_wp2_with (first | (refine wpList_fbin rfl rfl rfl rfl rfl (fun r n hr => ?_)))
      go_ret
      first | exact ⟨0, ret_bool (by simp [ea]), rfl⟩ | exact ⟨_, ret_bool (gt_same (Hid.out (by assumption)) (Hid.out (by assumption))), rfl⟩
  · have hb : isN .f64 b = true := by rw [← isN_cn, ← h, isN_cn, hn]
    clear h
    rw [hn] at ea
    rw [hb] at eb
    clear hn hb
    go_enter Try.func28, Try.ntmps28
    go_wp2_with (first | (refine wpList_fbin rfl rfl rfl rfl rfl (fun r n hr => ?_)))
    go_ret
    exact ⟨0, ret_bool (by simp [ea, eb]), rfl⟩





theorem toldNumber_any (x : Nat) (w : World) : Calls Try.prog 75 #[.float .f32 x] w (RT x w) := by
  cases h : finB .f32 x
  all_goals
    go_enter Try.func75, Try.ntmps75
    go_wp2_with (first | (go_at_call 104; refine (IsFinite_any _ _).mono ?_; rintro e w' ⟨n, rfl, rfl⟩))
    go_ret2
    exact ⟨_, by simp [h, toldF], rfl⟩

theorem l05Number_any (x : Nat) (w : World) : Calls Try.prog 73 #[.float .f32 x] w (RT x w) := by
  cases h : finB .f32 x
  all_goals
    go_enter Try.func73, Try.ntmps73
    go_wp2_with (first | (go_at_call 80; refine (l01Finite_any _ _).mono ?_; rintro e w' ⟨n, rfl, rfl⟩))
    go_ret2
    exact ⟨_, by simp [h, toldF], rfl⟩






end Go.Proofs.Ytifdcoambehekaa
