/-
  The walks of the tests of tables, spins, pendulums and tops; of the copies of the law's arguments; of the laws that compare two bools.
-/
import Derived.Test.YtbmabpnolheghaaWb
set_option linter.unusedVariables false
set_option linter.unusedSimpArgs false
namespace Go.Proofs.Ytbmabpnolheghaa
open Go.RowKit

theorem l02Above_any (x : Nat) (w : World) : Calls Try.prog 161 #[.float .f32 x] w (RB (aboveB x) w) := by
  go_enter Try.func161, Try.ntmps161
  go_wp2_with (first | (go_at_call 129; refine (l01Finite_any _ _).mono ?_; rintro e w' ⟨n, rfl, rfl⟩))
  all_goals (go_ret; unfold aboveB; first | exact ⟨_, ret_bool (by simp_all), rfl⟩ | exact ⟨0, ret_bool (by simp_all), rfl⟩)


theorem lengthOk_any (x : Nat) (w : World) : Calls Try.prog 61 #[.float .f32 x] w (RB (aboveB x) w) := by
  go_enter Try.func61, Try.ntmps61
  go_wp2_with (first | (go_at_call 79; refine (IsFinite_any _ _).mono ?_; rintro e w' ⟨n, rfl, rfl⟩))
  all_goals (go_ret; unfold aboveB; first | exact ⟨_, ret_bool (by simp_all), rfl⟩ | exact ⟨0, ret_bool (by simp_all), rfl⟩)

theorem levelOk_any (x : Nat) (w : World) : Calls Try.prog 105 #[.float .f32 x] w (RB (leastB x) w) := by
  go_enter Try.func105, Try.ntmps105
  go_wp2_with (first | (go_at_call 79; refine (IsFinite_any _ _).mono ?_; rintro e w' ⟨n, rfl, rfl⟩))
  all_goals (go_ret; unfold leastB; first | exact ⟨_, ret_bool (by simp_all), rfl⟩ | exact ⟨0, ret_bool (by simp_all), rfl⟩)

theorem l06Share_any (x : Nat) (w : World) : Calls Try.prog 116 #[.float .f32 x] w (RB (shareB x) w) := by
  go_enter Try.func116, Try.ntmps116
  go_wp2_with fail
  all_goals (go_ret; unfold shareB; first | exact ⟨_, ret_bool (by simp_all), rfl⟩ | exact ⟨0, ret_bool (by simp_all), rfl⟩)

theorem shareOk_any (x : Nat) (w : World) : Calls Try.prog 63 #[.float .f32 x] w (RB (shareB x) w) := by
  go_enter Try.func63, Try.ntmps63
  go_wp2_with fail
  all_goals (go_ret; unfold shareB; first | exact ⟨_, ret_bool (by simp_all), rfl⟩ | exact ⟨0, ret_bool (by simp_all), rfl⟩)


def tableB (x0 x1 x2 x3 : Nat) : Bool := fin2 x0 x1 && shareB x2 && aboveB x3

set_option maxRecDepth 100000 in
theorem l04Spin_any (x0 x1 x2 x3 b : Nat) (w : World) (h0 : w.cell? ⟨b, 0, none⟩ = some (.float .f32 x0)) (h1 : w.cell? ⟨b, 1, none⟩ = some (.float .f32 x1)) (h2 : w.cell? ⟨b, 2, none⟩ = some (.float .f32 x2)) (h3 : w.cell? ⟨b, 3, none⟩ = some (.float .f32 x3)) : Calls Try.prog 140 #[.pointer (some ⟨b, 0, none⟩)] w (RB (spinB x0 x1 x2 x3) w) := by
  go_enter Try.func140, Try.ntmps140
  go_wp2_with (first | (go_at_call 129; refine (l01Finite_any _ _).mono ?_; rintro e w' ⟨n, rfl, rfl⟩))
  all_goals (go_ret; unfold spinB fin4; first | exact ⟨_, ret_bool (by simp_all), rfl⟩ | exact ⟨0, ret_bool (by simp_all), rfl⟩)







set_option maxRecDepth 100000 in
theorem implIsSpin_any (x0 x1 x2 x3 : Nat) (w : World) : Calls Try.prog 97 #[.agg #[.float .f32 x0, .float .f32 x1, .float .f32 x2, .float .f32 x3]] w (BB (spinB x0 x1 x2 x3) w) := by
  go_enter Try.func97, Try.ntmps97
  go_wp2_with fail
  refine (numbersSpin_any x0 x1 x2 x3 _ _ ?_ ?_ ?_ ?_).mono ?_
  all_goals (try (simp [go_sem]; done))
  rintro e w' ⟨n, rfl, rfl⟩
  go_wp2_with fail
  refine (finite4_any x0 x1 x2 x3 _ _ ?_ ?_ ?_ ?_).mono ?_
  all_goals (try (simp [go_sem]; done))
  rintro e w' ⟨n, rfl, rfl⟩
  go_wp2_with fail
  all_goals (go_ret; unfold spinB; refine ⟨ret_bool (by simp_all), ?_⟩; (repeat (first | (with_reducible exact Below.refl _ _) | (with_reducible refine Below.drewN ?_ _) | (with_reducible refine Below.drew ?_) | (with_reducible refine Below.allocS ?_ _) | ((with_reducible refine Below.setCell ?_ ?_ _); rotate_left; focus (first | omega | (simp; done) | (simp; omega))) | (with_reducible refine Below.step ?_ (by assumption)))))

theorem fin_of_gt {x : Nat} (h : finB .f32 x = false) : True := trivial



set_option maxRecDepth 100000 in
theorem toSpinX_any (x0 x1 x2 x3 : Nat) (w : World) : Calls Try.prog 39 #[.agg #[.float .f32 x0, .float .f32 x1, .float .f32 x2, .float .f32 x3]] w fun e w' => e = .returned (.agg #[.float .f32 x0, .float .f32 x1, .float .f32 x2, .float .f32 x3]) ∧ w' = ((w.alloc (.cells #[.float .f32 x0, .float .f32 x1, .float .f32 x2, .float .f32 x3] 67)).alloc (.cells #[.float .f32 x0, .float .f32 x1, .float .f32 x2, .float .f32 x3] 68)).alloc (.cells #[.float .f32 x0, .float .f32 x1, .float .f32 x2, .float .f32 x3] 68) := by
  go_enter Try.func39, Try.ntmps39
  go_wp2
  exact bodyPost_ret (v := .agg #[.float .f32 x0, .float .f32 x1, .float .f32 x2, .float .f32 x3]) (by simp [results, Try.results39, go_sem]) rfl ⟨rfl, rfl⟩

theorem toSpin_any (x0 x1 x2 x3 : Nat) (w : World) : Calls Try.prog 39 #[.agg #[.float .f32 x0, .float .f32 x1, .float .f32 x2, .float .f32 x3]] w (BV (.agg #[.float .f32 x0, .float .f32 x1, .float .f32 x2, .float .f32 x3]) w) := by
  refine (toSpinX_any x0 x1 x2 x3 w).mono ?_
  rintro e w' ⟨rfl, rfl⟩
  refine ⟨rfl, ?_⟩
  (repeat (first | (with_reducible exact Below.refl _ _) | (with_reducible refine Below.drewN ?_ _) | (with_reducible refine Below.drew ?_) | (with_reducible refine Below.allocS ?_ _) | ((with_reducible refine Below.setCell ?_ ?_ _); rotate_left; focus (first | omega | (simp; done) | (simp; omega))) | (with_reducible refine Below.step ?_ (by assumption))))


set_option maxRecDepth 100000 in
theorem toVectorX_any (x0 x1 x2 : Nat) (w : World) : Calls Try.prog 24 #[.agg #[.float .f32 x0, .float .f32 x1, .float .f32 x2]] w fun e w' => e = .returned (.agg #[.float .f32 x0, .float .f32 x1, .float .f32 x2]) ∧ w' = ((w.alloc (.cells #[.float .f32 x0, .float .f32 x1, .float .f32 x2] 36)).alloc (.cells #[.float .f32 x0, .float .f32 x1, .float .f32 x2] 38)).alloc (.cells #[.float .f32 x0, .float .f32 x1, .float .f32 x2] 38) := by
  go_enter Try.func24, Try.ntmps24
  go_wp2
  exact bodyPost_ret (v := .agg #[.float .f32 x0, .float .f32 x1, .float .f32 x2]) (by simp [results, Try.results24, go_sem]) rfl ⟨rfl, rfl⟩

theorem toVector_any (x0 x1 x2 : Nat) (w : World) : Calls Try.prog 24 #[.agg #[.float .f32 x0, .float .f32 x1, .float .f32 x2]] w (BV (.agg #[.float .f32 x0, .float .f32 x1, .float .f32 x2]) w) := by
  refine (toVectorX_any x0 x1 x2 w).mono ?_
  rintro e w' ⟨rfl, rfl⟩
  refine ⟨rfl, ?_⟩
  (repeat (first | (with_reducible exact Below.refl _ _) | (with_reducible refine Below.drewN ?_ _) | (with_reducible refine Below.drew ?_) | (with_reducible refine Below.allocS ?_ _) | ((with_reducible refine Below.setCell ?_ ?_ _); rotate_left; focus (first | omega | (simp; done) | (simp; omega))) | (with_reducible refine Below.step ?_ (by assumption))))









end Go.Proofs.Ytbmabpnolheghaa
