/-
  The walks of the tests of tables, spins, pendulums and tops; of the copies of the law's arguments; of the laws that compare two bools.
-/
import Derived.Test.YtondpgnfkicpjaaWb
set_option linter.unusedVariables false
set_option linter.unusedSimpArgs false
namespace Go.Proofs.Ytondpgnfkicpjaa
open Go.RowKit

theorem l02Above_any (x : Nat) (w : World) : Calls Try.prog 76 #[.float .f32 x] w (RB (aboveB x) w) := by
  go_enter Try.func76, Try.ntmps76
  go_wp2_with (first | (go_at_call 64; refine (l01Finite_any _ _).mono ?_; rintro e w' ⟨n, rfl, rfl⟩))
  all_goals (go_ret; unfold aboveB; first | exact ⟨_, ret_bool (by simp_all), rfl⟩ | exact ⟨0, ret_bool (by simp_all), rfl⟩)

theorem l02Least_any (x : Nat) (w : World) : Calls Try.prog 77 #[.float .f32 x] w (RB (leastB x) w) := by
  go_enter Try.func77, Try.ntmps77
  go_wp2_with (first | (go_at_call 64; refine (l01Finite_any _ _).mono ?_; rintro e w' ⟨n, rfl, rfl⟩))
  all_goals (go_ret; unfold leastB; first | exact ⟨_, ret_bool (by simp_all), rfl⟩ | exact ⟨0, ret_bool (by simp_all), rfl⟩)

theorem lengthOk_any (x : Nat) (w : World) : Calls Try.prog 52 #[.float .f32 x] w (RB (aboveB x) w) := by
  go_enter Try.func52, Try.ntmps52
  go_wp2_with (first | (go_at_call 74; refine (IsFinite_any _ _).mono ?_; rintro e w' ⟨n, rfl, rfl⟩))
  all_goals (go_ret; unfold aboveB; first | exact ⟨_, ret_bool (by simp_all), rfl⟩ | exact ⟨0, ret_bool (by simp_all), rfl⟩)


theorem l06Share_any (x : Nat) (w : World) : Calls Try.prog 75 #[.float .f32 x] w (RB (shareB x) w) := by
  go_enter Try.func75, Try.ntmps75
  go_wp2_with fail
  all_goals (go_ret; unfold shareB; first | exact ⟨_, ret_bool (by simp_all), rfl⟩ | exact ⟨0, ret_bool (by simp_all), rfl⟩)

theorem shareOk_any (x : Nat) (w : World) : Calls Try.prog 51 #[.float .f32 x] w (RB (shareB x) w) := by
  go_enter Try.func51, Try.ntmps51
  go_wp2_with fail
  all_goals (go_ret; unfold shareB; first | exact ⟨_, ret_bool (by simp_all), rfl⟩ | exact ⟨0, ret_bool (by simp_all), rfl⟩)

theorem keepOk_any (x : Nat) (w : World) : Calls Try.prog 66 #[.float .f32 x] w (RB (keepB x) w) := by
  go_enter Try.func66, Try.ntmps66
  go_wp2_with fail
  all_goals (go_ret; unfold keepB; first | exact ⟨_, ret_bool (by simp_all), rfl⟩ | exact ⟨0, ret_bool (by simp_all), rfl⟩)

def tableB (x0 x1 x2 x3 : Nat) : Bool := fin2 x0 x1 && shareB x2 && aboveB x3
set_option maxRecDepth 100000 in
theorem l06Table_any (x0 x1 x2 x3 b : Nat) (w : World) (h0 : w.cell? ⟨b, 0, none⟩ = some (.float .f32 x0)) (h1 : w.cell? ⟨b, 1, none⟩ = some (.float .f32 x1)) (h2 : w.cell? ⟨b, 2, none⟩ = some (.float .f32 x2)) (h3 : w.cell? ⟨b, 3, none⟩ = some (.float .f32 x3)) : Calls Try.prog 50 #[.pointer (some ⟨b, 0, none⟩)] w (RB (tableB x0 x1 x2 x3) w) := by
  go_enter Try.func50, Try.ntmps50
  go_wp2_with (first | (go_at_call 64; refine (l01Finite_any _ _).mono ?_; rintro e w' ⟨n, rfl, rfl⟩) | (go_at_call 76; refine (l02Above_any _ _).mono ?_; rintro e w' ⟨n, rfl, rfl⟩) | (go_at_call 75; refine (l06Share_any _ _).mono ?_; rintro e w' ⟨n, rfl, rfl⟩))
  all_goals (go_ret; unfold tableB fin2; first | exact ⟨_, ret_bool (by simp_all), rfl⟩ | exact ⟨0, ret_bool (by simp_all), rfl⟩)

set_option maxRecDepth 100000 in
theorem l04Spin_any (x0 x1 x2 x3 b : Nat) (w : World) (h0 : w.cell? ⟨b, 0, none⟩ = some (.float .f32 x0)) (h1 : w.cell? ⟨b, 1, none⟩ = some (.float .f32 x1)) (h2 : w.cell? ⟨b, 2, none⟩ = some (.float .f32 x2)) (h3 : w.cell? ⟨b, 3, none⟩ = some (.float .f32 x3)) : Calls Try.prog 54 #[.pointer (some ⟨b, 0, none⟩)] w (RB (spinB x0 x1 x2 x3) w) := by
  go_enter Try.func54, Try.ntmps54
  go_wp2_with (first | (go_at_call 64; refine (l01Finite_any _ _).mono ?_; rintro e w' ⟨n, rfl, rfl⟩))
  all_goals (go_ret; unfold spinB fin4; first | exact ⟨_, ret_bool (by simp_all), rfl⟩ | exact ⟨0, ret_bool (by simp_all), rfl⟩)

set_option maxRecDepth 100000 in
theorem l02Is_any (x0 x1 x2 x3 x4 b : Nat) (w : World) (h0 : w.cell? ⟨b, 0, none⟩ = some (.float .f32 x0)) (h1 : w.cell? ⟨b, 1, none⟩ = some (.float .f32 x1)) (h2 : w.cell? ⟨b, 2, none⟩ = some (.float .f32 x2)) (h3 : w.cell? ⟨b, 3, none⟩ = some (.float .f32 x3)) (h4 : w.cell? ⟨b, 4, none⟩ = some (.float .f32 x4)) : Calls Try.prog 56 #[.pointer (some ⟨b, 0, none⟩)] w (RB (pendB x0 x1 x2 x3 x4) w) := by
  go_enter Try.func56, Try.ntmps56
  go_wp2_with (first | (go_at_call 64; refine (l01Finite_any _ _).mono ?_; rintro e w' ⟨n, rfl, rfl⟩) | (go_at_call 76; refine (l02Above_any _ _).mono ?_; rintro e w' ⟨n, rfl, rfl⟩) | (go_at_call 77; refine (l02Least_any _ _).mono ?_; rintro e w' ⟨n, rfl, rfl⟩))
  all_goals (go_ret; unfold pendB; first | exact ⟨_, ret_bool (by simp_all), rfl⟩ | exact ⟨0, ret_bool (by simp_all), rfl⟩)

set_option maxRecDepth 100000 in
theorem l02Swing_any (x0 x1 x2 b : Nat) (w : World) (h0 : w.cell? ⟨b, 0, none⟩ = some (.float .f32 x0)) (h1 : w.cell? ⟨b, 1, none⟩ = some (.float .f32 x1)) (h2 : w.cell? ⟨b, 2, none⟩ = some (.float .f32 x2)) : Calls Try.prog 47 #[.pointer (some ⟨b, 0, none⟩)] w (RB (fin3 x0 x1 x2) w) := by
  go_enter Try.func47, Try.ntmps47
  go_wp2_with (first | (go_at_call 64; refine (l01Finite_any _ _).mono ?_; rintro e w' ⟨n, rfl, rfl⟩))
  all_goals (go_ret; unfold fin3; first | exact ⟨_, ret_bool (by simp_all), rfl⟩ | exact ⟨0, ret_bool (by simp_all), rfl⟩)

theorem specValidTable_any (x0 x1 x2 x3 : Nat) (w : World) : Calls Try.prog 18 #[.agg #[.float .f32 x0, .float .f32 x1, .float .f32 x2, .float .f32 x3]] w (BB (tableB x0 x1 x2 x3) w) := by
  go_enter Try.func18, Try.ntmps18
  go_wp2_with fail
  refine (l06Table_any x0 x1 x2 x3 _ _ ?_ ?_ ?_ ?_).mono ?_
  all_goals (try (simp [go_sem]; done))
  rintro e w' ⟨n, rfl, rfl⟩
  go_wp2
  go_ret
  refine ⟨rfl, ?_⟩
  (repeat (first | (with_reducible exact Below.refl _ _) | (with_reducible refine Below.drewN ?_ _) | (with_reducible refine Below.drew ?_) | (with_reducible refine Below.allocS ?_ _) | ((with_reducible refine Below.setCell ?_ ?_ _); rotate_left; focus (first | omega | (simp; done) | (simp; omega))) | (with_reducible refine Below.step ?_ (by assumption))))

theorem specIsSpin_any (x0 x1 x2 x3 : Nat) (w : World) : Calls Try.prog 25 #[.agg #[.float .f32 x0, .float .f32 x1, .float .f32 x2, .float .f32 x3]] w (BB (spinB x0 x1 x2 x3) w) := by
  go_enter Try.func25, Try.ntmps25
  go_wp2_with fail
  refine (l04Spin_any x0 x1 x2 x3 _ _ ?_ ?_ ?_ ?_).mono ?_
  all_goals (try (simp [go_sem]; done))
  rintro e w' ⟨n, rfl, rfl⟩
  go_wp2
  go_ret
  refine ⟨rfl, ?_⟩
  (repeat (first | (with_reducible exact Below.refl _ _) | (with_reducible refine Below.drewN ?_ _) | (with_reducible refine Below.drew ?_) | (with_reducible refine Below.allocS ?_ _) | ((with_reducible refine Below.setCell ?_ ?_ _); rotate_left; focus (first | omega | (simp; done) | (simp; omega))) | (with_reducible refine Below.step ?_ (by assumption))))

theorem specValidPendulum_any (x0 x1 x2 x3 x4 : Nat) (w : World) : Calls Try.prog 27 #[.agg #[.float .f32 x0, .float .f32 x1, .float .f32 x2, .float .f32 x3, .float .f32 x4]] w (BB (pendB x0 x1 x2 x3 x4) w) := by
  go_enter Try.func27, Try.ntmps27
  go_wp2_with fail
  refine (l02Is_any x0 x1 x2 x3 x4 _ _ ?_ ?_ ?_ ?_ ?_).mono ?_
  all_goals (try (simp [go_sem]; done))
  rintro e w' ⟨n, rfl, rfl⟩
  go_wp2
  go_ret
  refine ⟨rfl, ?_⟩
  (repeat (first | (with_reducible exact Below.refl _ _) | (with_reducible refine Below.drewN ?_ _) | (with_reducible refine Below.drew ?_) | (with_reducible refine Below.allocS ?_ _) | ((with_reducible refine Below.setCell ?_ ?_ _); rotate_left; focus (first | omega | (simp; done) | (simp; omega))) | (with_reducible refine Below.step ?_ (by assumption))))

set_option maxRecDepth 100000 in
theorem implValidTable_any (x0 x1 x2 x3 : Nat) (w : World) : Calls Try.prog 20 #[.agg #[.float .f32 x0, .float .f32 x1, .float .f32 x2, .float .f32 x3]] w (BB (tableB x0 x1 x2 x3) w) := by
  go_enter Try.func20, Try.ntmps20
  go_wp2_with fail
  refine (finite2_any x0 x1 _ _ ?_ ?_).mono ?_
  all_goals (try (simp [go_sem]; done))
  rintro e w' ⟨n, rfl, rfl⟩
  go_wp2_with (first | (go_at_call 51; refine (shareOk_any _ _).mono ?_; rintro e w' ⟨n, rfl, rfl⟩) | (go_at_call 52; refine (lengthOk_any _ _).mono ?_; rintro e w' ⟨n, rfl, rfl⟩))
  all_goals (go_ret; unfold tableB; refine ⟨ret_bool (by simp_all), ?_⟩; (repeat (first | (with_reducible exact Below.refl _ _) | (with_reducible refine Below.drewN ?_ _) | (with_reducible refine Below.drew ?_) | (with_reducible refine Below.allocS ?_ _) | ((with_reducible refine Below.setCell ?_ ?_ _); rotate_left; focus (first | omega | (simp; done) | (simp; omega))) | (with_reducible refine Below.step ?_ (by assumption)))))

set_option maxRecDepth 100000 in
theorem implIsSpin_any (x0 x1 x2 x3 : Nat) (w : World) : Calls Try.prog 26 #[.agg #[.float .f32 x0, .float .f32 x1, .float .f32 x2, .float .f32 x3]] w (BB (spinB x0 x1 x2 x3) w) := by
  go_enter Try.func26, Try.ntmps26
  go_wp2_with fail
  refine (numbersSpin_any x0 x1 x2 x3 _ _ ?_ ?_ ?_ ?_).mono ?_
  all_goals (try (simp [go_sem]; done))
  rintro e w' ⟨n, rfl, rfl⟩
  go_wp2_with fail
  refine (finite4_any x0 x1 x2 x3 _ _ ?_ ?_ ?_ ?_).mono ?_
  all_goals (try (simp [go_sem]; done))
  rintro e w' ⟨n, rfl, rfl⟩
  go_wp2_with fail
  all_goals (go_ret; unfold spinB; refine ⟨ret_bool (by simp_all), ?_⟩; (repeat (first | (with_reducible exact Below.refl _ _) | (with_reducible refine Below.drewN ?_ _) | (with_reducible refine Below.drew ?_) | (with_reducible refine Below.allocS ?_ _) | ((with_reducible refine Below.setCell ?_ ?_ _); rotate_left; focus (first | omega | (simp; done) | (simp; omega))) | (with_reducible refine Below.step ?_ (by assumption)))))

theorem fin_of_gt {x : Nat} (h : finB .f32 x = false) : True := trivial
set_option maxRecDepth 100000 in
theorem implValidPendulum_any (x0 x1 x2 x3 x4 : Nat) (w : World) : Calls Try.prog 29 #[.agg #[.float .f32 x0, .float .f32 x1, .float .f32 x2, .float .f32 x3, .float .f32 x4]] w (BB (pendB x0 x1 x2 x3 x4) w) := by
  have e0 : pendB x0 x1 x2 x3 x4 = (fin5 x0 x1 x2 x3 x4 && gtF .f32 x0 0 && geF .f32 x1 0 && geF .f32 x2 0) := by
    unfold pendB fin5 aboveB leastB
    cases finB .f32 x0 <;> cases finB .f32 x1 <;> cases finB .f32 x2 <;> cases finB .f32 x3 <;> cases finB .f32 x4 <;> simp
  have E := Lib.hid e0
  clear e0
  go_enter Try.func29, Try.ntmps29
  go_wp2_with fail
  refine (numbersPendulum_any x0 x1 x2 x3 x4 _ _ ?_ ?_ ?_ ?_ ?_).mono ?_
  all_goals (try (simp [go_sem]; done))
  rintro e w' ⟨n, rfl, rfl⟩
  go_wp2_with fail
  refine (finite5_any x0 x1 x2 x3 x4 _ _ ?_ ?_ ?_ ?_ ?_).mono ?_
  all_goals (try (simp [go_sem]; done))
  rintro e w' ⟨n, rfl, rfl⟩
  go_wp2_with fail
  all_goals (go_ret; rw [E.out]; refine ⟨ret_bool (by simp_all), ?_⟩; (repeat (first | (with_reducible exact Below.refl _ _) | (with_reducible refine Below.drewN ?_ _) | (with_reducible refine Below.drew ?_) | (with_reducible refine Below.allocS ?_ _) | ((with_reducible refine Below.setCell ?_ ?_ _); rotate_left; focus (first | omega | (simp; done) | (simp; omega))) | (with_reducible refine Below.step ?_ (by assumption)))))

set_option maxRecDepth 100000 in
theorem toSwingX_any (x0 x1 x2 : Nat) (w : World) : Calls Try.prog 16 #[.agg #[.float .f32 x0, .float .f32 x1, .float .f32 x2]] w fun e w' => e = .returned (.agg #[.float .f32 x0, .float .f32 x1, .float .f32 x2]) ∧ w' = ((w.alloc (.cells #[.float .f32 x0, .float .f32 x1, .float .f32 x2] 24)).alloc (.cells #[.float .f32 x0, .float .f32 x1, .float .f32 x2] 26)).alloc (.cells #[.float .f32 x0, .float .f32 x1, .float .f32 x2] 26) := by
  go_enter Try.func16, Try.ntmps16
  go_wp2
  exact bodyPost_ret (v := .agg #[.float .f32 x0, .float .f32 x1, .float .f32 x2]) (by simp [results, Try.results16, go_sem]) rfl ⟨rfl, rfl⟩

theorem toSwing_any (x0 x1 x2 : Nat) (w : World) : Calls Try.prog 16 #[.agg #[.float .f32 x0, .float .f32 x1, .float .f32 x2]] w (BV (.agg #[.float .f32 x0, .float .f32 x1, .float .f32 x2]) w) := by
  refine (toSwingX_any x0 x1 x2 w).mono ?_
  rintro e w' ⟨rfl, rfl⟩
  refine ⟨rfl, ?_⟩
  (repeat (first | (with_reducible exact Below.refl _ _) | (with_reducible refine Below.drewN ?_ _) | (with_reducible refine Below.drew ?_) | (with_reducible refine Below.allocS ?_ _) | ((with_reducible refine Below.setCell ?_ ?_ _); rotate_left; focus (first | omega | (simp; done) | (simp; omega))) | (with_reducible refine Below.step ?_ (by assumption))))

set_option maxRecDepth 100000 in
theorem toTableX_any (x0 x1 x2 x3 : Nat) (w : World) : Calls Try.prog 19 #[.agg #[.float .f32 x0, .float .f32 x1, .float .f32 x2, .float .f32 x3]] w fun e w' => e = .returned (.agg #[.float .f32 x0, .float .f32 x1, .float .f32 x2, .float .f32 x3]) ∧ w' = ((w.alloc (.cells #[.float .f32 x0, .float .f32 x1, .float .f32 x2, .float .f32 x3] 30)).alloc (.cells #[.float .f32 x0, .float .f32 x1, .float .f32 x2, .float .f32 x3] 32)).alloc (.cells #[.float .f32 x0, .float .f32 x1, .float .f32 x2, .float .f32 x3] 32) := by
  go_enter Try.func19, Try.ntmps19
  go_wp2
  exact bodyPost_ret (v := .agg #[.float .f32 x0, .float .f32 x1, .float .f32 x2, .float .f32 x3]) (by simp [results, Try.results19, go_sem]) rfl ⟨rfl, rfl⟩

theorem toTable_any (x0 x1 x2 x3 : Nat) (w : World) : Calls Try.prog 19 #[.agg #[.float .f32 x0, .float .f32 x1, .float .f32 x2, .float .f32 x3]] w (BV (.agg #[.float .f32 x0, .float .f32 x1, .float .f32 x2, .float .f32 x3]) w) := by
  refine (toTableX_any x0 x1 x2 x3 w).mono ?_
  rintro e w' ⟨rfl, rfl⟩
  refine ⟨rfl, ?_⟩
  (repeat (first | (with_reducible exact Below.refl _ _) | (with_reducible refine Below.drewN ?_ _) | (with_reducible refine Below.drew ?_) | (with_reducible refine Below.allocS ?_ _) | ((with_reducible refine Below.setCell ?_ ?_ _); rotate_left; focus (first | omega | (simp; done) | (simp; omega))) | (with_reducible refine Below.step ?_ (by assumption))))

set_option maxRecDepth 100000 in
theorem toSpinX_any (x0 x1 x2 x3 : Nat) (w : World) : Calls Try.prog 22 #[.agg #[.float .f32 x0, .float .f32 x1, .float .f32 x2, .float .f32 x3]] w fun e w' => e = .returned (.agg #[.float .f32 x0, .float .f32 x1, .float .f32 x2, .float .f32 x3]) ∧ w' = ((w.alloc (.cells #[.float .f32 x0, .float .f32 x1, .float .f32 x2, .float .f32 x3] 36)).alloc (.cells #[.float .f32 x0, .float .f32 x1, .float .f32 x2, .float .f32 x3] 37)).alloc (.cells #[.float .f32 x0, .float .f32 x1, .float .f32 x2, .float .f32 x3] 37) := by
  go_enter Try.func22, Try.ntmps22
  go_wp2
  exact bodyPost_ret (v := .agg #[.float .f32 x0, .float .f32 x1, .float .f32 x2, .float .f32 x3]) (by simp [results, Try.results22, go_sem]) rfl ⟨rfl, rfl⟩

theorem toSpin_any (x0 x1 x2 x3 : Nat) (w : World) : Calls Try.prog 22 #[.agg #[.float .f32 x0, .float .f32 x1, .float .f32 x2, .float .f32 x3]] w (BV (.agg #[.float .f32 x0, .float .f32 x1, .float .f32 x2, .float .f32 x3]) w) := by
  refine (toSpinX_any x0 x1 x2 x3 w).mono ?_
  rintro e w' ⟨rfl, rfl⟩
  refine ⟨rfl, ?_⟩
  (repeat (first | (with_reducible exact Below.refl _ _) | (with_reducible refine Below.drewN ?_ _) | (with_reducible refine Below.drew ?_) | (with_reducible refine Below.allocS ?_ _) | ((with_reducible refine Below.setCell ?_ ?_ _); rotate_left; focus (first | omega | (simp; done) | (simp; omega))) | (with_reducible refine Below.step ?_ (by assumption))))

set_option maxRecDepth 100000 in
theorem toPendulumX_any (x0 x1 x2 x3 x4 : Nat) (w : World) : Calls Try.prog 28 #[.agg #[.float .f32 x0, .float .f32 x1, .float .f32 x2, .float .f32 x3, .float .f32 x4]] w fun e w' => e = .returned (.agg #[.float .f32 x0, .float .f32 x1, .float .f32 x2, .float .f32 x3, .float .f32 x4]) ∧ w' = ((w.alloc (.cells #[.float .f32 x0, .float .f32 x1, .float .f32 x2, .float .f32 x3, .float .f32 x4] 44)).alloc (.cells #[.float .f32 x0, .float .f32 x1, .float .f32 x2, .float .f32 x3, .float .f32 x4] 46)).alloc (.cells #[.float .f32 x0, .float .f32 x1, .float .f32 x2, .float .f32 x3, .float .f32 x4] 46) := by
  go_enter Try.func28, Try.ntmps28
  go_wp2
  exact bodyPost_ret (v := .agg #[.float .f32 x0, .float .f32 x1, .float .f32 x2, .float .f32 x3, .float .f32 x4]) (by simp [results, Try.results28, go_sem]) rfl ⟨rfl, rfl⟩

theorem toPendulum_any (x0 x1 x2 x3 x4 : Nat) (w : World) : Calls Try.prog 28 #[.agg #[.float .f32 x0, .float .f32 x1, .float .f32 x2, .float .f32 x3, .float .f32 x4]] w (BV (.agg #[.float .f32 x0, .float .f32 x1, .float .f32 x2, .float .f32 x3, .float .f32 x4]) w) := by
  refine (toPendulumX_any x0 x1 x2 x3 x4 w).mono ?_
  rintro e w' ⟨rfl, rfl⟩
  refine ⟨rfl, ?_⟩
  (repeat (first | (with_reducible exact Below.refl _ _) | (with_reducible refine Below.drewN ?_ _) | (with_reducible refine Below.drew ?_) | (with_reducible refine Below.allocS ?_ _) | ((with_reducible refine Below.setCell ?_ ?_ _); rotate_left; focus (first | omega | (simp; done) | (simp; omega))) | (with_reducible refine Below.step ?_ (by assumption))))

set_option maxRecDepth 100000 in
theorem toVectorX_any (x0 x1 x2 : Nat) (w : World) : Calls Try.prog 35 #[.agg #[.float .f32 x0, .float .f32 x1, .float .f32 x2]] w fun e w' => e = .returned (.agg #[.float .f32 x0, .float .f32 x1, .float .f32 x2]) ∧ w' = ((w.alloc (.cells #[.float .f32 x0, .float .f32 x1, .float .f32 x2] 53)).alloc (.cells #[.float .f32 x0, .float .f32 x1, .float .f32 x2] 55)).alloc (.cells #[.float .f32 x0, .float .f32 x1, .float .f32 x2] 55) := by
  go_enter Try.func35, Try.ntmps35
  go_wp2
  exact bodyPost_ret (v := .agg #[.float .f32 x0, .float .f32 x1, .float .f32 x2]) (by simp [results, Try.results35, go_sem]) rfl ⟨rfl, rfl⟩

theorem toVector_any (x0 x1 x2 : Nat) (w : World) : Calls Try.prog 35 #[.agg #[.float .f32 x0, .float .f32 x1, .float .f32 x2]] w (BV (.agg #[.float .f32 x0, .float .f32 x1, .float .f32 x2]) w) := by
  refine (toVectorX_any x0 x1 x2 w).mono ?_
  rintro e w' ⟨rfl, rfl⟩
  refine ⟨rfl, ?_⟩
  (repeat (first | (with_reducible exact Below.refl _ _) | (with_reducible refine Below.drewN ?_ _) | (with_reducible refine Below.drew ?_) | (with_reducible refine Below.allocS ?_ _) | ((with_reducible refine Below.setCell ?_ ?_ _); rotate_left; focus (first | omega | (simp; done) | (simp; omega))) | (with_reducible refine Below.step ?_ (by assumption))))

set_option maxRecDepth 100000 in
theorem lawValidSwing_walk (x0 x1 x2 : Nat) (_ : x0 < 4294967296) (_ : x1 < 4294967296) (_ : x2 < 4294967296) (w : World) : Calls Try.prog 3 #[.agg #[.float .f32 x0, .float .f32 x1, .float .f32 x2]] w fun e w' => e = .returned (.bool true) ∧ Below w.heap.size w w' := by
  go_enter Try.func3, Try.ntmps3
  go_wp2_with fail
  refine (toSwing_any x0 x1 x2 _).mono ?_
  rintro e w' ⟨rfl, hb⟩
  have hb' := hb; (try simp only [World.size_drew, World.heap_drewN, World.size_alloc] at hb'); have hz' := hb.size; (try simp only [World.size_drew, World.heap_drewN, World.size_alloc] at hz'); obtain ⟨hc, hf, hs, hn, hm⟩ := bfacts hb' hz'; clear hb' hz'
  go_wp2_with fail
  refine (specValidSwing_any x0 x1 x2 _).mono ?_
  rintro e w' ⟨rfl, hb⟩
  have hb' := hb; (try simp only [World.size_drew, World.heap_drewN, World.size_alloc] at hb'); have hz' := hb.size; (try simp only [World.size_drew, World.heap_drewN, World.size_alloc] at hz'); obtain ⟨hc, hf, hs, hn, hm⟩ := bfacts hb' hz'; clear hb' hz'
  go_wp2_with fail
  refine (toSwing_any x0 x1 x2 _).mono ?_
  rintro e w' ⟨rfl, hb⟩
  have hb' := hb; (try simp only [World.size_drew, World.heap_drewN, World.size_alloc] at hb'); have hz' := hb.size; (try simp only [World.size_drew, World.heap_drewN, World.size_alloc] at hz'); obtain ⟨hc, hf, hs, hn, hm⟩ := bfacts hb' hz'; clear hb' hz'
  go_wp2_with fail
  refine (implValidSwing_any x0 x1 x2 _).mono ?_
  rintro e w' ⟨rfl, hb⟩
  have hb' := hb; (try simp only [World.size_drew, World.heap_drewN, World.size_alloc] at hb'); have hz' := hb.size; (try simp only [World.size_drew, World.heap_drewN, World.size_alloc] at hz'); obtain ⟨hc, hf, hs, hn, hm⟩ := bfacts hb' hz'; clear hb' hz'
  go_wp2
  go_ret
  refine ⟨rfl, ?_⟩
  (repeat (first | (with_reducible exact Below.refl _ _) | (with_reducible refine Below.drewN ?_ _) | (with_reducible refine Below.drew ?_) | (with_reducible refine Below.allocS ?_ _) | ((with_reducible refine Below.setCell ?_ ?_ _); rotate_left; focus (first | omega | (simp; done) | (simp; omega))) | (with_reducible refine Below.step ?_ (by assumption))))

set_option maxRecDepth 100000 in
theorem lawValidTable_walk (x0 x1 x2 x3 : Nat) (_ : x0 < 4294967296) (_ : x1 < 4294967296) (_ : x2 < 4294967296) (_ : x3 < 4294967296) (w : World) : Calls Try.prog 4 #[.agg #[.float .f32 x0, .float .f32 x1, .float .f32 x2, .float .f32 x3]] w fun e w' => e = .returned (.bool true) ∧ Below w.heap.size w w' := by
  go_enter Try.func4, Try.ntmps4
  go_wp2_with fail
  refine (toTable_any x0 x1 x2 x3 _).mono ?_
  rintro e w' ⟨rfl, hb⟩
  have hb' := hb; (try simp only [World.size_drew, World.heap_drewN, World.size_alloc] at hb'); have hz' := hb.size; (try simp only [World.size_drew, World.heap_drewN, World.size_alloc] at hz'); obtain ⟨hc, hf, hs, hn, hm⟩ := bfacts hb' hz'; clear hb' hz'
  go_wp2_with fail
  refine (specValidTable_any x0 x1 x2 x3 _).mono ?_
  rintro e w' ⟨rfl, hb⟩
  have hb' := hb; (try simp only [World.size_drew, World.heap_drewN, World.size_alloc] at hb'); have hz' := hb.size; (try simp only [World.size_drew, World.heap_drewN, World.size_alloc] at hz'); obtain ⟨hc, hf, hs, hn, hm⟩ := bfacts hb' hz'; clear hb' hz'
  go_wp2_with fail
  refine (toTable_any x0 x1 x2 x3 _).mono ?_
  rintro e w' ⟨rfl, hb⟩
  have hb' := hb; (try simp only [World.size_drew, World.heap_drewN, World.size_alloc] at hb'); have hz' := hb.size; (try simp only [World.size_drew, World.heap_drewN, World.size_alloc] at hz'); obtain ⟨hc, hf, hs, hn, hm⟩ := bfacts hb' hz'; clear hb' hz'
  go_wp2_with fail
  refine (implValidTable_any x0 x1 x2 x3 _).mono ?_
  rintro e w' ⟨rfl, hb⟩
  have hb' := hb; (try simp only [World.size_drew, World.heap_drewN, World.size_alloc] at hb'); have hz' := hb.size; (try simp only [World.size_drew, World.heap_drewN, World.size_alloc] at hz'); obtain ⟨hc, hf, hs, hn, hm⟩ := bfacts hb' hz'; clear hb' hz'
  go_wp2
  go_ret
  refine ⟨rfl, ?_⟩
  (repeat (first | (with_reducible exact Below.refl _ _) | (with_reducible refine Below.drewN ?_ _) | (with_reducible refine Below.drew ?_) | (with_reducible refine Below.allocS ?_ _) | ((with_reducible refine Below.setCell ?_ ?_ _); rotate_left; focus (first | omega | (simp; done) | (simp; omega))) | (with_reducible refine Below.step ?_ (by assumption))))

set_option maxRecDepth 100000 in
theorem lawIsSpin_walk (x0 x1 x2 x3 : Nat) (_ : x0 < 4294967296) (_ : x1 < 4294967296) (_ : x2 < 4294967296) (_ : x3 < 4294967296) (w : World) : Calls Try.prog 6 #[.agg #[.float .f32 x0, .float .f32 x1, .float .f32 x2, .float .f32 x3]] w fun e w' => e = .returned (.bool true) ∧ Below w.heap.size w w' := by
  go_enter Try.func6, Try.ntmps6
  go_wp2_with fail
  refine (toSpin_any x0 x1 x2 x3 _).mono ?_
  rintro e w' ⟨rfl, hb⟩
  have hb' := hb; (try simp only [World.size_drew, World.heap_drewN, World.size_alloc] at hb'); have hz' := hb.size; (try simp only [World.size_drew, World.heap_drewN, World.size_alloc] at hz'); obtain ⟨hc, hf, hs, hn, hm⟩ := bfacts hb' hz'; clear hb' hz'
  go_wp2_with fail
  refine (specIsSpin_any x0 x1 x2 x3 _).mono ?_
  rintro e w' ⟨rfl, hb⟩
  have hb' := hb; (try simp only [World.size_drew, World.heap_drewN, World.size_alloc] at hb'); have hz' := hb.size; (try simp only [World.size_drew, World.heap_drewN, World.size_alloc] at hz'); obtain ⟨hc, hf, hs, hn, hm⟩ := bfacts hb' hz'; clear hb' hz'
  go_wp2_with fail
  refine (toSpin_any x0 x1 x2 x3 _).mono ?_
  rintro e w' ⟨rfl, hb⟩
  have hb' := hb; (try simp only [World.size_drew, World.heap_drewN, World.size_alloc] at hb'); have hz' := hb.size; (try simp only [World.size_drew, World.heap_drewN, World.size_alloc] at hz'); obtain ⟨hc, hf, hs, hn, hm⟩ := bfacts hb' hz'; clear hb' hz'
  go_wp2_with fail
  refine (implIsSpin_any x0 x1 x2 x3 _).mono ?_
  rintro e w' ⟨rfl, hb⟩
  have hb' := hb; (try simp only [World.size_drew, World.heap_drewN, World.size_alloc] at hb'); have hz' := hb.size; (try simp only [World.size_drew, World.heap_drewN, World.size_alloc] at hz'); obtain ⟨hc, hf, hs, hn, hm⟩ := bfacts hb' hz'; clear hb' hz'
  go_wp2
  go_ret
  refine ⟨rfl, ?_⟩
  (repeat (first | (with_reducible exact Below.refl _ _) | (with_reducible refine Below.drewN ?_ _) | (with_reducible refine Below.drew ?_) | (with_reducible refine Below.allocS ?_ _) | ((with_reducible refine Below.setCell ?_ ?_ _); rotate_left; focus (first | omega | (simp; done) | (simp; omega))) | (with_reducible refine Below.step ?_ (by assumption))))

set_option maxRecDepth 100000 in
theorem lawValidPendulum_walk (x0 x1 x2 x3 x4 : Nat) (_ : x0 < 4294967296) (_ : x1 < 4294967296) (_ : x2 < 4294967296) (_ : x3 < 4294967296) (_ : x4 < 4294967296) (w : World) : Calls Try.prog 7 #[.agg #[.float .f32 x0, .float .f32 x1, .float .f32 x2, .float .f32 x3, .float .f32 x4]] w fun e w' => e = .returned (.bool true) ∧ Below w.heap.size w w' := by
  go_enter Try.func7, Try.ntmps7
  go_wp2_with fail
  refine (toPendulum_any x0 x1 x2 x3 x4 _).mono ?_
  rintro e w' ⟨rfl, hb⟩
  have hb' := hb; (try simp only [World.size_drew, World.heap_drewN, World.size_alloc] at hb'); have hz' := hb.size; (try simp only [World.size_drew, World.heap_drewN, World.size_alloc] at hz'); obtain ⟨hc, hf, hs, hn, hm⟩ := bfacts hb' hz'; clear hb' hz'
  go_wp2_with fail
  refine (specValidPendulum_any x0 x1 x2 x3 x4 _).mono ?_
  rintro e w' ⟨rfl, hb⟩
  have hb' := hb; (try simp only [World.size_drew, World.heap_drewN, World.size_alloc] at hb'); have hz' := hb.size; (try simp only [World.size_drew, World.heap_drewN, World.size_alloc] at hz'); obtain ⟨hc, hf, hs, hn, hm⟩ := bfacts hb' hz'; clear hb' hz'
  go_wp2_with fail
  refine (toPendulum_any x0 x1 x2 x3 x4 _).mono ?_
  rintro e w' ⟨rfl, hb⟩
  have hb' := hb; (try simp only [World.size_drew, World.heap_drewN, World.size_alloc] at hb'); have hz' := hb.size; (try simp only [World.size_drew, World.heap_drewN, World.size_alloc] at hz'); obtain ⟨hc, hf, hs, hn, hm⟩ := bfacts hb' hz'; clear hb' hz'
  go_wp2_with fail
  refine (implValidPendulum_any x0 x1 x2 x3 x4 _).mono ?_
  rintro e w' ⟨rfl, hb⟩
  have hb' := hb; (try simp only [World.size_drew, World.heap_drewN, World.size_alloc] at hb'); have hz' := hb.size; (try simp only [World.size_drew, World.heap_drewN, World.size_alloc] at hz'); obtain ⟨hc, hf, hs, hn, hm⟩ := bfacts hb' hz'; clear hb' hz'
  go_wp2
  go_ret
  refine ⟨rfl, ?_⟩
  (repeat (first | (with_reducible exact Below.refl _ _) | (with_reducible refine Below.drewN ?_ _) | (with_reducible refine Below.drew ?_) | (with_reducible refine Below.allocS ?_ _) | ((with_reducible refine Below.setCell ?_ ?_ _); rotate_left; focus (first | omega | (simp; done) | (simp; omega))) | (with_reducible refine Below.step ?_ (by assumption))))

set_option maxRecDepth 100000 in
theorem lawSameSwing_walk (x0 x1 x2 y0 y1 y2 : Nat) (bx0 : x0 < 4294967296) (bx1 : x1 < 4294967296) (bx2 : x2 < 4294967296) (by0 : y0 < 4294967296) (by1 : y1 < 4294967296) (by2 : y2 < 4294967296) (w : World) : Calls Try.prog 9 #[.agg #[.float .f32 x0, .float .f32 x1, .float .f32 x2], .agg #[.float .f32 y0, .float .f32 y1, .float .f32 y2]] w fun e w' => e = .returned (.bool true) ∧ Below w.heap.size w w' := by
  go_enter Try.func9, Try.ntmps9
  go_wp2_with fail
  go_region_held3 (fun w' => w'.cell? ⟨w.heap.size, 0, none⟩ = some (.float .f32 x0) ∧ w'.cell? ⟨w.heap.size, 1, none⟩ = some (.float .f32 x1) ∧ w'.cell? ⟨w.heap.size, 2, none⟩ = some (.float .f32 x2) ∧ w'.cell? ⟨w.heap.size + 1, 0, none⟩ = some (.float .f32 y0) ∧ w'.cell? ⟨w.heap.size + 1, 1, none⟩ = some (.float .f32 y1) ∧ w'.cell? ⟨w.heap.size + 1, 2, none⟩ = some (.float .f32 y2) ∧ w.heap.size < w'.heap.size ∧ w.heap.size + 1 < w'.heap.size) (simp [*, go_sem]) (first | (go_at_call 16; refine (toSwing_any _ _ _ _).mono ?_; rintro e w' ⟨rfl, hb⟩; have hb' := hb; (try simp only [World.size_drew, World.heap_drewN, World.size_alloc] at hb'); have hz' := hb.size; (try simp only [World.size_drew, World.heap_drewN, World.size_alloc] at hz'); obtain ⟨hc, hf, hs, hn, hm⟩ := bfacts hb' hz'; clear hb' hz') | (go_at_call 32; refine (specSameSwing_any _ _ _ _ _ _ _ (by assumption) (by assumption) (by assumption) (by assumption) (by assumption) (by assumption)).mono ?_; rintro e w' ⟨rfl, hb⟩; have hb' := hb; (try simp only [World.size_drew, World.heap_drewN, World.size_alloc] at hb'); have hz' := hb.size; (try simp only [World.size_drew, World.heap_drewN, World.size_alloc] at hz'); obtain ⟨hc, hf, hs, hn, hm⟩ := bfacts hb' hz'; clear hb' hz'))
  go_wp2_with fail
  obtain ⟨a0, a1, a2, a3, a4, a5, a6, a7⟩ : w'.cell? ⟨w.heap.size, 0, none⟩ = some (.float .f32 x0) ∧ w'.cell? ⟨w.heap.size, 1, none⟩ = some (.float .f32 x1) ∧ w'.cell? ⟨w.heap.size, 2, none⟩ = some (.float .f32 x2) ∧ w'.cell? ⟨w.heap.size + 1, 0, none⟩ = some (.float .f32 y0) ∧ w'.cell? ⟨w.heap.size + 1, 1, none⟩ = some (.float .f32 y1) ∧ w'.cell? ⟨w.heap.size + 1, 2, none⟩ = some (.float .f32 y2) ∧ w.heap.size < w'.heap.size ∧ w.heap.size + 1 < w'.heap.size := by assumption
  go_region_held3 (fun w' => w'.cell? ⟨w.heap.size, 0, none⟩ = some (.float .f32 x0) ∧ w'.cell? ⟨w.heap.size, 1, none⟩ = some (.float .f32 x1) ∧ w'.cell? ⟨w.heap.size, 2, none⟩ = some (.float .f32 x2) ∧ w'.cell? ⟨w.heap.size + 1, 0, none⟩ = some (.float .f32 y0) ∧ w'.cell? ⟨w.heap.size + 1, 1, none⟩ = some (.float .f32 y1) ∧ w'.cell? ⟨w.heap.size + 1, 2, none⟩ = some (.float .f32 y2) ∧ w.heap.size < w'.heap.size ∧ w.heap.size + 1 < w'.heap.size) (simp [*, go_sem]) (first | (go_at_call 16; refine (toSwing_any _ _ _ _).mono ?_; rintro e w' ⟨rfl, hb⟩; have hb' := hb; (try simp only [World.size_drew, World.heap_drewN, World.size_alloc] at hb'); have hz' := hb.size; (try simp only [World.size_drew, World.heap_drewN, World.size_alloc] at hz'); obtain ⟨hc, hf, hs, hn, hm⟩ := bfacts hb' hz'; clear hb' hz') | (go_at_call 33; refine (implSameSwing_any _ _ _ _ _ _ _).mono ?_; rintro e w' ⟨rfl, hb⟩; have hb' := hb; (try simp only [World.size_drew, World.heap_drewN, World.size_alloc] at hb'); have hz' := hb.size; (try simp only [World.size_drew, World.heap_drewN, World.size_alloc] at hz'); obtain ⟨hc, hf, hs, hn, hm⟩ := bfacts hb' hz'; clear hb' hz'))
  go_wp2
  go_ret
  refine ⟨rfl, ?_⟩
  (repeat (first | (with_reducible exact Below.refl _ _) | (with_reducible refine Below.drewN ?_ _) | (with_reducible refine Below.drew ?_) | (with_reducible refine Below.allocS ?_ _) | ((with_reducible refine Below.setCell ?_ ?_ _); rotate_left; focus (first | omega | (simp; done) | (simp; omega))) | (with_reducible refine Below.step ?_ (by assumption))))

set_option maxRecDepth 100000 in
theorem lawSameSpin_walk (x0 x1 x2 x3 y0 y1 y2 y3 : Nat) (bx0 : x0 < 4294967296) (bx1 : x1 < 4294967296) (bx2 : x2 < 4294967296) (bx3 : x3 < 4294967296) (by0 : y0 < 4294967296) (by1 : y1 < 4294967296) (by2 : y2 < 4294967296) (by3 : y3 < 4294967296) (w : World) : Calls Try.prog 8 #[.agg #[.float .f32 x0, .float .f32 x1, .float .f32 x2, .float .f32 x3], .agg #[.float .f32 y0, .float .f32 y1, .float .f32 y2, .float .f32 y3]] w fun e w' => e = .returned (.bool true) ∧ Below w.heap.size w w' := by
  go_enter Try.func8, Try.ntmps8
  go_wp2_with fail
  go_region_held3 (fun w' => w'.cell? ⟨w.heap.size, 0, none⟩ = some (.float .f32 x0) ∧ w'.cell? ⟨w.heap.size, 1, none⟩ = some (.float .f32 x1) ∧ w'.cell? ⟨w.heap.size, 2, none⟩ = some (.float .f32 x2) ∧ w'.cell? ⟨w.heap.size, 3, none⟩ = some (.float .f32 x3) ∧ w'.cell? ⟨w.heap.size + 1, 0, none⟩ = some (.float .f32 y0) ∧ w'.cell? ⟨w.heap.size + 1, 1, none⟩ = some (.float .f32 y1) ∧ w'.cell? ⟨w.heap.size + 1, 2, none⟩ = some (.float .f32 y2) ∧ w'.cell? ⟨w.heap.size + 1, 3, none⟩ = some (.float .f32 y3) ∧ w.heap.size < w'.heap.size ∧ w.heap.size + 1 < w'.heap.size) (simp [*, go_sem]) (first | (go_at_call 22; refine (toSpin_any _ _ _ _ _).mono ?_; rintro e w' ⟨rfl, hb⟩; have hb' := hb; (try simp only [World.size_drew, World.heap_drewN, World.size_alloc] at hb'); have hz' := hb.size; (try simp only [World.size_drew, World.heap_drewN, World.size_alloc] at hz'); obtain ⟨hc, hf, hs, hn, hm⟩ := bfacts hb' hz'; clear hb' hz') | (go_at_call 30; refine (specSameSpin_any _ _ _ _ _ _ _ _ _ (by assumption) (by assumption) (by assumption) (by assumption) (by assumption) (by assumption) (by assumption) (by assumption)).mono ?_; rintro e w' ⟨rfl, hb⟩; have hb' := hb; (try simp only [World.size_drew, World.heap_drewN, World.size_alloc] at hb'); have hz' := hb.size; (try simp only [World.size_drew, World.heap_drewN, World.size_alloc] at hz'); obtain ⟨hc, hf, hs, hn, hm⟩ := bfacts hb' hz'; clear hb' hz'))
  go_wp2_with fail
  obtain ⟨a0, a1, a2, a3, a4, a5, a6, a7, a8, a9⟩ : w'.cell? ⟨w.heap.size, 0, none⟩ = some (.float .f32 x0) ∧ w'.cell? ⟨w.heap.size, 1, none⟩ = some (.float .f32 x1) ∧ w'.cell? ⟨w.heap.size, 2, none⟩ = some (.float .f32 x2) ∧ w'.cell? ⟨w.heap.size, 3, none⟩ = some (.float .f32 x3) ∧ w'.cell? ⟨w.heap.size + 1, 0, none⟩ = some (.float .f32 y0) ∧ w'.cell? ⟨w.heap.size + 1, 1, none⟩ = some (.float .f32 y1) ∧ w'.cell? ⟨w.heap.size + 1, 2, none⟩ = some (.float .f32 y2) ∧ w'.cell? ⟨w.heap.size + 1, 3, none⟩ = some (.float .f32 y3) ∧ w.heap.size < w'.heap.size ∧ w.heap.size + 1 < w'.heap.size := by assumption
  go_region_held3 (fun w' => w'.cell? ⟨w.heap.size, 0, none⟩ = some (.float .f32 x0) ∧ w'.cell? ⟨w.heap.size, 1, none⟩ = some (.float .f32 x1) ∧ w'.cell? ⟨w.heap.size, 2, none⟩ = some (.float .f32 x2) ∧ w'.cell? ⟨w.heap.size, 3, none⟩ = some (.float .f32 x3) ∧ w'.cell? ⟨w.heap.size + 1, 0, none⟩ = some (.float .f32 y0) ∧ w'.cell? ⟨w.heap.size + 1, 1, none⟩ = some (.float .f32 y1) ∧ w'.cell? ⟨w.heap.size + 1, 2, none⟩ = some (.float .f32 y2) ∧ w'.cell? ⟨w.heap.size + 1, 3, none⟩ = some (.float .f32 y3) ∧ w.heap.size < w'.heap.size ∧ w.heap.size + 1 < w'.heap.size) (simp [*, go_sem]) (first | (go_at_call 22; refine (toSpin_any _ _ _ _ _).mono ?_; rintro e w' ⟨rfl, hb⟩; have hb' := hb; (try simp only [World.size_drew, World.heap_drewN, World.size_alloc] at hb'); have hz' := hb.size; (try simp only [World.size_drew, World.heap_drewN, World.size_alloc] at hz'); obtain ⟨hc, hf, hs, hn, hm⟩ := bfacts hb' hz'; clear hb' hz') | (go_at_call 31; refine (implSameSpin_any _ _ _ _ _ _ _ _ _).mono ?_; rintro e w' ⟨rfl, hb⟩; have hb' := hb; (try simp only [World.size_drew, World.heap_drewN, World.size_alloc] at hb'); have hz' := hb.size; (try simp only [World.size_drew, World.heap_drewN, World.size_alloc] at hz'); obtain ⟨hc, hf, hs, hn, hm⟩ := bfacts hb' hz'; clear hb' hz'))
  go_wp2
  go_ret
  refine ⟨rfl, ?_⟩
  (repeat (first | (with_reducible exact Below.refl _ _) | (with_reducible refine Below.drewN ?_ _) | (with_reducible refine Below.drew ?_) | (with_reducible refine Below.allocS ?_ _) | ((with_reducible refine Below.setCell ?_ ?_ _); rotate_left; focus (first | omega | (simp; done) | (simp; omega))) | (with_reducible refine Below.step ?_ (by assumption))))

set_option maxRecDepth 100000 in
theorem lawSamePendulum_walk (x0 x1 x2 x3 x4 y0 y1 y2 y3 y4 : Nat) (bx0 : x0 < 4294967296) (bx1 : x1 < 4294967296) (bx2 : x2 < 4294967296) (bx3 : x3 < 4294967296) (bx4 : x4 < 4294967296) (by0 : y0 < 4294967296) (by1 : y1 < 4294967296) (by2 : y2 < 4294967296) (by3 : y3 < 4294967296) (by4 : y4 < 4294967296) (w : World) : Calls Try.prog 11 #[.agg #[.float .f32 x0, .float .f32 x1, .float .f32 x2, .float .f32 x3, .float .f32 x4], .agg #[.float .f32 y0, .float .f32 y1, .float .f32 y2, .float .f32 y3, .float .f32 y4]] w fun e w' => e = .returned (.bool true) ∧ Below w.heap.size w w' := by
  go_enter Try.func11, Try.ntmps11
  go_wp2_with fail
  go_region_held3 (fun w' => w'.cell? ⟨w.heap.size, 0, none⟩ = some (.float .f32 x0) ∧ w'.cell? ⟨w.heap.size, 1, none⟩ = some (.float .f32 x1) ∧ w'.cell? ⟨w.heap.size, 2, none⟩ = some (.float .f32 x2) ∧ w'.cell? ⟨w.heap.size, 3, none⟩ = some (.float .f32 x3) ∧ w'.cell? ⟨w.heap.size, 4, none⟩ = some (.float .f32 x4) ∧ w'.cell? ⟨w.heap.size + 1, 0, none⟩ = some (.float .f32 y0) ∧ w'.cell? ⟨w.heap.size + 1, 1, none⟩ = some (.float .f32 y1) ∧ w'.cell? ⟨w.heap.size + 1, 2, none⟩ = some (.float .f32 y2) ∧ w'.cell? ⟨w.heap.size + 1, 3, none⟩ = some (.float .f32 y3) ∧ w'.cell? ⟨w.heap.size + 1, 4, none⟩ = some (.float .f32 y4) ∧ w.heap.size < w'.heap.size ∧ w.heap.size + 1 < w'.heap.size) (simp [*, go_sem]) (first | (go_at_call 28; refine (toPendulum_any _ _ _ _ _ _).mono ?_; rintro e w' ⟨rfl, hb⟩; have hb' := hb; (try simp only [World.size_drew, World.heap_drewN, World.size_alloc] at hb'); have hz' := hb.size; (try simp only [World.size_drew, World.heap_drewN, World.size_alloc] at hz'); obtain ⟨hc, hf, hs, hn, hm⟩ := bfacts hb' hz'; clear hb' hz') | (go_at_call 37; refine (specSamePendulum_any _ _ _ _ _ _ _ _ _ _ _ (by assumption) (by assumption) (by assumption) (by assumption) (by assumption) (by assumption) (by assumption) (by assumption) (by assumption) (by assumption)).mono ?_; rintro e w' ⟨rfl, hb⟩; have hb' := hb; (try simp only [World.size_drew, World.heap_drewN, World.size_alloc] at hb'); have hz' := hb.size; (try simp only [World.size_drew, World.heap_drewN, World.size_alloc] at hz'); obtain ⟨hc, hf, hs, hn, hm⟩ := bfacts hb' hz'; clear hb' hz'))
  go_wp2_with fail
  obtain ⟨a0, a1, a2, a3, a4, a5, a6, a7, a8, a9, a10, a11⟩ : w'.cell? ⟨w.heap.size, 0, none⟩ = some (.float .f32 x0) ∧ w'.cell? ⟨w.heap.size, 1, none⟩ = some (.float .f32 x1) ∧ w'.cell? ⟨w.heap.size, 2, none⟩ = some (.float .f32 x2) ∧ w'.cell? ⟨w.heap.size, 3, none⟩ = some (.float .f32 x3) ∧ w'.cell? ⟨w.heap.size, 4, none⟩ = some (.float .f32 x4) ∧ w'.cell? ⟨w.heap.size + 1, 0, none⟩ = some (.float .f32 y0) ∧ w'.cell? ⟨w.heap.size + 1, 1, none⟩ = some (.float .f32 y1) ∧ w'.cell? ⟨w.heap.size + 1, 2, none⟩ = some (.float .f32 y2) ∧ w'.cell? ⟨w.heap.size + 1, 3, none⟩ = some (.float .f32 y3) ∧ w'.cell? ⟨w.heap.size + 1, 4, none⟩ = some (.float .f32 y4) ∧ w.heap.size < w'.heap.size ∧ w.heap.size + 1 < w'.heap.size := by assumption
  go_region_held3 (fun w' => w'.cell? ⟨w.heap.size, 0, none⟩ = some (.float .f32 x0) ∧ w'.cell? ⟨w.heap.size, 1, none⟩ = some (.float .f32 x1) ∧ w'.cell? ⟨w.heap.size, 2, none⟩ = some (.float .f32 x2) ∧ w'.cell? ⟨w.heap.size, 3, none⟩ = some (.float .f32 x3) ∧ w'.cell? ⟨w.heap.size, 4, none⟩ = some (.float .f32 x4) ∧ w'.cell? ⟨w.heap.size + 1, 0, none⟩ = some (.float .f32 y0) ∧ w'.cell? ⟨w.heap.size + 1, 1, none⟩ = some (.float .f32 y1) ∧ w'.cell? ⟨w.heap.size + 1, 2, none⟩ = some (.float .f32 y2) ∧ w'.cell? ⟨w.heap.size + 1, 3, none⟩ = some (.float .f32 y3) ∧ w'.cell? ⟨w.heap.size + 1, 4, none⟩ = some (.float .f32 y4) ∧ w.heap.size < w'.heap.size ∧ w.heap.size + 1 < w'.heap.size) (simp [*, go_sem]) (first | (go_at_call 28; refine (toPendulum_any _ _ _ _ _ _).mono ?_; rintro e w' ⟨rfl, hb⟩; have hb' := hb; (try simp only [World.size_drew, World.heap_drewN, World.size_alloc] at hb'); have hz' := hb.size; (try simp only [World.size_drew, World.heap_drewN, World.size_alloc] at hz'); obtain ⟨hc, hf, hs, hn, hm⟩ := bfacts hb' hz'; clear hb' hz') | (go_at_call 38; refine (implSamePendulum_any _ _ _ _ _ _ _ _ _ _ _).mono ?_; rintro e w' ⟨rfl, hb⟩; have hb' := hb; (try simp only [World.size_drew, World.heap_drewN, World.size_alloc] at hb'); have hz' := hb.size; (try simp only [World.size_drew, World.heap_drewN, World.size_alloc] at hz'); obtain ⟨hc, hf, hs, hn, hm⟩ := bfacts hb' hz'; clear hb' hz'))
  go_wp2
  go_ret
  refine ⟨rfl, ?_⟩
  (repeat (first | (with_reducible exact Below.refl _ _) | (with_reducible refine Below.drewN ?_ _) | (with_reducible refine Below.drew ?_) | (with_reducible refine Below.allocS ?_ _) | ((with_reducible refine Below.setCell ?_ ?_ _); rotate_left; focus (first | omega | (simp; done) | (simp; omega))) | (with_reducible refine Below.step ?_ (by assumption))))

set_option maxRecDepth 100000 in
theorem lawSameVector_walk (x0 x1 x2 y0 y1 y2 : Nat) (bx0 : x0 < 4294967296) (bx1 : x1 < 4294967296) (bx2 : x2 < 4294967296) (by0 : y0 < 4294967296) (by1 : y1 < 4294967296) (by2 : y2 < 4294967296) (w : World) : Calls Try.prog 10 #[.agg #[.float .f32 x0, .float .f32 x1, .float .f32 x2], .agg #[.float .f32 y0, .float .f32 y1, .float .f32 y2]] w fun e w' => e = .returned (.bool true) ∧ Below w.heap.size w w' := by
  go_enter Try.func10, Try.ntmps10
  go_wp2_with fail
  go_region_held3 (fun w' => w'.cell? ⟨w.heap.size, 0, none⟩ = some (.float .f32 x0) ∧ w'.cell? ⟨w.heap.size, 1, none⟩ = some (.float .f32 x1) ∧ w'.cell? ⟨w.heap.size, 2, none⟩ = some (.float .f32 x2) ∧ w'.cell? ⟨w.heap.size + 1, 0, none⟩ = some (.float .f32 y0) ∧ w'.cell? ⟨w.heap.size + 1, 1, none⟩ = some (.float .f32 y1) ∧ w'.cell? ⟨w.heap.size + 1, 2, none⟩ = some (.float .f32 y2) ∧ w.heap.size < w'.heap.size ∧ w.heap.size + 1 < w'.heap.size) (simp [*, go_sem]) (first | (go_at_call 35; refine (toVector_any _ _ _ _).mono ?_; rintro e w' ⟨rfl, hb⟩; have hb' := hb; (try simp only [World.size_drew, World.heap_drewN, World.size_alloc] at hb'); have hz' := hb.size; (try simp only [World.size_drew, World.heap_drewN, World.size_alloc] at hz'); obtain ⟨hc, hf, hs, hn, hm⟩ := bfacts hb' hz'; clear hb' hz') | (go_at_call 34; refine (specSameVector_any _ _ _ _ _ _ _ (by assumption) (by assumption) (by assumption) (by assumption) (by assumption) (by assumption)).mono ?_; rintro e w' ⟨rfl, hb⟩; have hb' := hb; (try simp only [World.size_drew, World.heap_drewN, World.size_alloc] at hb'); have hz' := hb.size; (try simp only [World.size_drew, World.heap_drewN, World.size_alloc] at hz'); obtain ⟨hc, hf, hs, hn, hm⟩ := bfacts hb' hz'; clear hb' hz'))
  go_wp2_with fail
  obtain ⟨a0, a1, a2, a3, a4, a5, a6, a7⟩ : w'.cell? ⟨w.heap.size, 0, none⟩ = some (.float .f32 x0) ∧ w'.cell? ⟨w.heap.size, 1, none⟩ = some (.float .f32 x1) ∧ w'.cell? ⟨w.heap.size, 2, none⟩ = some (.float .f32 x2) ∧ w'.cell? ⟨w.heap.size + 1, 0, none⟩ = some (.float .f32 y0) ∧ w'.cell? ⟨w.heap.size + 1, 1, none⟩ = some (.float .f32 y1) ∧ w'.cell? ⟨w.heap.size + 1, 2, none⟩ = some (.float .f32 y2) ∧ w.heap.size < w'.heap.size ∧ w.heap.size + 1 < w'.heap.size := by assumption
  go_region_held3 (fun w' => w'.cell? ⟨w.heap.size, 0, none⟩ = some (.float .f32 x0) ∧ w'.cell? ⟨w.heap.size, 1, none⟩ = some (.float .f32 x1) ∧ w'.cell? ⟨w.heap.size, 2, none⟩ = some (.float .f32 x2) ∧ w'.cell? ⟨w.heap.size + 1, 0, none⟩ = some (.float .f32 y0) ∧ w'.cell? ⟨w.heap.size + 1, 1, none⟩ = some (.float .f32 y1) ∧ w'.cell? ⟨w.heap.size + 1, 2, none⟩ = some (.float .f32 y2) ∧ w.heap.size < w'.heap.size ∧ w.heap.size + 1 < w'.heap.size) (simp [*, go_sem]) (first | (go_at_call 35; refine (toVector_any _ _ _ _).mono ?_; rintro e w' ⟨rfl, hb⟩; have hb' := hb; (try simp only [World.size_drew, World.heap_drewN, World.size_alloc] at hb'); have hz' := hb.size; (try simp only [World.size_drew, World.heap_drewN, World.size_alloc] at hz'); obtain ⟨hc, hf, hs, hn, hm⟩ := bfacts hb' hz'; clear hb' hz') | (go_at_call 36; refine (implSameVector_any _ _ _ _ _ _ _).mono ?_; rintro e w' ⟨rfl, hb⟩; have hb' := hb; (try simp only [World.size_drew, World.heap_drewN, World.size_alloc] at hb'); have hz' := hb.size; (try simp only [World.size_drew, World.heap_drewN, World.size_alloc] at hz'); obtain ⟨hc, hf, hs, hn, hm⟩ := bfacts hb' hz'; clear hb' hz'))
  go_wp2
  go_ret
  refine ⟨rfl, ?_⟩
  (repeat (first | (with_reducible exact Below.refl _ _) | (with_reducible refine Below.drewN ?_ _) | (with_reducible refine Below.drew ?_) | (with_reducible refine Below.allocS ?_ _) | ((with_reducible refine Below.setCell ?_ ?_ _); rotate_left; focus (first | omega | (simp; done) | (simp; omega))) | (with_reducible refine Below.step ?_ (by assumption))))

end Go.Proofs.Ytondpgnfkicpjaa
