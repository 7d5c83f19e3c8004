/-
  The walks of the tests of tables, spins, pendulums and tops; of the copies of the law's arguments; of the laws that compare two bools.
-/
import Derived.Test.YtjfmcmdhkmcpiaaWb
set_option linter.unusedVariables false
set_option linter.unusedSimpArgs false
namespace Go.Proofs.Ytjfmcmdhkmcpiaa
open Go.RowKit

theorem l02Above_any (x : Nat) (w : World) : Calls Try.prog 103 #[.float .f32 x] w (RB (aboveB x) w) := by
  go_enter Try.func103, Try.ntmps103
  go_wp2_with (first | (go_at_call 56; refine (l01Finite_any _ _).mono ?_; rintro e w' ⟨n, rfl, rfl⟩))
  all_goals (go_ret; unfold aboveB; first | exact ⟨_, ret_bool (by simp_all), rfl⟩ | exact ⟨0, ret_bool (by simp_all), rfl⟩)

theorem l02Least_any (x : Nat) (w : World) : Calls Try.prog 104 #[.float .f32 x] w (RB (leastB x) w) := by
  go_enter Try.func104, Try.ntmps104
  go_wp2_with (first | (go_at_call 56; refine (l01Finite_any _ _).mono ?_; rintro e w' ⟨n, rfl, rfl⟩))
  all_goals (go_ret; unfold leastB; first | exact ⟨_, ret_bool (by simp_all), rfl⟩ | exact ⟨0, ret_bool (by simp_all), rfl⟩)

theorem lengthOk_any (x : Nat) (w : World) : Calls Try.prog 80 #[.float .f32 x] w (RB (aboveB x) w) := by
  go_enter Try.func80, Try.ntmps80
  go_wp2_with (first | (go_at_call 96; refine (IsFinite_any _ _).mono ?_; rintro e w' ⟨n, rfl, rfl⟩))
  all_goals (go_ret; unfold aboveB; first | exact ⟨_, ret_bool (by simp_all), rfl⟩ | exact ⟨0, ret_bool (by simp_all), rfl⟩)




theorem keepOk_any (x : Nat) (w : World) : Calls Try.prog 89 #[.float .f32 x] w (RB (keepB x) w) := by
  go_enter Try.func89, Try.ntmps89
  go_wp2_with fail
  all_goals (go_ret; unfold keepB; first | exact ⟨_, ret_bool (by simp_all), rfl⟩ | exact ⟨0, ret_bool (by simp_all), rfl⟩)

def tableB (x0 x1 x2 x3 : Nat) : Bool := fin2 x0 x1 && shareB x2 && aboveB x3

set_option maxRecDepth 100000 in
theorem l04Spin_any (x0 x1 x2 x3 b : Nat) (w : World) (h0 : w.cell? ⟨b, 0, none⟩ = some (.float .f32 x0)) (h1 : w.cell? ⟨b, 1, none⟩ = some (.float .f32 x1)) (h2 : w.cell? ⟨b, 2, none⟩ = some (.float .f32 x2)) (h3 : w.cell? ⟨b, 3, none⟩ = some (.float .f32 x3)) : Calls Try.prog 94 #[.pointer (some ⟨b, 0, none⟩)] w (RB (spinB x0 x1 x2 x3) w) := by
  go_enter Try.func94, Try.ntmps94
  go_wp2_with (first | (go_at_call 56; refine (l01Finite_any _ _).mono ?_; rintro e w' ⟨n, rfl, rfl⟩))
  all_goals (go_ret; unfold spinB fin4; first | exact ⟨_, ret_bool (by simp_all), rfl⟩ | exact ⟨0, ret_bool (by simp_all), rfl⟩)

set_option maxRecDepth 100000 in
theorem l02Is_any (x0 x1 x2 x3 x4 b : Nat) (w : World) (h0 : w.cell? ⟨b, 0, none⟩ = some (.float .f32 x0)) (h1 : w.cell? ⟨b, 1, none⟩ = some (.float .f32 x1)) (h2 : w.cell? ⟨b, 2, none⟩ = some (.float .f32 x2)) (h3 : w.cell? ⟨b, 3, none⟩ = some (.float .f32 x3)) (h4 : w.cell? ⟨b, 4, none⟩ = some (.float .f32 x4)) : Calls Try.prog 55 #[.pointer (some ⟨b, 0, none⟩)] w (RB (pendB x0 x1 x2 x3 x4) w) := by
  go_enter Try.func55, Try.ntmps55
  go_wp2_with (first | (go_at_call 56; refine (l01Finite_any _ _).mono ?_; rintro e w' ⟨n, rfl, rfl⟩) | (go_at_call 103; refine (l02Above_any _ _).mono ?_; rintro e w' ⟨n, rfl, rfl⟩) | (go_at_call 104; refine (l02Least_any _ _).mono ?_; rintro e w' ⟨n, rfl, rfl⟩))
  all_goals (go_ret; unfold pendB; first | exact ⟨_, ret_bool (by simp_all), rfl⟩ | exact ⟨0, ret_bool (by simp_all), rfl⟩)

set_option maxRecDepth 100000 in
theorem l02Swing_any (x0 x1 x2 b : Nat) (w : World) (h0 : w.cell? ⟨b, 0, none⟩ = some (.float .f32 x0)) (h1 : w.cell? ⟨b, 1, none⟩ = some (.float .f32 x1)) (h2 : w.cell? ⟨b, 2, none⟩ = some (.float .f32 x2)) : Calls Try.prog 105 #[.pointer (some ⟨b, 0, none⟩)] w (RB (fin3 x0 x1 x2) w) := by
  go_enter Try.func105, Try.ntmps105
  go_wp2_with (first | (go_at_call 56; refine (l01Finite_any _ _).mono ?_; rintro e w' ⟨n, rfl, rfl⟩))
  all_goals (go_ret; unfold fin3; first | exact ⟨_, ret_bool (by simp_all), rfl⟩ | exact ⟨0, ret_bool (by simp_all), rfl⟩)





set_option maxRecDepth 100000 in
theorem implIsSpin_any (x0 x1 x2 x3 : Nat) (w : World) : Calls Try.prog 122 #[.agg #[.float .f32 x0, .float .f32 x1, .float .f32 x2, .float .f32 x3]] w (BB (spinB x0 x1 x2 x3) w) := by
  go_enter Try.func122, Try.ntmps122
  go_wp2_with fail
  refine (numbersSpin_any x0 x1 x2 x3 _ _ ?_ ?_ ?_ ?_).mono ?_
  all_goals (try (simp [go_sem]; done))
  rintro e w' ⟨n, rfl, rfl⟩
  go_wp2_with fail
  refine (finite4_any x0 x1 x2 x3 _ _ ?_ ?_ ?_ ?_).mono ?_
  all_goals (try (simp [go_sem]; done))
  rintro e w' ⟨n, rfl, rfl⟩
  go_wp2_with fail
  all_goals (go_ret; unfold spinB; refine ⟨ret_bool (by simp_all), ?_⟩; (repeat (first | (with_reducible exact Below.refl _ _) | (with_reducible refine Below.drewN ?_ _) | (with_reducible refine Below.drew ?_) | (with_reducible refine Below.allocS ?_ _) | ((with_reducible refine Below.setCell ?_ ?_ _); rotate_left; focus (first | omega | (simp; done) | (simp; omega))) | (with_reducible refine Below.step ?_ (by assumption)))))

theorem fin_of_gt {x : Nat} (h : finB .f32 x = false) : True := trivial
set_option maxRecDepth 100000 in
theorem implValidPendulum_any (x0 x1 x2 x3 x4 : Nat) (w : World) : Calls Try.prog 71 #[.agg #[.float .f32 x0, .float .f32 x1, .float .f32 x2, .float .f32 x3, .float .f32 x4]] w (BB (pendB x0 x1 x2 x3 x4) w) := by
  have e0 : pendB x0 x1 x2 x3 x4 = (fin5 x0 x1 x2 x3 x4 && gtF .f32 x0 0 && geF .f32 x1 0 && geF .f32 x2 0) := by
    unfold pendB fin5 aboveB leastB
    cases finB .f32 x0 <;> cases finB .f32 x1 <;> cases finB .f32 x2 <;> cases finB .f32 x3 <;> cases finB .f32 x4 <;> simp
  have E := Lib.hid e0
  clear e0
  go_enter Try.func71, Try.ntmps71
  go_wp2_with fail
  refine (numbersPendulum_any x0 x1 x2 x3 x4 _ _ ?_ ?_ ?_ ?_ ?_).mono ?_
  all_goals (try (simp [go_sem]; done))
  rintro e w' ⟨n, rfl, rfl⟩
  go_wp2_with fail
  refine (finite5_any x0 x1 x2 x3 x4 _ _ ?_ ?_ ?_ ?_ ?_).mono ?_
  all_goals (try (simp [go_sem]; done))
  rintro e w' ⟨n, rfl, rfl⟩
  go_wp2_with fail
  all_goals (go_ret; rw [E.out]; refine ⟨ret_bool (by simp_all), ?_⟩; (repeat (first | (with_reducible exact Below.refl _ _) | (with_reducible refine Below.drewN ?_ _) | (with_reducible refine Below.drew ?_) | (with_reducible refine Below.allocS ?_ _) | ((with_reducible refine Below.setCell ?_ ?_ _); rotate_left; focus (first | omega | (simp; done) | (simp; omega))) | (with_reducible refine Below.step ?_ (by assumption)))))

set_option maxRecDepth 100000 in
theorem toSwingX_any (x0 x1 x2 : Nat) (w : World) : Calls Try.prog 22 #[.agg #[.float .f32 x0, .float .f32 x1, .float .f32 x2]] w fun e w' => e = .returned (.agg #[.float .f32 x0, .float .f32 x1, .float .f32 x2]) ∧ w' = ((w.alloc (.cells #[.float .f32 x0, .float .f32 x1, .float .f32 x2] 33)).alloc (.cells #[.float .f32 x0, .float .f32 x1, .float .f32 x2] 35)).alloc (.cells #[.float .f32 x0, .float .f32 x1, .float .f32 x2] 35) := by
  go_enter Try.func22, Try.ntmps22
  go_wp2
  exact bodyPost_ret (v := .agg #[.float .f32 x0, .float .f32 x1, .float .f32 x2]) (by simp [results, Try.results22, go_sem]) rfl ⟨rfl, rfl⟩

theorem toSwing_any (x0 x1 x2 : Nat) (w : World) : Calls Try.prog 22 #[.agg #[.float .f32 x0, .float .f32 x1, .float .f32 x2]] w (BV (.agg #[.float .f32 x0, .float .f32 x1, .float .f32 x2]) w) := by
  refine (toSwingX_any x0 x1 x2 w).mono ?_
  rintro e w' ⟨rfl, rfl⟩
  refine ⟨rfl, ?_⟩
  (repeat (first | (with_reducible exact Below.refl _ _) | (with_reducible refine Below.drewN ?_ _) | (with_reducible refine Below.drew ?_) | (with_reducible refine Below.allocS ?_ _) | ((with_reducible refine Below.setCell ?_ ?_ _); rotate_left; focus (first | omega | (simp; done) | (simp; omega))) | (with_reducible refine Below.step ?_ (by assumption))))



set_option maxRecDepth 100000 in
theorem toPendulumX_any (x0 x1 x2 x3 x4 : Nat) (w : World) : Calls Try.prog 16 #[.agg #[.float .f32 x0, .float .f32 x1, .float .f32 x2, .float .f32 x3, .float .f32 x4]] w fun e w' => e = .returned (.agg #[.float .f32 x0, .float .f32 x1, .float .f32 x2, .float .f32 x3, .float .f32 x4]) ∧ w' = ((w.alloc (.cells #[.float .f32 x0, .float .f32 x1, .float .f32 x2, .float .f32 x3, .float .f32 x4] 24)).alloc (.cells #[.float .f32 x0, .float .f32 x1, .float .f32 x2, .float .f32 x3, .float .f32 x4] 27)).alloc (.cells #[.float .f32 x0, .float .f32 x1, .float .f32 x2, .float .f32 x3, .float .f32 x4] 27) := by
  go_enter Try.func16, Try.ntmps16
  go_wp2
  exact bodyPost_ret (v := .agg #[.float .f32 x0, .float .f32 x1, .float .f32 x2, .float .f32 x3, .float .f32 x4]) (by simp [results, Try.results16, go_sem]) rfl ⟨rfl, rfl⟩

theorem toPendulum_any (x0 x1 x2 x3 x4 : Nat) (w : World) : Calls Try.prog 16 #[.agg #[.float .f32 x0, .float .f32 x1, .float .f32 x2, .float .f32 x3, .float .f32 x4]] w (BV (.agg #[.float .f32 x0, .float .f32 x1, .float .f32 x2, .float .f32 x3, .float .f32 x4]) w) := by
  refine (toPendulumX_any x0 x1 x2 x3 x4 w).mono ?_
  rintro e w' ⟨rfl, rfl⟩
  refine ⟨rfl, ?_⟩
  (repeat (first | (with_reducible exact Below.refl _ _) | (with_reducible refine Below.drewN ?_ _) | (with_reducible refine Below.drew ?_) | (with_reducible refine Below.allocS ?_ _) | ((with_reducible refine Below.setCell ?_ ?_ _); rotate_left; focus (first | omega | (simp; done) | (simp; omega))) | (with_reducible refine Below.step ?_ (by assumption))))

set_option maxRecDepth 100000 in
theorem toVectorX_any (x0 x1 x2 : Nat) (w : World) : Calls Try.prog 43 #[.agg #[.float .f32 x0, .float .f32 x1, .float .f32 x2]] w fun e w' => e = .returned (.agg #[.float .f32 x0, .float .f32 x1, .float .f32 x2]) ∧ w' = ((w.alloc (.cells #[.float .f32 x0, .float .f32 x1, .float .f32 x2] 58)).alloc (.cells #[.float .f32 x0, .float .f32 x1, .float .f32 x2] 39)).alloc (.cells #[.float .f32 x0, .float .f32 x1, .float .f32 x2] 39) := by
  go_enter Try.func43, Try.ntmps43
  go_wp2
  exact bodyPost_ret (v := .agg #[.float .f32 x0, .float .f32 x1, .float .f32 x2]) (by simp [results, Try.results43, go_sem]) rfl ⟨rfl, rfl⟩

theorem toVector_any (x0 x1 x2 : Nat) (w : World) : Calls Try.prog 43 #[.agg #[.float .f32 x0, .float .f32 x1, .float .f32 x2]] w (BV (.agg #[.float .f32 x0, .float .f32 x1, .float .f32 x2]) w) := by
  refine (toVectorX_any x0 x1 x2 w).mono ?_
  rintro e w' ⟨rfl, rfl⟩
  refine ⟨rfl, ?_⟩
  (repeat (first | (with_reducible exact Below.refl _ _) | (with_reducible refine Below.drewN ?_ _) | (with_reducible refine Below.drew ?_) | (with_reducible refine Below.allocS ?_ _) | ((with_reducible refine Below.setCell ?_ ?_ _); rotate_left; focus (first | omega | (simp; done) | (simp; omega))) | (with_reducible refine Below.step ?_ (by assumption))))









end Go.Proofs.Ytjfmcmdhkmcpiaa
