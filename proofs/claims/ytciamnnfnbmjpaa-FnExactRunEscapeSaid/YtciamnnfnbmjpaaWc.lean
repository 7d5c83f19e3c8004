/-
  The walks of the tests of tables, spins, pendulums and tops; of the copies of the law's arguments; of the laws that compare two bools.
-/
import Derived.Test.YtciamnnfnbmjpaaWb
set_option linter.unusedVariables false
set_option linter.unusedSimpArgs false
namespace Go.Proofs.Ytciamnnfnbmjpaa
open Go.RowKit

theorem l02Above_any (x : Nat) (w : World) : Calls Try.prog 101 #[.float .f32 x] w (RB (aboveB x) w) := by
  go_enter Try.func101, Try.ntmps101
  go_wp2_with (first | (go_at_call 64; refine (l01Finite_any _ _).mono ?_; rintro e w' ⟨n, rfl, rfl⟩))
  all_goals (go_ret; unfold aboveB; first | exact ⟨_, ret_bool (by simp_all), rfl⟩ | exact ⟨0, ret_bool (by simp_all), rfl⟩)


theorem lengthOk_any (x : Nat) (w : World) : Calls Try.prog 103 #[.float .f32 x] w (RB (aboveB x) w) := by
  go_enter Try.func103, Try.ntmps103
  go_wp2_with (first | (go_at_call 68; refine (IsFinite_any _ _).mono ?_; rintro e w' ⟨n, rfl, rfl⟩))
  all_goals (go_ret; unfold aboveB; first | exact ⟨_, ret_bool (by simp_all), rfl⟩ | exact ⟨0, ret_bool (by simp_all), rfl⟩)


theorem l06Share_any (x : Nat) (w : World) : Calls Try.prog 116 #[.float .f32 x] w (RB (shareB x) w) := by
  go_enter Try.func116, Try.ntmps116
  go_wp2_with fail
  all_goals (go_ret; unfold shareB; first | exact ⟨_, ret_bool (by simp_all), rfl⟩ | exact ⟨0, ret_bool (by simp_all), rfl⟩)

theorem shareOk_any (x : Nat) (w : World) : Calls Try.prog 117 #[.float .f32 x] w (RB (shareB x) w) := by
  go_enter Try.func117, Try.ntmps117
  go_wp2_with fail
  all_goals (go_ret; unfold shareB; first | exact ⟨_, ret_bool (by simp_all), rfl⟩ | exact ⟨0, ret_bool (by simp_all), rfl⟩)

theorem keepOk_any (x : Nat) (w : World) : Calls Try.prog 58 #[.float .f32 x] w (RB (keepB x) w) := by
  go_enter Try.func58, Try.ntmps58
  go_wp2_with fail
  all_goals (go_ret; unfold keepB; first | exact ⟨_, ret_bool (by simp_all), rfl⟩ | exact ⟨0, ret_bool (by simp_all), rfl⟩)

def tableB (x0 x1 x2 x3 : Nat) : Bool := fin2 x0 x1 && shareB x2 && aboveB x3
set_option maxRecDepth 100000 in
theorem l06Table_any (x0 x1 x2 x3 b : Nat) (w : World) (h0 : w.cell? ⟨b, 0, none⟩ = some (.float .f32 x0)) (h1 : w.cell? ⟨b, 1, none⟩ = some (.float .f32 x1)) (h2 : w.cell? ⟨b, 2, none⟩ = some (.float .f32 x2)) (h3 : w.cell? ⟨b, 3, none⟩ = some (.float .f32 x3)) : Calls Try.prog 99 #[.pointer (some ⟨b, 0, none⟩)] w (RB (tableB x0 x1 x2 x3) w) := by
  go_enter Try.func99, Try.ntmps99
  go_wp2_with (first | (go_at_call 64; refine (l01Finite_any _ _).mono ?_; rintro e w' ⟨n, rfl, rfl⟩) | (go_at_call 101; refine (l02Above_any _ _).mono ?_; rintro e w' ⟨n, rfl, rfl⟩) | (go_at_call 116; refine (l06Share_any _ _).mono ?_; rintro e w' ⟨n, rfl, rfl⟩))
  all_goals (go_ret; unfold tableB fin2; first | exact ⟨_, ret_bool (by simp_all), rfl⟩ | exact ⟨0, ret_bool (by simp_all), rfl⟩)

set_option maxRecDepth 100000 in
theorem l04Spin_any (x0 x1 x2 x3 b : Nat) (w : World) (h0 : w.cell? ⟨b, 0, none⟩ = some (.float .f32 x0)) (h1 : w.cell? ⟨b, 1, none⟩ = some (.float .f32 x1)) (h2 : w.cell? ⟨b, 2, none⟩ = some (.float .f32 x2)) (h3 : w.cell? ⟨b, 3, none⟩ = some (.float .f32 x3)) : Calls Try.prog 102 #[.pointer (some ⟨b, 0, none⟩)] w (RB (spinB x0 x1 x2 x3) w) := by
  go_enter Try.func102, Try.ntmps102
  go_wp2_with (first | (go_at_call 64; refine (l01Finite_any _ _).mono ?_; rintro e w' ⟨n, rfl, rfl⟩))
  all_goals (go_ret; unfold spinB fin4; first | exact ⟨_, ret_bool (by simp_all), rfl⟩ | exact ⟨0, ret_bool (by simp_all), rfl⟩)


set_option maxRecDepth 100000 in
theorem l02Swing_any (x0 x1 x2 b : Nat) (w : World) (h0 : w.cell? ⟨b, 0, none⟩ = some (.float .f32 x0)) (h1 : w.cell? ⟨b, 1, none⟩ = some (.float .f32 x1)) (h2 : w.cell? ⟨b, 2, none⟩ = some (.float .f32 x2)) : Calls Try.prog 52 #[.pointer (some ⟨b, 0, none⟩)] w (RB (fin3 x0 x1 x2) w) := by
  go_enter Try.func52, Try.ntmps52
  go_wp2_with (first | (go_at_call 64; refine (l01Finite_any _ _).mono ?_; rintro e w' ⟨n, rfl, rfl⟩))
  all_goals (go_ret; unfold fin3; first | exact ⟨_, ret_bool (by simp_all), rfl⟩ | exact ⟨0, ret_bool (by simp_all), rfl⟩)




set_option maxRecDepth 100000 in
theorem implValidTable_any (x0 x1 x2 x3 : Nat) (w : World) : Calls Try.prog 100 #[.agg #[.float .f32 x0, .float .f32 x1, .float .f32 x2, .float .f32 x3]] w (BB (tableB x0 x1 x2 x3) w) := by
  go_enter Try.func100, Try.ntmps100
  go_wp2_with fail
  refine (finite2_any x0 x1 _ _ ?_ ?_).mono ?_
  all_goals (try (simp [go_sem]; done))
  rintro e w' ⟨n, rfl, rfl⟩
  go_wp2_with (first | (go_at_call 117; refine (shareOk_any _ _).mono ?_; rintro e w' ⟨n, rfl, rfl⟩) | (go_at_call 103; refine (lengthOk_any _ _).mono ?_; rintro e w' ⟨n, rfl, rfl⟩))
  all_goals (go_ret; unfold tableB; refine ⟨ret_bool (by simp_all), ?_⟩; (repeat (first | (with_reducible exact Below.refl _ _) | (with_reducible refine Below.drewN ?_ _) | (with_reducible refine Below.drew ?_) | (with_reducible refine Below.allocS ?_ _) | ((with_reducible refine Below.setCell ?_ ?_ _); rotate_left; focus (first | omega | (simp; done) | (simp; omega))) | (with_reducible refine Below.step ?_ (by assumption)))))

set_option maxRecDepth 100000 in
theorem implIsSpin_any (x0 x1 x2 x3 : Nat) (w : World) : Calls Try.prog 104 #[.agg #[.float .f32 x0, .float .f32 x1, .float .f32 x2, .float .f32 x3]] w (BB (spinB x0 x1 x2 x3) w) := by
  go_enter Try.func104, Try.ntmps104
  go_wp2_with fail
  refine (numbersSpin_any x0 x1 x2 x3 _ _ ?_ ?_ ?_ ?_).mono ?_
  all_goals (try (simp [go_sem]; done))
  rintro e w' ⟨n, rfl, rfl⟩
  go_wp2_with fail
  refine (finite4_any x0 x1 x2 x3 _ _ ?_ ?_ ?_ ?_).mono ?_
  all_goals (try (simp [go_sem]; done))
  rintro e w' ⟨n, rfl, rfl⟩
  go_wp2_with fail
  all_goals (go_ret; unfold spinB; refine ⟨ret_bool (by simp_all), ?_⟩; (repeat (first | (with_reducible exact Below.refl _ _) | (with_reducible refine Below.drewN ?_ _) | (with_reducible refine Below.drew ?_) | (with_reducible refine Below.allocS ?_ _) | ((with_reducible refine Below.setCell ?_ ?_ _); rotate_left; focus (first | omega | (simp; done) | (simp; omega))) | (with_reducible refine Below.step ?_ (by assumption)))))

theorem fin_of_gt {x : Nat} (h : finB .f32 x = false) : True := trivial

set_option maxRecDepth 100000 in
theorem toSwingX_any (x0 x1 x2 : Nat) (w : World) : Calls Try.prog 16 #[.agg #[.float .f32 x0, .float .f32 x1, .float .f32 x2]] w fun e w' => e = .returned (.agg #[.float .f32 x0, .float .f32 x1, .float .f32 x2]) ∧ w' = ((w.alloc (.cells #[.float .f32 x0, .float .f32 x1, .float .f32 x2] 24)).alloc (.cells #[.float .f32 x0, .float .f32 x1, .float .f32 x2] 25)).alloc (.cells #[.float .f32 x0, .float .f32 x1, .float .f32 x2] 25) := by
  go_enter Try.func16, Try.ntmps16
  go_wp2
  exact bodyPost_ret (v := .agg #[.float .f32 x0, .float .f32 x1, .float .f32 x2]) (by simp [results, Try.results16, go_sem]) rfl ⟨rfl, rfl⟩

theorem toSwing_any (x0 x1 x2 : Nat) (w : World) : Calls Try.prog 16 #[.agg #[.float .f32 x0, .float .f32 x1, .float .f32 x2]] w (BV (.agg #[.float .f32 x0, .float .f32 x1, .float .f32 x2]) w) := by
  refine (toSwingX_any x0 x1 x2 w).mono ?_
  rintro e w' ⟨rfl, rfl⟩
  refine ⟨rfl, ?_⟩
  (repeat (first | (with_reducible exact Below.refl _ _) | (with_reducible refine Below.drewN ?_ _) | (with_reducible refine Below.drew ?_) | (with_reducible refine Below.allocS ?_ _) | ((with_reducible refine Below.setCell ?_ ?_ _); rotate_left; focus (first | omega | (simp; done) | (simp; omega))) | (with_reducible refine Below.step ?_ (by assumption))))

set_option maxRecDepth 100000 in
theorem toTableX_any (x0 x1 x2 x3 : Nat) (w : World) : Calls Try.prog 26 #[.agg #[.float .f32 x0, .float .f32 x1, .float .f32 x2, .float .f32 x3]] w fun e w' => e = .returned (.agg #[.float .f32 x0, .float .f32 x1, .float .f32 x2, .float .f32 x3]) ∧ w' = ((w.alloc (.cells #[.float .f32 x0, .float .f32 x1, .float .f32 x2, .float .f32 x3] 50)).alloc (.cells #[.float .f32 x0, .float .f32 x1, .float .f32 x2, .float .f32 x3] 56)).alloc (.cells #[.float .f32 x0, .float .f32 x1, .float .f32 x2, .float .f32 x3] 56) := by
  go_enter Try.func26, Try.ntmps26
  go_wp2
  exact bodyPost_ret (v := .agg #[.float .f32 x0, .float .f32 x1, .float .f32 x2, .float .f32 x3]) (by simp [results, Try.results26, go_sem]) rfl ⟨rfl, rfl⟩

theorem toTable_any (x0 x1 x2 x3 : Nat) (w : World) : Calls Try.prog 26 #[.agg #[.float .f32 x0, .float .f32 x1, .float .f32 x2, .float .f32 x3]] w (BV (.agg #[.float .f32 x0, .float .f32 x1, .float .f32 x2, .float .f32 x3]) w) := by
  refine (toTableX_any x0 x1 x2 x3 w).mono ?_
  rintro e w' ⟨rfl, rfl⟩
  refine ⟨rfl, ?_⟩
  (repeat (first | (with_reducible exact Below.refl _ _) | (with_reducible refine Below.drewN ?_ _) | (with_reducible refine Below.drew ?_) | (with_reducible refine Below.allocS ?_ _) | ((with_reducible refine Below.setCell ?_ ?_ _); rotate_left; focus (first | omega | (simp; done) | (simp; omega))) | (with_reducible refine Below.step ?_ (by assumption))))

set_option maxRecDepth 100000 in
theorem toSpinX_any (x0 x1 x2 x3 : Nat) (w : World) : Calls Try.prog 33 #[.agg #[.float .f32 x0, .float .f32 x1, .float .f32 x2, .float .f32 x3]] w fun e w' => e = .returned (.agg #[.float .f32 x0, .float .f32 x1, .float .f32 x2, .float .f32 x3]) ∧ w' = ((w.alloc (.cells #[.float .f32 x0, .float .f32 x1, .float .f32 x2, .float .f32 x3] 39)).alloc (.cells #[.float .f32 x0, .float .f32 x1, .float .f32 x2, .float .f32 x3] 44)).alloc (.cells #[.float .f32 x0, .float .f32 x1, .float .f32 x2, .float .f32 x3] 44) := by
  go_enter Try.func33, Try.ntmps33
  go_wp2
  exact bodyPost_ret (v := .agg #[.float .f32 x0, .float .f32 x1, .float .f32 x2, .float .f32 x3]) (by simp [results, Try.results33, go_sem]) rfl ⟨rfl, rfl⟩

theorem toSpin_any (x0 x1 x2 x3 : Nat) (w : World) : Calls Try.prog 33 #[.agg #[.float .f32 x0, .float .f32 x1, .float .f32 x2, .float .f32 x3]] w (BV (.agg #[.float .f32 x0, .float .f32 x1, .float .f32 x2, .float .f32 x3]) w) := by
  refine (toSpinX_any x0 x1 x2 x3 w).mono ?_
  rintro e w' ⟨rfl, rfl⟩
  refine ⟨rfl, ?_⟩
  (repeat (first | (with_reducible exact Below.refl _ _) | (with_reducible refine Below.drewN ?_ _) | (with_reducible refine Below.drew ?_) | (with_reducible refine Below.allocS ?_ _) | ((with_reducible refine Below.setCell ?_ ?_ _); rotate_left; focus (first | omega | (simp; done) | (simp; omega))) | (with_reducible refine Below.step ?_ (by assumption))))


set_option maxRecDepth 100000 in
theorem toVectorX_any (x0 x1 x2 : Nat) (w : World) : Calls Try.prog 48 #[.agg #[.float .f32 x0, .float .f32 x1, .float .f32 x2]] w fun e w' => e = .returned (.agg #[.float .f32 x0, .float .f32 x1, .float .f32 x2]) ∧ w' = ((w.alloc (.cells #[.float .f32 x0, .float .f32 x1, .float .f32 x2] 37)).alloc (.cells #[.float .f32 x0, .float .f32 x1, .float .f32 x2] 43)).alloc (.cells #[.float .f32 x0, .float .f32 x1, .float .f32 x2] 43) := by
  go_enter Try.func48, Try.ntmps48
  go_wp2
  exact bodyPost_ret (v := .agg #[.float .f32 x0, .float .f32 x1, .float .f32 x2]) (by simp [results, Try.results48, go_sem]) rfl ⟨rfl, rfl⟩

theorem toVector_any (x0 x1 x2 : Nat) (w : World) : Calls Try.prog 48 #[.agg #[.float .f32 x0, .float .f32 x1, .float .f32 x2]] w (BV (.agg #[.float .f32 x0, .float .f32 x1, .float .f32 x2]) w) := by
  refine (toVectorX_any x0 x1 x2 w).mono ?_
  rintro e w' ⟨rfl, rfl⟩
  refine ⟨rfl, ?_⟩
  (repeat (first | (with_reducible exact Below.refl _ _) | (with_reducible refine Below.drewN ?_ _) | (with_reducible refine Below.drew ?_) | (with_reducible refine Below.allocS ?_ _) | ((with_reducible refine Below.setCell ?_ ?_ _); rotate_left; focus (first | omega | (simp; done) | (simp; omega))) | (with_reducible refine Below.step ?_ (by assumption))))









end Go.Proofs.Ytciamnnfnbmjpaa
