/-
  The walks of the tests of tops, and of the product of two spins.
-/
import Derived.Test.YtciamnnfnbmjpaaWd
set_option linter.unusedVariables false
set_option linter.unusedSimpArgs false
namespace Go.Proofs.Ytciamnnfnbmjpaa
open Go.RowKit

def topB (x0 x1 x2 x3 x4 x5 x6 x7 x8 x9 : Nat) : Bool := aboveB x0 && aboveB x1 && aboveB x2 && spinB x3 x4 x5 x6 && fin3 x7 x8 x9

set_option maxRecDepth 100000 in
theorem l01VFinite_any (x0 x1 x2 : Nat) (w : World) : Calls Try.prog 85 #[.agg #[.float .f32 x0, .float .f32 x1, .float .f32 x2]] w (BB (fin3 x0 x1 x2) w) := by
  go_enter Try.func85, Try.ntmps85
  go_wp2_with (first | (go_at_call 64; refine (l01Finite_any _ _).mono ?_; rintro e w' ⟨n, rfl, rfl⟩))
  all_goals (go_ret; unfold fin3; refine ⟨ret_bool (by simp_all), ?_⟩; (repeat (first | (with_reducible exact Below.refl _ _) | (with_reducible refine Below.drewN ?_ _) | (with_reducible refine Below.drew ?_) | (with_reducible refine Below.allocS ?_ _) | ((with_reducible refine Below.setCell ?_ ?_ _); rotate_left; focus (first | omega | (simp; done) | (simp; omega))) | (with_reducible refine Below.step ?_ (by assumption)))))

set_option maxRecDepth 100000 in
theorem finiteVector_any (x0 x1 x2 : Nat) (w : World) : Calls Try.prog 87 #[.agg #[.float .f32 x0, .float .f32 x1, .float .f32 x2]] w (BB (fin3 x0 x1 x2) w) := by
  go_enter Try.func87, Try.ntmps87
  go_wp2_with fail
  refine (finite3_any x0 x1 x2 _ _ ?_ ?_ ?_).mono ?_
  all_goals (try (simp [go_sem]; done))
  rintro e w' ⟨n, rfl, rfl⟩
  go_wp2
  go_ret
  refine ⟨rfl, ?_⟩
  (repeat (first | (with_reducible exact Below.refl _ _) | (with_reducible refine Below.drewN ?_ _) | (with_reducible refine Below.drew ?_) | (with_reducible refine Below.allocS ?_ _) | ((with_reducible refine Below.setCell ?_ ?_ _); rotate_left; focus (first | omega | (simp; done) | (simp; omega))) | (with_reducible refine Below.step ?_ (by assumption))))

set_option maxRecDepth 100000 in
theorem l04SpinO_any (x0 x1 x2 x3 b o : Nat) (w : World) (h0 : w.cell? ⟨b, o, none⟩ = some (.float .f32 x0)) (h1 : w.cell? ⟨b, o + 1, none⟩ = some (.float .f32 x1)) (h2 : w.cell? ⟨b, o + 2, none⟩ = some (.float .f32 x2)) (h3 : w.cell? ⟨b, o + 3, none⟩ = some (.float .f32 x3)) :
    Calls Try.prog 102 #[.pointer (some ⟨b, o, none⟩)] w (RB (spinB x0 x1 x2 x3) w) := by
  go_enter Try.func102, Try.ntmps102
  go_wp2_with (first | (go_at_call 64; refine (l01Finite_any _ _).mono ?_; rintro e w' ⟨n, rfl, rfl⟩))
  all_goals (go_ret; unfold spinB fin4; first | exact ⟨_, ret_bool (by simp_all), rfl⟩ | exact ⟨0, ret_bool (by simp_all), rfl⟩)

set_option maxRecDepth 100000 in
theorem l04Is_any (x0 x1 x2 x3 x4 x5 x6 x7 x8 x9 b : Nat) (w : World) (h0 : w.cell? ⟨b, 0, none⟩ = some (.float .f32 x0)) (h1 : w.cell? ⟨b, 1, none⟩ = some (.float .f32 x1)) (h2 : w.cell? ⟨b, 2, none⟩ = some (.float .f32 x2)) (h3 : w.cell? ⟨b, 3, none⟩ = some (.float .f32 x3)) (h4 : w.cell? ⟨b, 4, none⟩ = some (.float .f32 x4)) (h5 : w.cell? ⟨b, 5, none⟩ = some (.float .f32 x5)) (h6 : w.cell? ⟨b, 6, none⟩ = some (.float .f32 x6)) (h7 : w.cell? ⟨b, 7, none⟩ = some (.float .f32 x7)) (h8 : w.cell? ⟨b, 8, none⟩ = some (.float .f32 x8)) (h9 : w.cell? ⟨b, 9, none⟩ = some (.float .f32 x9)) : Calls Try.prog 69 #[.pointer (some ⟨b, 0, none⟩)] w (BB (topB x0 x1 x2 x3 x4 x5 x6 x7 x8 x9) w) := by
  go_enter Try.func69, Try.ntmps69
  go_wp2_with (first | (go_at_call 101; refine (l02Above_any _ _).mono ?_; rintro e w' ⟨n, rfl, rfl⟩) | (go_at_call 102; refine (l04SpinO_any x3 x4 x5 x6 _ _ _ ?_ ?_ ?_ ?_).mono ?_; (simp [*]); (simp [*]); (simp [*]); (simp [*]); rintro e w' ⟨n, rfl, rfl⟩) | (go_at_call 85; refine (l01VFinite_any _ _ _ _).mono ?_; rintro e w' ⟨rfl, hb⟩))
  all_goals (go_ret; unfold topB; refine ⟨ret_bool (by simp_all), ?_⟩; (repeat (first | (with_reducible exact Below.refl _ _) | (with_reducible refine Below.drewN ?_ _) | (with_reducible refine Below.drew ?_) | (with_reducible refine Below.allocS ?_ _) | ((with_reducible refine Below.setCell ?_ ?_ _); rotate_left; focus (first | omega | (simp; done) | (simp; omega))) | (with_reducible refine Below.step ?_ (by assumption)))))

set_option maxRecDepth 100000 in
theorem implValidTop_any (x0 x1 x2 x3 x4 x5 x6 x7 x8 x9 : Nat) (w : World) : Calls Try.prog 71 #[.agg #[.float .f32 x0, .float .f32 x1, .float .f32 x2, .float .f32 x3, .float .f32 x4, .float .f32 x5, .float .f32 x6, .float .f32 x7, .float .f32 x8, .float .f32 x9]] w (BB (topB x0 x1 x2 x3 x4 x5 x6 x7 x8 x9) w) := by
  go_enter Try.func71, Try.ntmps71
  go_wp2_with (first | (go_at_call 103; refine (lengthOk_any _ _).mono ?_; rintro e w' ⟨n, rfl, rfl⟩) | (go_at_call 104; refine (implIsSpin_any _ _ _ _ _).mono ?_; rintro e w' ⟨rfl, hb⟩; have hb' := hb; (try simp only [World.size_drew, World.heap_drewN, World.size_alloc] at hb'); have hz' := hb.size; (try simp only [World.size_drew, World.heap_drewN, World.size_alloc] at hz'); obtain ⟨hc, hf, hs, hn, hm⟩ := bfacts hb' hz'; clear hb' hz') | (go_at_call 87; refine (finiteVector_any _ _ _ _).mono ?_; rintro e w' ⟨rfl, hb⟩))
  all_goals (go_ret; unfold topB; refine ⟨ret_bool (by simp_all), ?_⟩; (repeat (first | (with_reducible exact Below.refl _ _) | (with_reducible refine Below.drewN ?_ _) | (with_reducible refine Below.drew ?_) | (with_reducible refine Below.allocS ?_ _) | ((with_reducible refine Below.setCell ?_ ?_ _); rotate_left; focus (first | omega | (simp; done) | (simp; omega))) | (with_reducible refine Below.step ?_ (by assumption)))))

set_option maxRecDepth 100000 in
set_option maxHeartbeats 1000000 in
theorem toTop_any (x0 x1 x2 x3 x4 x5 x6 x7 x8 x9 : Nat) (w : World) : Calls Try.prog 23 #[.agg #[.float .f32 x0, .float .f32 x1, .float .f32 x2, .float .f32 x3, .float .f32 x4, .float .f32 x5, .float .f32 x6, .float .f32 x7, .float .f32 x8, .float .f32 x9]] w (BV (.agg #[.float .f32 x0, .float .f32 x1, .float .f32 x2, .float .f32 x3, .float .f32 x4, .float .f32 x5, .float .f32 x6, .float .f32 x7, .float .f32 x8, .float .f32 x9]) w) := by
  go_enter Try.func23, Try.ntmps23
  go_wp2_with fail
  refine (toVectorX_any _ _ _ _).mono ?_
  rintro e w' ⟨rfl, rfl⟩
  go_wp2_with fail
  refine (toSpinX_any _ _ _ _ _).mono ?_
  rintro e w' ⟨rfl, rfl⟩
  go_wp2_with fail
  refine (toVectorX_any _ _ _ _).mono ?_
  rintro e w' ⟨rfl, rfl⟩
  go_wp2
  refine bodyPost_ret (v := .agg #[.float .f32 x0, .float .f32 x1, .float .f32 x2, .float .f32 x3, .float .f32 x4, .float .f32 x5, .float .f32 x6, .float .f32 x7, .float .f32 x8, .float .f32 x9]) (by simp [results, Try.results23, go_sem, *]) rfl ⟨rfl, ?_⟩
  (repeat (first | (with_reducible exact Below.refl _ _) | (with_reducible refine Below.drewN ?_ _) | (with_reducible refine Below.drew ?_) | (with_reducible refine Below.allocS ?_ _) | ((with_reducible refine Below.setCell ?_ ?_ _); rotate_left; focus (first | omega | (simp; done) | (simp; omega))) | (with_reducible refine Below.step ?_ (by assumption))))


def BF4 (X0 X1 X2 X3 : Nat) (w : World) (e : Ending) (w' : World) : Prop := ∃ r0 r1 r2 r3, e = .returned (.agg #[.float .f32 r0, .float .f32 r1, .float .f32 r2, .float .f32 r3]) ∧ (cn .f32 r0 = X0 ∧ cn .f32 r1 = X1 ∧ cn .f32 r2 = X2 ∧ cn .f32 r3 = X3) ∧ Below w.heap.size w w'
def BF3 (X0 X1 X2 : Nat) (w : World) (e : Ending) (w' : World) : Prop := ∃ r0 r1 r2, e = .returned (.agg #[.float .f32 r0, .float .f32 r1, .float .f32 r2]) ∧ (cn .f32 r0 = X0 ∧ cn .f32 r1 = X1 ∧ cn .f32 r2 = X2) ∧ Below w.heap.size w w'
def mulC (x y : Nat) : Nat := fbin .mul .f32 (cn .f32 x) (cn .f32 y)


end Go.Proofs.Ytciamnnfnbmjpaa
