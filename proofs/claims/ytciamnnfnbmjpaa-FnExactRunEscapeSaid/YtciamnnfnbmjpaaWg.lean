/-
  The walks of a swing turned back, of the escapement, of tops compared, of a steady top's turn.
-/
import Derived.Test.YtciamnnfnbmjpaaWe
set_option linter.unusedVariables false
set_option linter.unusedSimpArgs false
namespace Go.Proofs.Ytciamnnfnbmjpaa
open Go.RowKit

@[go_sem] theorem build_swing0 (w : World) : (Instr.build 25 #[]).run Try.prog w = .ok (.agg #[.float .f32 0, .float .f32 0, .float .f32 0]) w := run_build w 25 _ _ (by kernel_rfl)
@[go_sem] theorem build_swing (a b c : Nat) (w : World) : (Instr.build 25 #[(0, .float .f32 a), (1, .float .f32 b), (2, .float .f32 c)]).run Try.prog w = .ok (.agg #[.float .f32 a, .float .f32 b, .float .f32 c]) w := run_build w 25 _ _ (by kernel_rfl)
def backV (x0 x1 x2 : Nat) : Value := .tuple #[.agg #[.float .f32 (condF (fin3 x0 x1 x2) x0), .float .f32 (condF (fin3 x0 x1 x2) (Op.negFloat .f32 x1)), .float .f32 (condF (fin3 x0 x1 x2) x2)], .bool (fin3 x0 x1 x2)]

set_option maxRecDepth 100000 in
theorem specBackSwing_any (x0 x1 x2 : Nat) (w : World) : Calls Try.prog 15 #[.agg #[.float .f32 x0, .float .f32 x1, .float .f32 x2]] w (BV (backV x0 x1 x2) w) := by
  cases h : fin3 x0 x1 x2
  all_goals
    go_enter Try.func15, Try.ntmps15
    go_wp2_with fail
    refine (l02Swing_any x0 x1 x2 _ _ ?_ ?_ ?_).mono ?_
    all_goals (try (simp [go_sem]; done))
    rintro e w' ⟨n, rfl, rfl⟩
    go_wp2
    refine bodyPost_ret (v := ?_) (by simp [results, Try.results15, go_sem]; rfl) rfl ⟨?_, ?_⟩
    · simp [backV, condF, h]
    · (repeat (first | (with_reducible exact Below.refl _ _) | (with_reducible refine Below.drewN ?_ _) | (with_reducible refine Below.drew ?_) | (with_reducible refine Below.allocS ?_ _) | ((with_reducible refine Below.setCell ?_ ?_ _); rotate_left; focus (first | omega | (simp; done) | (simp; omega))) | (with_reducible refine Below.step ?_ (by assumption))))

set_option maxRecDepth 100000 in
theorem implBackSwing_any (x0 x1 x2 : Nat) (w : World) : Calls Try.prog 17 #[.agg #[.float .f32 x0, .float .f32 x1, .float .f32 x2]] w (BV (backV x0 x1 x2) w) := by
  cases h : fin3 x0 x1 x2
  all_goals
    go_enter Try.func17, Try.ntmps17
    go_wp2_with fail
    refine (implValidSwing_any x0 x1 x2 _).mono ?_
    rintro e w' ⟨rfl, hb⟩
    have hk := Held.below hb (l := [(⟨w.heap.size, 0, none⟩, .float .f32 x0), (⟨w.heap.size, 1, none⟩, .float .f32 x1), (⟨w.heap.size, 2, none⟩, .float .f32 x2), (⟨(w.heap.size + 1), 0, none⟩, .float .f32 0), (⟨(w.heap.size + 1), 1, none⟩, .float .f32 0), (⟨(w.heap.size + 1), 2, none⟩, .float .f32 0)]) (by simp [Held, go_sem, *])
    simp only [Held, and_true] at hk
    go_wp2
    refine bodyPost_ret (v := ?_) (by simp [results, Try.results17, go_sem, *]; rfl) rfl ⟨?_, ?_⟩
    · simp [backV, condF, h]
    · (repeat (first | (with_reducible exact Below.refl _ _) | (with_reducible refine Below.drewN ?_ _) | (with_reducible refine Below.drew ?_) | (with_reducible refine Below.allocS ?_ _) | ((with_reducible refine Below.setCell ?_ ?_ _); rotate_left; focus (first | omega | (simp; done) | (simp; omega))) | (with_reducible refine Below.step ?_ (by assumption))))

set_option maxRecDepth 100000 in
set_option maxHeartbeats 1000000 in
theorem lawBackSwing_walk (x0 x1 x2 : Nat) (_ : x0 < 4294967296) (_ : x1 < 4294967296) (_ : x2 < 4294967296) (w : World) : Calls Try.prog 3 #[.agg #[.float .f32 x0, .float .f32 x1, .float .f32 x2]] w fun e w' => e = .returned (.bool true) ∧ Below w.heap.size w w' := by
  go_enter Try.func3, Try.ntmps3
  go_wp2_with fail
  refine (toSwing_any x0 x1 x2 _).mono ?_
  rintro e w1 ⟨rfl, hb⟩
  have hk := Held.below hb (l := [(⟨w.heap.size, 0, none⟩, .float .f32 x0), (⟨w.heap.size, 1, none⟩, .float .f32 x1), (⟨w.heap.size, 2, none⟩, .float .f32 x2)]) (by simp [Held, go_sem, *])
  simp only [Held, and_true] at hk
  go_wp2_with fail
  refine (specBackSwing_any x0 x1 x2 _).mono ?_
  rintro e w2 ⟨rfl, hb⟩
  unfold backV
  have hk := Held.below hb (l := [(⟨w.heap.size, 0, none⟩, .float .f32 x0), (⟨w.heap.size, 1, none⟩, .float .f32 x1), (⟨w.heap.size, 2, none⟩, .float .f32 x2)]) (by simp [Held, go_sem, *])
  simp only [Held, and_true] at hk
  go_wp2_with fail
  refine (toSwing_any x0 x1 x2 _).mono ?_
  rintro e w3 ⟨rfl, hb⟩
  have hk := Held.below hb (l := [(⟨w.heap.size, 0, none⟩, .float .f32 x0), (⟨w.heap.size, 1, none⟩, .float .f32 x1), (⟨w.heap.size, 2, none⟩, .float .f32 x2), (⟨w2.heap.size, 0, none⟩, .float .f32 (condF (fin3 x0 x1 x2) x0)), (⟨w2.heap.size, 1, none⟩, .float .f32 (condF (fin3 x0 x1 x2) (Op.negFloat .f32 x1))), (⟨w2.heap.size, 2, none⟩, .float .f32 (condF (fin3 x0 x1 x2) x2))]) (by simp [Held, go_sem, *])
  simp only [Held, and_true] at hk
  go_wp2_with fail
  refine (implBackSwing_any x0 x1 x2 _).mono ?_
  rintro e w4 ⟨rfl, hb⟩
  unfold backV
  have hk := Held.below hb (l := [(⟨w.heap.size, 0, none⟩, .float .f32 x0), (⟨w.heap.size, 1, none⟩, .float .f32 x1), (⟨w.heap.size, 2, none⟩, .float .f32 x2), (⟨w2.heap.size, 0, none⟩, .float .f32 (condF (fin3 x0 x1 x2) x0)), (⟨w2.heap.size, 1, none⟩, .float .f32 (condF (fin3 x0 x1 x2) (Op.negFloat .f32 x1))), (⟨w2.heap.size, 2, none⟩, .float .f32 (condF (fin3 x0 x1 x2) x2))]) (by simp [Held, go_sem, *])
  simp only [Held, and_true] at hk
  go_wp2_with fail
  refine (eqSwing_any _ _ _ _ _ _ _ rfl rfl rfl).mono ?_
  rintro e w5 ⟨rfl, hb⟩
  go_wp2
  go_ret
  refine ⟨rfl, ?_⟩
  (repeat (first | (with_reducible exact Below.refl _ _) | (with_reducible refine Below.drewN ?_ _) | (with_reducible refine Below.drew ?_) | (with_reducible refine Below.allocS ?_ _) | ((with_reducible refine Below.setCell ?_ ?_ _); rotate_left; focus (first | omega | (simp; done) | (simp; omega))) | (with_reducible refine Below.step ?_ (by assumption))))

def escB (swing keep kick least : Nat) : Bool := finB .f32 swing && keepB keep && finB .f32 kick && finB .f32 least
def escQ (swing keep kick least : Nat) : Nat := if geF .f32 swing least then fbin .add .f32 (mulC keep swing) (cn .f32 kick) else mulC keep swing
def escR (swing keep kick least : Nat) : Bool := escB swing keep kick least && finB .f32 (escQ swing keep kick least)
theorem esc_split (swing keep kick least : Nat) : escB swing keep kick least = (fin4 swing keep kick least && keepB keep) := by
  unfold escB fin4
  have h := @keep_fin keep
  cases h1 : keepB keep
  · simp
  · rw [h h1]; simp

set_option maxRecDepth 100000 in
theorem l05Escape_any (swing keep kick least : Nat) (w : World) : Calls Try.prog 54 #[.float .f32 swing, .float .f32 keep, .float .f32 kick, .float .f32 least] w (RB (escB swing keep kick least) w) := by
  go_enter Try.func54, Try.ntmps54
  go_wp2_with (first | (go_at_call 64; refine (l01Finite_any _ _).mono ?_; rintro e w' ⟨n, rfl, rfl⟩))
  all_goals (go_ret; unfold escB keepB; exact ⟨_, ret_bool (by simp_all), rfl⟩)

set_option maxRecDepth 100000 in
theorem l05Once_any (swing keep kick least : Nat) (w : World) : Calls Try.prog 56 #[.float .f32 swing, .float .f32 keep, .float .f32 kick, .float .f32 least] w (RF .f32 (escQ swing keep kick least) w) := by
  cases h : geF .f32 swing least
  all_goals
    go_enter Try.func56, Try.ntmps56
    go_wp2_with (first | (refine wpList_fbin rfl rfl rfl rfl rfl (fun r n hr => ?_)))
    go_ret
    refine ⟨_, _, rfl, ?_, rfl⟩
    unfold escQ mulC
    rw [h]
    simp only [Hid] at *
    simp only [*, if_true, if_false, Bool.false_eq_true]

set_option maxRecDepth 100000 in
theorem specEscapeOnce_any (z0 z1 z2 z3 : Nat) (w : World) : Calls Try.prog 19 #[.float .f32 z0, .float .f32 z1, .float .f32 z2, .float .f32 z3] w (PF (condF (escR z0 z1 z2 z3) (escQ z0 z1 z2 z3)) (escR z0 z1 z2 z3) w) := by
  cases h : escB z0 z1 z2 z3
  all_goals
    go_enter Try.func19, Try.ntmps19
    go_wp2_with (first | (go_at_call 54; refine (l05Escape_any _ _ _ _ _).mono ?_; rintro e w' ⟨n, rfl, rfl⟩) | (go_at_call 56; refine (l05Once_any _ _ _ _ _).mono ?_; rintro e w' ⟨r, n, rfl, hq, rfl⟩; have HQ := Lib.hid hq; clear hq) | (go_at_call 55; refine (l05Number_any _ _).mono ?_; rintro e w' ⟨n, rfl, rfl⟩))
    go_ret2
    first
      | (refine pf_told (Q := escQ z0 z1 z2 z3) HQ.out (by unfold escR; rw [h]; simp) ?_; (repeat (first | (with_reducible exact Below.refl _ _) | (with_reducible refine Below.drewN ?_ _) | (with_reducible refine Below.drew ?_) | (with_reducible refine Below.allocS ?_ _) | ((with_reducible refine Below.setCell ?_ ?_ _); rotate_left; focus (first | omega | (simp; done) | (simp; omega))) | (with_reducible refine Below.step ?_ (by assumption)))); done)
      | (refine pf_none (by unfold escR; rw [h]; simp) ?_; (repeat (first | (with_reducible exact Below.refl _ _) | (with_reducible refine Below.drewN ?_ _) | (with_reducible refine Below.drew ?_) | (with_reducible refine Below.allocS ?_ _) | ((with_reducible refine Below.setCell ?_ ?_ _); rotate_left; focus (first | omega | (simp; done) | (simp; omega))) | (with_reducible refine Below.step ?_ (by assumption)))); done)

set_option maxRecDepth 100000 in
theorem implEscapeOnce_any (z0 z1 z2 z3 : Nat) (w : World) : Calls Try.prog 20 #[.float .f32 z0, .float .f32 z1, .float .f32 z2, .float .f32 z3] w (PF (condF (escR z0 z1 z2 z3) (escQ z0 z1 z2 z3)) (escR z0 z1 z2 z3) w) := by
  have hk := esc_split z0 z1 z2 z3
  cases h1 : fin4 z0 z1 z2 z3 <;> cases h2 : keepB z1 <;> cases h3 : geF .f32 z0 z3
  all_goals
    rw [h1, h2] at hk
    have H := Lib.hid hk
    clear hk
    go_enter Try.func20, Try.ntmps20
    go_wp2_with fail
    refine (finite4_any z0 z1 z2 z3 _ _ ?_ ?_ ?_ ?_).mono ?_
    all_goals (try (simp [go_sem]; done))
    rintro e w' ⟨n, rfl, rfl⟩
    go_wp2_with (first | (refine wpList_fbin rfl rfl rfl rfl rfl (fun r n hr => ?_)) | (go_at_call 58; refine (keepOk_any _ _).mono ?_; rintro e w' ⟨n, rfl, rfl⟩) | (go_at_call 59; refine (toldNumber_any _ _).mono ?_; rintro e w' ⟨n, rfl, rfl⟩))
    go_ret2
    first
      | (refine pf_told (Q := escQ z0 z1 z2 z3) (by unfold escQ mulC; rw [h3]; simp only [Hid] at *; simp only [*, if_true, if_false, Bool.false_eq_true]) (by unfold escR; rw [H.out]; simp) ?_; (repeat (first | (with_reducible exact Below.refl _ _) | (with_reducible refine Below.drewN ?_ _) | (with_reducible refine Below.drew ?_) | (with_reducible refine Below.allocS ?_ _) | ((with_reducible refine Below.setCell ?_ ?_ _); rotate_left; focus (first | omega | (simp; done) | (simp; omega))) | (with_reducible refine Below.step ?_ (by assumption)))); done)
      | (refine pf_none (by unfold escR; rw [H.out]; simp) ?_; (repeat (first | (with_reducible exact Below.refl _ _) | (with_reducible refine Below.drewN ?_ _) | (with_reducible refine Below.drew ?_) | (with_reducible refine Below.allocS ?_ _) | ((with_reducible refine Below.setCell ?_ ?_ _); rotate_left; focus (first | omega | (simp; done) | (simp; omega))) | (with_reducible refine Below.step ?_ (by assumption)))); done)

set_option maxRecDepth 100000 in
set_option maxHeartbeats 1000000 in
theorem lawEscapeOnce_walk (z0 z1 z2 z3 : Nat) (_ : z0 < 4294967296) (_ : z1 < 4294967296) (_ : z2 < 4294967296) (_ : z3 < 4294967296) (w : World) : Calls Try.prog 4 #[.float .f32 z0, .float .f32 z1, .float .f32 z2, .float .f32 z3] w fun e w' => e = .returned (.bool true) ∧ Below w.heap.size w w' := by
  go_enter Try.func4, Try.ntmps4
  go_wp2_with fail
  refine (specEscapeOnce_any z0 z1 z2 z3 _).mono ?_
  rintro e w1 ⟨r0_0, rfl, q0_0, hb⟩
  have Hq0_0 := Lib.hid q0_0
  clear q0_0
  go_wp2_with fail
  refine (implEscapeOnce_any z0 z1 z2 z3 _).mono ?_
  rintro e w2 ⟨r1_0, rfl, q1_0, hb⟩
  have Hq1_0 := Lib.hid q1_0
  clear q1_0
  go_wp2_with (first | (refine wpList_widen rfl rfl Try.underlying34 Try.underlying22 rfl (fun r n hr => ?_)) | (go_at_call 21; refine (sameFloat_any _ _ _ (widen_same (Hid.out (by assumption)) (Hid.out (by assumption)) (Hq1_0.out.trans Hq0_0.out.symm))).mono ?_; rintro e w' ⟨n, rfl, rfl⟩))
  go_ret
  refine ⟨rfl, ?_⟩
  (repeat (first | (with_reducible exact Below.refl _ _) | (with_reducible refine Below.drewN ?_ _) | (with_reducible refine Below.drew ?_) | (with_reducible refine Below.allocS ?_ _) | ((with_reducible refine Below.setCell ?_ ?_ _); rotate_left; focus (first | omega | (simp; done) | (simp; omega))) | (with_reducible refine Below.step ?_ (by assumption))))

def sameTopB (x0 x1 x2 x3 x4 x5 x6 x7 x8 x9 y0 y1 y2 y3 y4 y5 y6 y7 y8 y9 : Nat) : Bool := same3 x0 x1 x2 y0 y1 y2 && same4 x3 x4 x5 x6 y3 y4 y5 y6 && same3 x7 x8 x9 y7 y8 y9

def steadyB (x0 x1 x2 x3 x4 x5 x6 x7 x8 x9 arm pull : Nat) : Bool := topB x0 x1 x2 x3 x4 x5 x6 x7 x8 x9 && finB .f32 arm && finB .f32 pull
def steadyQ (x2 x9 arm pull : Nat) : Nat := fbin .quo .f32 (mulC arm pull) (fbin .mul .f32 (mulC x2 x9) (cn .f32 1086918619))
def steadyR (x0 x1 x2 x3 x4 x5 x6 x7 x8 x9 arm pull : Nat) : Bool := steadyB x0 x1 x2 x3 x4 x5 x6 x7 x8 x9 arm pull && finB .f32 (steadyQ x2 x9 arm pull)

set_option maxRecDepth 100000 in
set_option maxHeartbeats 1000000 in
theorem specSteadyAround_any (x0 x1 x2 x3 x4 x5 x6 x7 x8 x9 z1 z2 : Nat) (w : World) : Calls Try.prog 30 #[.agg #[.float .f32 x0, .float .f32 x1, .float .f32 x2, .float .f32 x3, .float .f32 x4, .float .f32 x5, .float .f32 x6, .float .f32 x7, .float .f32 x8, .float .f32 x9], .float .f32 z1, .float .f32 z2] w (PF (condF (steadyR x0 x1 x2 x3 x4 x5 x6 x7 x8 x9 z1 z2) (steadyQ x2 x9 z1 z2)) (steadyR x0 x1 x2 x3 x4 x5 x6 x7 x8 x9 z1 z2) w) := by
  cases h1 : topB x0 x1 x2 x3 x4 x5 x6 x7 x8 x9 <;> cases h2 : finB .f32 z1 <;> cases h3 : finB .f32 z2
  all_goals
    go_enter Try.func30, Try.ntmps30
    go_wp2_with fail
    refine (l04Is_any x0 x1 x2 x3 x4 x5 x6 x7 x8 x9 _ _ ?_ ?_ ?_ ?_ ?_ ?_ ?_ ?_ ?_ ?_).mono ?_
    all_goals (try (simp [go_sem]; done))
    rintro e w1 ⟨rfl, hb⟩
    have hk := Held.below hb (l := [(⟨w.heap.size, 0, none⟩, .float .f32 x0), (⟨w.heap.size, 1, none⟩, .float .f32 x1), (⟨w.heap.size, 2, none⟩, .float .f32 x2), (⟨w.heap.size, 3, none⟩, .float .f32 x3), (⟨w.heap.size, 4, none⟩, .float .f32 x4), (⟨w.heap.size, 5, none⟩, .float .f32 x5), (⟨w.heap.size, 6, none⟩, .float .f32 x6), (⟨w.heap.size, 7, none⟩, .float .f32 x7), (⟨w.heap.size, 8, none⟩, .float .f32 x8), (⟨w.heap.size, 9, none⟩, .float .f32 x9)]) (by simp [Held, go_sem, *])
    simp only [Held, and_true] at hk
    go_wp2_with (first | (go_at_call 64; refine (l01Finite_any _ _).mono ?_; rintro e w' ⟨n, rfl, rfl⟩) | (refine wpList_fbin rfl rfl rfl rfl rfl (fun r n hr => ?_)) | (go_at_call 70; refine (l02Number_any _ _).mono ?_; rintro e w' ⟨n, rfl, rfl⟩))
    go_ret2
    first
      | (refine pf_told (Q := steadyQ x2 x9 z1 z2) (by unfold steadyQ mulC; simp only [Hid] at *; simp only [*]) (by unfold steadyR steadyB; rw [h1, h2, h3]; simp) ?_; (repeat (first | (with_reducible exact Below.refl _ _) | (with_reducible refine Below.drewN ?_ _) | (with_reducible refine Below.drew ?_) | (with_reducible refine Below.allocS ?_ _) | ((with_reducible refine Below.setCell ?_ ?_ _); rotate_left; focus (first | omega | (simp; done) | (simp; omega))) | (with_reducible refine Below.step ?_ (by assumption)))); done)
      | (refine pf_none (by unfold steadyR steadyB; simp [h1, h2, h3]) ?_; (repeat (first | (with_reducible exact Below.refl _ _) | (with_reducible refine Below.drewN ?_ _) | (with_reducible refine Below.drew ?_) | (with_reducible refine Below.allocS ?_ _) | ((with_reducible refine Below.setCell ?_ ?_ _); rotate_left; focus (first | omega | (simp; done) | (simp; omega))) | (with_reducible refine Below.step ?_ (by assumption)))); done)

set_option maxRecDepth 100000 in
set_option maxHeartbeats 1000000 in
theorem implSteadyAround_any (x0 x1 x2 x3 x4 x5 x6 x7 x8 x9 z1 z2 : Nat) (w : World) : Calls Try.prog 31 #[.agg #[.float .f32 x0, .float .f32 x1, .float .f32 x2, .float .f32 x3, .float .f32 x4, .float .f32 x5, .float .f32 x6, .float .f32 x7, .float .f32 x8, .float .f32 x9], .float .f32 z1, .float .f32 z2] w (PF (condF (steadyR x0 x1 x2 x3 x4 x5 x6 x7 x8 x9 z1 z2) (steadyQ x2 x9 z1 z2)) (steadyR x0 x1 x2 x3 x4 x5 x6 x7 x8 x9 z1 z2) w) := by
  cases h1 : topB x0 x1 x2 x3 x4 x5 x6 x7 x8 x9 <;> cases h2 : fin2 z1 z2
  all_goals
    have hs0 : (finB .f32 z1 && finB .f32 z2) = fin2 z1 z2 := rfl
    rw [h2] at hs0
    have HS := Lib.hid hs0
    clear hs0
    go_enter Try.func31, Try.ntmps31
    go_wp2_with fail
    refine (implValidTop_any x0 x1 x2 x3 x4 x5 x6 x7 x8 x9 _).mono ?_
    rintro e w1 ⟨rfl, hb⟩
    have hk := Held.below hb (l := [(⟨w.heap.size, 0, none⟩, .float .f32 x0), (⟨w.heap.size, 1, none⟩, .float .f32 x1), (⟨w.heap.size, 2, none⟩, .float .f32 x2), (⟨w.heap.size, 3, none⟩, .float .f32 x3), (⟨w.heap.size, 4, none⟩, .float .f32 x4), (⟨w.heap.size, 5, none⟩, .float .f32 x5), (⟨w.heap.size, 6, none⟩, .float .f32 x6), (⟨w.heap.size, 7, none⟩, .float .f32 x7), (⟨w.heap.size, 8, none⟩, .float .f32 x8), (⟨w.heap.size, 9, none⟩, .float .f32 x9)]) (by simp [Held, go_sem, *])
    simp only [Held, and_true] at hk
    go_wp2_with (first | (refine wpList_fbin rfl rfl rfl rfl rfl (fun r n hr => ?_)) | (go_at_call 57; refine (finite2_any z1 z2 _ _ ?_ ?_).mono ?_; (simp [go_sem]); (simp [go_sem]); rintro e w' ⟨n, rfl, rfl⟩) | (go_at_call 59; refine (toldNumber_any _ _).mono ?_; rintro e w' ⟨n, rfl, rfl⟩))
    go_ret2
    first
      | (refine pf_told (Q := steadyQ x2 x9 z1 z2) (by unfold steadyQ mulC; simp only [Hid] at *; simp only [*]) (by unfold steadyR steadyB; rw [h1, Bool.true_and, HS.out]; simp) ?_; (repeat (first | (with_reducible exact Below.refl _ _) | (with_reducible refine Below.drewN ?_ _) | (with_reducible refine Below.drew ?_) | (with_reducible refine Below.allocS ?_ _) | ((with_reducible refine Below.setCell ?_ ?_ _); rotate_left; focus (first | omega | (simp; done) | (simp; omega))) | (with_reducible refine Below.step ?_ (by assumption)))); done)
      | (refine pf_none (by unfold steadyR steadyB; rw [Bool.and_assoc (topB x0 x1 x2 x3 x4 x5 x6 x7 x8 x9), HS.out]; simp [h1]) ?_; (repeat (first | (with_reducible exact Below.refl _ _) | (with_reducible refine Below.drewN ?_ _) | (with_reducible refine Below.drew ?_) | (with_reducible refine Below.allocS ?_ _) | ((with_reducible refine Below.setCell ?_ ?_ _); rotate_left; focus (first | omega | (simp; done) | (simp; omega))) | (with_reducible refine Below.step ?_ (by assumption)))); done)

set_option maxRecDepth 100000 in
set_option maxHeartbeats 1000000 in
theorem lawSteadyAround_walk (x0 x1 x2 x3 x4 x5 x6 x7 x8 x9 z1 z2 : Nat) (_ : x0 < 4294967296) (_ : x1 < 4294967296) (_ : x2 < 4294967296) (_ : x3 < 4294967296) (_ : x4 < 4294967296) (_ : x5 < 4294967296) (_ : x6 < 4294967296) (_ : x7 < 4294967296) (_ : x8 < 4294967296) (_ : x9 < 4294967296) (_ : z1 < 4294967296) (_ : z2 < 4294967296) (w : World) : Calls Try.prog 7 #[.agg #[.float .f32 x0, .float .f32 x1, .float .f32 x2, .float .f32 x3, .float .f32 x4, .float .f32 x5, .float .f32 x6, .float .f32 x7, .float .f32 x8, .float .f32 x9], .float .f32 z1, .float .f32 z2] w fun e w' => e = .returned (.bool true) ∧ Below w.heap.size w w' := by
  go_enter Try.func7, Try.ntmps7
  go_wp2_with fail
  refine (toTop_any x0 x1 x2 x3 x4 x5 x6 x7 x8 x9 _).mono ?_
  rintro e w1 ⟨rfl, hb⟩
  have hk := Held.below hb (l := [(⟨w.heap.size, 0, none⟩, .float .f32 x0), (⟨w.heap.size, 1, none⟩, .float .f32 x1), (⟨w.heap.size, 2, none⟩, .float .f32 x2), (⟨w.heap.size, 3, none⟩, .float .f32 x3), (⟨w.heap.size, 4, none⟩, .float .f32 x4), (⟨w.heap.size, 5, none⟩, .float .f32 x5), (⟨w.heap.size, 6, none⟩, .float .f32 x6), (⟨w.heap.size, 7, none⟩, .float .f32 x7), (⟨w.heap.size, 8, none⟩, .float .f32 x8), (⟨w.heap.size, 9, none⟩, .float .f32 x9)]) (by simp [Held, go_sem, *])
  simp only [Held, and_true] at hk
  go_wp2_with fail
  refine (specSteadyAround_any x0 x1 x2 x3 x4 x5 x6 x7 x8 x9 z1 z2 _).mono ?_
  rintro e w2 ⟨r0_0, rfl, q0_0, hb⟩
  have Hq0_0 := Lib.hid q0_0
  clear q0_0
  have hk := Held.below hb (l := [(⟨w.heap.size, 0, none⟩, .float .f32 x0), (⟨w.heap.size, 1, none⟩, .float .f32 x1), (⟨w.heap.size, 2, none⟩, .float .f32 x2), (⟨w.heap.size, 3, none⟩, .float .f32 x3), (⟨w.heap.size, 4, none⟩, .float .f32 x4), (⟨w.heap.size, 5, none⟩, .float .f32 x5), (⟨w.heap.size, 6, none⟩, .float .f32 x6), (⟨w.heap.size, 7, none⟩, .float .f32 x7), (⟨w.heap.size, 8, none⟩, .float .f32 x8), (⟨w.heap.size, 9, none⟩, .float .f32 x9)]) (by simp [Held, go_sem, *])
  simp only [Held, and_true] at hk
  go_wp2_with fail
  refine (toTop_any x0 x1 x2 x3 x4 x5 x6 x7 x8 x9 _).mono ?_
  rintro e w3 ⟨rfl, hb⟩
  have hk := Held.below hb (l := [(⟨w.heap.size, 0, none⟩, .float .f32 x0), (⟨w.heap.size, 1, none⟩, .float .f32 x1), (⟨w.heap.size, 2, none⟩, .float .f32 x2), (⟨w.heap.size, 3, none⟩, .float .f32 x3), (⟨w.heap.size, 4, none⟩, .float .f32 x4), (⟨w.heap.size, 5, none⟩, .float .f32 x5), (⟨w.heap.size, 6, none⟩, .float .f32 x6), (⟨w.heap.size, 7, none⟩, .float .f32 x7), (⟨w.heap.size, 8, none⟩, .float .f32 x8), (⟨w.heap.size, 9, none⟩, .float .f32 x9)]) (by simp [Held, go_sem, *])
  simp only [Held, and_true] at hk
  go_wp2_with fail
  refine (implSteadyAround_any x0 x1 x2 x3 x4 x5 x6 x7 x8 x9 z1 z2 _).mono ?_
  rintro e w4 ⟨r1_0, rfl, q1_0, hb⟩
  have Hq1_0 := Lib.hid q1_0
  clear q1_0
  have hk := Held.below hb (l := [(⟨w.heap.size, 0, none⟩, .float .f32 x0), (⟨w.heap.size, 1, none⟩, .float .f32 x1), (⟨w.heap.size, 2, none⟩, .float .f32 x2), (⟨w.heap.size, 3, none⟩, .float .f32 x3), (⟨w.heap.size, 4, none⟩, .float .f32 x4), (⟨w.heap.size, 5, none⟩, .float .f32 x5), (⟨w.heap.size, 6, none⟩, .float .f32 x6), (⟨w.heap.size, 7, none⟩, .float .f32 x7), (⟨w.heap.size, 8, none⟩, .float .f32 x8), (⟨w.heap.size, 9, none⟩, .float .f32 x9)]) (by simp [Held, go_sem, *])
  simp only [Held, and_true] at hk
  go_wp2_with (first | (refine wpList_widen rfl rfl Try.underlying34 Try.underlying22 rfl (fun r n hr => ?_)) | (go_at_call 21; refine (sameFloat_any _ _ _ (widen_same (Hid.out (by assumption)) (Hid.out (by assumption)) (Hq1_0.out.trans Hq0_0.out.symm))).mono ?_; rintro e w' ⟨n, rfl, rfl⟩))
  go_ret
  refine ⟨rfl, ?_⟩
  (repeat (first | (with_reducible exact Below.refl _ _) | (with_reducible refine Below.drewN ?_ _) | (with_reducible refine Below.drew ?_) | (with_reducible refine Below.allocS ?_ _) | ((with_reducible refine Below.setCell ?_ ?_ _); rotate_left; focus (first | omega | (simp; done) | (simp; omega))) | (with_reducible refine Below.step ?_ (by assumption))))

end Go.Proofs.Ytciamnnfnbmjpaa
