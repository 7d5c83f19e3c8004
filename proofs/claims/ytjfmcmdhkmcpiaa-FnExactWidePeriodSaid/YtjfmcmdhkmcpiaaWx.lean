/-
  The walks of small periods.
-/
import Derived.Test.YtjfmcmdhkmcpiaaWp
set_option linter.unusedVariables false
set_option linter.unusedSimpArgs false
namespace Go.Proofs.Ytjfmcmdhkmcpiaa
open Go.RowKit

theorem indexFunc_nil (w : World) : Calls Try.prog 128 #[.slice none 0 0, .func (.func 118) #[] #[]] w (RV (.int .i64 (-1)) w) := by
  go_enter Try.func128, Try.ntmps128
  go_wp2
  go_loopw [8] (fun v wr => v = .int .i64 0 ∧ wr = w) (fun v _ => 0)
  case atStart => exact ⟨rfl, rfl⟩
  case round =>
    obtain ⟨rfl, rfl⟩ := hrel
    go_wp2
    go_ret
    exact ⟨0, rfl, rfl⟩
theorem containsFunc_nil (w : World) : Calls Try.prog 117 #[.slice none 0 0, .func (.func 118) #[] #[]] w (RB false w) := by
  go_enter Try.func117, Try.ntmps117
  go_wp2_with (first | (go_at_call 128; refine (indexFunc_nil _).mono ?_; rintro e w' ⟨n, rfl, rfl⟩))
  go_ret
  exact ⟨n, ret_bool (by simp), rfl⟩
theorem finite_nil (w : World) : Calls Try.prog 88 #[.slice none 0 0] w (RB true w) := by
  go_enter Try.func88, Try.ntmps88
  go_wp2_with (first | (go_at_call 117; refine (containsFunc_nil _).mono ?_; rintro e w' ⟨n, rfl, rfl⟩))
  go_ret
  exact ⟨n, ret_bool (by simp), rfl⟩
set_option maxRecDepth 100000 in
set_option maxHeartbeats 8000000 in
theorem ofPendulum_nil (x0 x1 x2 x3 x4 : Nat) (k : FuncId) (rv : Array Value) (Q : Nat) (w : World)
    (hcf : ∀ w1 : World, (callFunc k rv).run Try.prog w1 = .ok (.enter k rv) w1) (hof : ∀ w1, Below w.heap.size w w1 → Calls Try.prog k rv w1 (BF .f32 Q w1)) :
    Calls Try.prog 59 #[.agg #[.float .f32 x0, .float .f32 x1, .float .f32 x2, .float .f32 x3, .float .f32 x4], .func (.func k) rv #[], .slice none 0 0] w (PF (condF (pendB x0 x1 x2 x3 x4 && finB .f32 Q) Q) (pendB x0 x1 x2 x3 x4 && finB .f32 Q) w) := by
  have HO := Lib.hid hof
  clear hof
  cases h1 : pendB x0 x1 x2 x3 x4
  all_goals
    go_enter Try.func59, Try.ntmps59
    go_wp2_with fail
    refine (implValidPendulum_any x0 x1 x2 x3 x4 _).mono ?_
    rintro e w1 ⟨rfl, hb⟩
    have hB1 : Below w.heap.size w w1 := by (repeat (first | (with_reducible exact Below.refl _ _) | (with_reducible refine Below.drewN ?_ _) | (with_reducible refine Below.drew ?_) | (with_reducible refine Below.allocS ?_ _) | ((with_reducible refine Below.setCell ?_ ?_ _); rotate_left; focus (first | omega | (simp; done) | (simp; omega))) | (with_reducible refine Below.step ?_ (by assumption))))
    go_wp2_with (first | (go_at_call 88; refine (finite_nil _).mono ?_; rintro e w2 ⟨n, rfl, rfl⟩) | (go_at_call 82; refine (toldNumber_any _ _).mono ?_; rintro e w3 ⟨n, rfl, rfl⟩) | ((refine (HO.out _ ?_).mono ?_); (focus ((repeat (first | assumption | (with_reducible exact Below.refl _ _) | (with_reducible refine Below.drewN ?_ _) | (with_reducible refine Below.drew ?_) | (with_reducible refine Below.allocS ?_ _) | ((with_reducible refine Below.setCell ?_ ?_ _); rotate_left; focus (first | omega | (simp; done) | (simp; omega))) | (with_reducible refine Below.step ?_ (by assumption)))); done)); rintro e w4 ⟨r, rfl, hq, hb⟩; have HQ := Lib.hid hq; clear hq))
    go_ret2
    first
      | ((refine pf_told (Q := Q) HQ.out (by simp) ?_); (repeat (first | assumption | (with_reducible exact Below.refl _ _) | (with_reducible refine Below.drewN ?_ _) | (with_reducible refine Below.drew ?_) | (with_reducible refine Below.allocS ?_ _) | ((with_reducible refine Below.setCell ?_ ?_ _); rotate_left; focus (first | omega | (simp; done) | (simp; omega))) | (with_reducible refine Below.step ?_ (by assumption)))); done)
      | ((refine pf_none (by simp) ?_); (repeat (first | assumption | (with_reducible exact Below.refl _ _) | (with_reducible refine Below.drewN ?_ _) | (with_reducible refine Below.drew ?_) | (with_reducible refine Below.allocS ?_ _) | ((with_reducible refine Below.setCell ?_ ?_ _); rotate_left; focus (first | omega | (simp; done) | (simp; omega))) | (with_reducible refine Below.step ?_ (by assumption)))); done)

def periodQ (x0 x1 : Nat) : Nat := fbin .mul .f32 (cn .f32 1086918619) (rootQ (fbin .quo .f32 (cn .f32 x0) (cn .f32 x1)))
set_option maxRecDepth 100000 in
set_option maxHeartbeats 8000000 in
theorem l02Small_any (x0 x1 x2 x3 x4 p : Nat) (w : World) (hH : Held [(⟨p, 0, none⟩, .float .f32 x0), (⟨p, 1, none⟩, .float .f32 x1), (⟨p, 2, none⟩, .float .f32 x2), (⟨p, 3, none⟩, .float .f32 x3), (⟨p, 4, none⟩, .float .f32 x4)] w) : Calls Try.prog 101 #[.pointer (some ⟨p, 0, none⟩)] w (BF .f32 (periodQ x0 x1) w) := by
  have hk := hH
  simp only [Held, and_true] at hk
  go_enter Try.func101, Try.ntmps101
  go_wp2_with fail
  refine region_calmA w (w.heap.size) [(⟨p, 0, none⟩, .float .f32 x0), (⟨p, 1, none⟩, .float .f32 x1), (⟨p, 2, none⟩, .float .f32 x2), (⟨p, 3, none⟩, .float .f32 x3), (⟨p, 4, none⟩, .float .f32 x4)] (fun f args v => ∃ r, v = .float .f32 r ∧ cn .f32 r = rootQ (cn .f32 (argF args 0 0))) [] (by kernel_rfl) (by kernel_rfl) (by kernel_rfl) ⟨⟨by simp [Held, go_sem, *], by (repeat (first | (with_reducible exact Below.refl _ _) | (with_reducible refine Below.drewN ?_ _) | (with_reducible refine Below.drew ?_) | (with_reducible refine Below.allocS ?_ _) | ((with_reducible refine Below.setCell ?_ ?_ _); rotate_left; focus (first | omega | (simp; done) | (simp; omega))) | (with_reducible refine Below.step ?_ (by assumption))))⟩, by (first | (simp; done) | (simp; omega) | omega)⟩ ?_
  repeat (first | (first | (refine calmA_plain rfl rfl ?_ (fun K hK w1 hC => ?_); (focus (intro _ _; simp [RA]; done)); have hC' := hC.1.1; simp only [Held, and_true] at hC'; go_wp2_with (first | (refine wpList_fbin rfl rfl rfl rfl rfl (fun r n hr => ?_)) | (refine wpList_widen rfl rfl Try.underlying30 Try.underlying22 rfl (fun r n hr => ?_))); refine ⟨rfl, (by first | exact Below.refl _ _ | exact below_drewN _), hK _ ?_⟩; clear hC hC' hK K w1) | (refine calmA_check rfl rfl rfl ?_ ?_; (focus (intro _ _; simp [RA]; done)))) | (refine calmA_call (f := 79) (args := _) rfl ?_ (by (intro w1; simp [execOp, resolve, invoke, go_sem]; with_reducible rfl)) (fun w1 hC => ?_) ?_; (focus (intro _ _; simp [RA]; done)); (focus (refine (l01Sqrt_any _ _).mono ?_; rintro e w2 ⟨r, n, he, hq, rfl⟩; exact ⟨_, he, ⟨_, rfl, hq⟩, below_drewN _⟩)); rintro v ⟨r, rfl, hq⟩; have HQ := Lib.hid hq; simp [argF] at HQ; clear hq))
  refine calmA_nil ?_
  intro w' hC hF
  have hC' := hC.1.1
  simp only [Held, and_true] at hC'
  go_wp2_with fail
  go_ret
  refine ⟨_, rfl, ?_, ?_⟩
  · unfold periodQ
    simp only [Hid] at *
    simp only [*]
  · (have hB := hC.1.2; (repeat (first | assumption | (with_reducible exact Below.refl _ _) | (with_reducible refine Below.drewN ?_ _) | (with_reducible refine Below.drew ?_) | (with_reducible refine Below.allocS ?_ _) | ((with_reducible refine Below.setCell ?_ ?_ _); rotate_left; focus (first | omega | (simp; done) | (simp; omega))) | (with_reducible refine Below.step ?_ (by assumption)))))

set_option maxRecDepth 100000 in
set_option maxHeartbeats 8000000 in
theorem period_any (x0 x1 x2 x3 x4 p : Nat) (w : World) (hH : Held [(⟨p, 0, none⟩, .float .f32 x0), (⟨p, 1, none⟩, .float .f32 x1), (⟨p, 2, none⟩, .float .f32 x2), (⟨p, 3, none⟩, .float .f32 x3), (⟨p, 4, none⟩, .float .f32 x4)] w) : Calls Try.prog 102 #[.pointer (some ⟨p, 0, none⟩)] w (BF .f32 (periodQ x0 x1) w) := by
  have hk := hH
  simp only [Held, and_true] at hk
  go_enter Try.func102, Try.ntmps102
  go_wp2_with fail
  refine region_calmA w (w.heap.size) [(⟨p, 0, none⟩, .float .f32 x0), (⟨p, 1, none⟩, .float .f32 x1), (⟨p, 2, none⟩, .float .f32 x2), (⟨p, 3, none⟩, .float .f32 x3), (⟨p, 4, none⟩, .float .f32 x4)] (fun f args v => ∃ r, v = .float .f32 r ∧ cn .f32 r = rootQ (cn .f32 (argF args 0 0))) [] (by kernel_rfl) (by kernel_rfl) (by kernel_rfl) ⟨⟨by simp [Held, go_sem, *], by (repeat (first | (with_reducible exact Below.refl _ _) | (with_reducible refine Below.drewN ?_ _) | (with_reducible refine Below.drew ?_) | (with_reducible refine Below.allocS ?_ _) | ((with_reducible refine Below.setCell ?_ ?_ _); rotate_left; focus (first | omega | (simp; done) | (simp; omega))) | (with_reducible refine Below.step ?_ (by assumption))))⟩, by (first | (simp; done) | (simp; omega) | omega)⟩ ?_
  repeat (first | (first | (refine calmA_plain rfl rfl ?_ (fun K hK w1 hC => ?_); (focus (intro _ _; simp [RA]; done)); have hC' := hC.1.1; simp only [Held, and_true] at hC'; go_wp2_with (first | (refine wpList_fbin rfl rfl rfl rfl rfl (fun r n hr => ?_)) | (refine wpList_widen rfl rfl Try.underlying30 Try.underlying22 rfl (fun r n hr => ?_))); refine ⟨rfl, (by first | exact Below.refl _ _ | exact below_drewN _), hK _ ?_⟩; clear hC hC' hK K w1) | (refine calmA_check rfl rfl rfl ?_ ?_; (focus (intro _ _; simp [RA]; done)))) | (refine calmA_call (f := 84) (args := _) rfl ?_ (by (intro w1; simp [execOp, resolve, invoke, go_sem]; with_reducible rfl)) (fun w1 hC => ?_) ?_; (focus (intro _ _; simp [RA]; done)); (focus (refine (RootNumber_any _ _).mono ?_; rintro e w2 ⟨r, n, he, hq, rfl⟩; exact ⟨_, he, ⟨_, rfl, hq⟩, below_drewN _⟩)); rintro v ⟨r, rfl, hq⟩; have HQ := Lib.hid hq; simp [argF] at HQ; clear hq))
  refine calmA_nil ?_
  intro w' hC hF
  have hC' := hC.1.1
  simp only [Held, and_true] at hC'
  go_wp2_with fail
  go_ret
  refine ⟨_, rfl, ?_, ?_⟩
  · unfold periodQ
    simp only [Hid] at *
    simp only [*]
  · (have hB := hC.1.2; (repeat (first | assumption | (with_reducible exact Below.refl _ _) | (with_reducible refine Below.drewN ?_ _) | (with_reducible refine Below.drew ?_) | (with_reducible refine Below.allocS ?_ _) | ((with_reducible refine Below.setCell ?_ ?_ _); rotate_left; focus (first | omega | (simp; done) | (simp; omega))) | (with_reducible refine Below.step ?_ (by assumption)))))

set_option maxRecDepth 100000 in
set_option maxHeartbeats 8000000 in
theorem specSmallPeriod_any (x0 x1 x2 x3 x4 : Nat) (w : World) : Calls Try.prog 48 #[.agg #[.float .f32 x0, .float .f32 x1, .float .f32 x2, .float .f32 x3, .float .f32 x4]] w (PF (condF (pendB x0 x1 x2 x3 x4 && finB .f32 (periodQ x0 x1)) (periodQ x0 x1)) (pendB x0 x1 x2 x3 x4 && finB .f32 (periodQ x0 x1)) w) := by
  cases h1 : pendB x0 x1 x2 x3 x4
  all_goals
    go_enter Try.func48, Try.ntmps48
    go_wp2_with (first | (go_at_call 55; refine (l02Is_any x0 x1 x2 x3 x4 _ _ ?_ ?_ ?_ ?_ ?_).mono ?_; (focus (simp [go_sem]; done)); (focus (simp [go_sem]; done)); (focus (simp [go_sem]; done)); (focus (simp [go_sem]; done)); (focus (simp [go_sem]; done)); rintro e w' ⟨n, rfl, rfl⟩) | (go_at_call 101; refine (l02Small_any x0 x1 x2 x3 x4 _ _ ?_).mono ?_; (focus (simp [Held, go_sem]; done)); rintro e w2 ⟨r, rfl, hq, hb⟩; have HQ := Lib.hid hq; clear hq) | (go_at_call 57; refine (l02Number_any _ _).mono ?_; rintro e w3 ⟨n, rfl, rfl⟩))
    go_ret2
    first
      | ((refine pf_told (Q := periodQ x0 x1) HQ.out (by simp) ?_); (repeat (first | assumption | (with_reducible exact Below.refl _ _) | (with_reducible refine Below.drewN ?_ _) | (with_reducible refine Below.drew ?_) | (with_reducible refine Below.allocS ?_ _) | ((with_reducible refine Below.setCell ?_ ?_ _); rotate_left; focus (first | omega | (simp; done) | (simp; omega))) | (with_reducible refine Below.step ?_ (by assumption)))); done)
      | ((refine pf_none (by simp) ?_); (repeat (first | assumption | (with_reducible exact Below.refl _ _) | (with_reducible refine Below.drewN ?_ _) | (with_reducible refine Below.drew ?_) | (with_reducible refine Below.allocS ?_ _) | ((with_reducible refine Below.setCell ?_ ?_ _); rotate_left; focus (first | omega | (simp; done) | (simp; omega))) | (with_reducible refine Below.step ?_ (by assumption)))); done)

set_option maxRecDepth 100000 in
set_option maxHeartbeats 8000000 in
theorem implSmallPeriod_any (x0 x1 x2 x3 x4 : Nat) (w : World) : Calls Try.prog 49 #[.agg #[.float .f32 x0, .float .f32 x1, .float .f32 x2, .float .f32 x3, .float .f32 x4]] w (PF (condF (pendB x0 x1 x2 x3 x4 && finB .f32 (periodQ x0 x1)) (periodQ x0 x1)) (pendB x0 x1 x2 x3 x4 && finB .f32 (periodQ x0 x1)) w) := by
  go_enter Try.func49, Try.ntmps49
  go_wp2_with (first | (go_at_call 59; refine (ofPendulum_nil x0 x1 x2 x3 x4 _ _ (periodQ x0 x1) _ ?_ ?_).mono ?_; (focus (intro w1; simp [go_sem]; done)); (focus (intro w1 hb1; exact period_any x0 x1 x2 x3 x4 _ _ (Held.below hb1 (by simp [Held, go_sem])))); rintro e w2 ⟨r, rfl, hq, hb⟩; have HQ := Lib.hid hq; clear hq))
  go_ret2
  refine ⟨_, rfl, HQ.out, ?_⟩
  (repeat (first | assumption | (with_reducible exact Below.refl _ _) | (with_reducible refine Below.drewN ?_ _) | (with_reducible refine Below.drew ?_) | (with_reducible refine Below.allocS ?_ _) | ((with_reducible refine Below.setCell ?_ ?_ _); rotate_left; focus (first | omega | (simp; done) | (simp; omega))) | (with_reducible refine Below.step ?_ (by assumption))))

set_option maxRecDepth 100000 in
set_option maxHeartbeats 4000000 in
theorem lawSmallPeriod_walk (x0 x1 x2 x3 x4 : Nat) (_ : x0 < 4294967296) (_ : x1 < 4294967296) (_ : x2 < 4294967296) (_ : x3 < 4294967296) (_ : x4 < 4294967296) (w : World) : Calls Try.prog 13 #[.agg #[.float .f32 x0, .float .f32 x1, .float .f32 x2, .float .f32 x3, .float .f32 x4]] w fun e w' => e = .returned (.bool true) ∧ Below w.heap.size w w' := by
  go_enter Try.func13, Try.ntmps13
  go_wp2_with fail
  refine (toPendulum_any x0 x1 x2 x3 x4 _).mono ?_
  rintro e w0 ⟨rfl, hb⟩
  have hk := Held.below hb (l := [(⟨w.heap.size, 0, none⟩, .float .f32 x0), (⟨w.heap.size, 1, none⟩, .float .f32 x1), (⟨w.heap.size, 2, none⟩, .float .f32 x2), (⟨w.heap.size, 3, none⟩, .float .f32 x3), (⟨w.heap.size, 4, none⟩, .float .f32 x4)]) (by simp [Held, go_sem, *])
  simp only [Held, and_true] at hk
  go_wp2_with fail
  refine (specSmallPeriod_any x0 x1 x2 x3 x4 _).mono ?_
  rintro e w1 ⟨r0_0, rfl, q0_0, hb⟩
  have Hq0_0 := Lib.hid q0_0
  clear q0_0
  have hk := Held.below hb (l := [(⟨w.heap.size, 0, none⟩, .float .f32 x0), (⟨w.heap.size, 1, none⟩, .float .f32 x1), (⟨w.heap.size, 2, none⟩, .float .f32 x2), (⟨w.heap.size, 3, none⟩, .float .f32 x3), (⟨w.heap.size, 4, none⟩, .float .f32 x4)]) (by simp [Held, go_sem, *])
  simp only [Held, and_true] at hk
  go_wp2_with fail
  refine (toPendulum_any x0 x1 x2 x3 x4 _).mono ?_
  rintro e w2 ⟨rfl, hb⟩
  have hk := Held.below hb (l := [(⟨w.heap.size, 0, none⟩, .float .f32 x0), (⟨w.heap.size, 1, none⟩, .float .f32 x1), (⟨w.heap.size, 2, none⟩, .float .f32 x2), (⟨w.heap.size, 3, none⟩, .float .f32 x3), (⟨w.heap.size, 4, none⟩, .float .f32 x4)]) (by simp [Held, go_sem, *])
  simp only [Held, and_true] at hk
  go_wp2_with fail
  refine (implSmallPeriod_any x0 x1 x2 x3 x4 _).mono ?_
  rintro e w3 ⟨r1_0, rfl, q1_0, hb⟩
  have Hq1_0 := Lib.hid q1_0
  clear q1_0
  have hk := Held.below hb (l := [(⟨w.heap.size, 0, none⟩, .float .f32 x0), (⟨w.heap.size, 1, none⟩, .float .f32 x1), (⟨w.heap.size, 2, none⟩, .float .f32 x2), (⟨w.heap.size, 3, none⟩, .float .f32 x3), (⟨w.heap.size, 4, none⟩, .float .f32 x4)]) (by simp [Held, go_sem, *])
  simp only [Held, and_true] at hk
  go_wp2_with (first | (refine wpList_widen rfl rfl Try.underlying30 Try.underlying22 rfl (fun r n hr => ?_)) | (go_at_call 18; refine (sameFloat_any _ _ _ (widen_same (Hid.out (by assumption)) (Hid.out (by assumption)) (Hq1_0.out.trans Hq0_0.out.symm))).mono ?_; rintro e w' ⟨n, rfl, rfl⟩))
  go_ret
  refine ⟨rfl, ?_⟩
  (try have hB := hC.1.2)
  (repeat (first | assumption | (with_reducible exact Below.refl _ _) | (with_reducible refine Below.drewN ?_ _) | (with_reducible refine Below.drew ?_) | (with_reducible refine Below.allocS ?_ _) | ((with_reducible refine Below.setCell ?_ ?_ _); rotate_left; focus (first | omega | (simp; done) | (simp; omega))) | (with_reducible refine Below.step ?_ (by assumption))))

end Go.Proofs.Ytjfmcmdhkmcpiaa
