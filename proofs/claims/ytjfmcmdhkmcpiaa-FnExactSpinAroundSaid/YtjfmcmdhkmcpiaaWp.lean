/-
  The walks of the program's sine at every number; of what pulls and drives a pendulum.
-/
import Derived.Test.YtjfmcmdhkmcpiaaWn
set_option linter.unusedVariables false
set_option linter.unusedSimpArgs false
namespace Go.Proofs.Ytjfmcmdhkmcpiaa
open Go.RowKit

set_option maxRecDepth 100000 in
theorem SineTurns_any (x : Nat) (w : World) : Calls Try.prog 68 #[.float .f32 x] w (RF .f32 (sineQ (cn .f32 x)) w) := by
  cases hf : finB .f32 x
  · go_enter Try.func68, Try.ntmps68
    go_wp2_with (first | (refine wpList_widen rfl rfl Try.underlying30 Try.underlying22 rfl (fun r n hr => ?_)) | (go_at_call 96; refine (IsFinite_any _ _).mono ?_; rintro e w' ⟨n, rfl, rfl⟩) | (go_at_call 108; refine (mathNaN_any _).mono ?_; rintro e w' ⟨n, rfl, rfl⟩) | (refine wpList_narrow rfl rfl Try.underlying22 Try.underlying30 rfl (fun r n hr => ?_)))
    go_ret
    refine ⟨_, _, rfl, ?_, rfl⟩
    unfold sineQ
    rw [finB_cn, hf, hr.out nan561_ok, nan561_conv]
    rfl
  · cases hbig : bigB (fconv .f32 .f64 (cn .f32 x))
    · exact SineTurns_fin x w hf hbig
    · obtain ⟨Y, hY⟩ : ∃ Y, Hid (fconv .f32 .f64 (cn .f32 x) = Y) := ⟨_, rfl⟩
      have hYf : finB .f64 Y = true := by rw [← hY.out, widen_fin, finB_cn]; exact hf
      have hYw2 : Y < 18446744073709551616 := by rw [← hY.out]; exact fconv_lt ..
      have hYn : isN .f64 Y = false := isN_of_fin hYf
      obtain ⟨s, m, p, hd⟩ := fin_num hYf
      have habs : geF .f64 (Y % 9223372036854775808) 4841369599423283200 = true := by rw [abs_ge hd, ← hY.out, hbig]
      have hQ : Hid (sineQ (cn .f32 x) = 0) := by
        show sineQ (cn .f32 x) = _
        unfold sineQ
        rw [finB_cn, hf, hbig]
        rfl
      clear hd hbig
      go_enter Try.func68, Try.ntmps68
      go_wp2_with (first | ((refine wpList_widen rfl rfl Try.underlying30 Try.underlying22 rfl (fun r n hr => ?_)); obtain rfl := (exact_of (hr.out.trans hY.out) hYn).symm; clear hr) | (go_at_call 96; refine (IsFinite_any _ _).mono ?_; rintro e w' ⟨n, rfl, rfl⟩) | (go_at_call 109; refine (mathAbs_any _ _ hYw2).mono ?_; rintro e w' ⟨n, rfl, rfl⟩))
      go_ret
      exact ⟨_, _, rfl, by rw [hQ.out]; exact cn_zero, rfl⟩

def pullQ (long pull turn : Nat) : Nat := fneg .f32 (fbin .mul .f32 (fbin .quo .f32 (cn .f32 pull) (cn .f32 long)) (fbin .quo .f32 (sineQ (cn .f32 turn)) (cn .f32 1086918619)))
def driveQ (drive rate time : Nat) : Nat := fbin .mul .f32 (cn .f32 drive) (sineQ (fbin .mul .f32 (cn .f32 rate) (cn .f32 time)))
def forceQ (x0 x1 x2 x3 x4 s0 s1 s2 : Nat) : Nat := fbin .add .f32 (fbin .sub .f32 (pullQ x0 x1 s0) (mulC x2 s1)) (driveQ x3 x4 s2)

set_option maxRecDepth 100000 in
set_option maxHeartbeats 4000000 in
theorem l02Pull_any (x0 x1 x2 x3 x4 z p : Nat) (w : World) (hH : Held [(⟨p, 0, none⟩, .float .f32 x0), (⟨p, 1, none⟩, .float .f32 x1), (⟨p, 2, none⟩, .float .f32 x2), (⟨p, 3, none⟩, .float .f32 x3), (⟨p, 4, none⟩, .float .f32 x4)] w) : Calls Try.prog 62 #[.pointer (some ⟨p, 0, none⟩), .float .f32 z] w (BF .f32 (pullQ x0 x1 z) w) := by
  have hk := hH
  simp only [Held, and_true] at hk
  go_enter Try.func62, Try.ntmps62
  go_wp2_with fail
  refine region_calmA w (w.heap.size) [(⟨p, 0, none⟩, .float .f32 x0), (⟨p, 1, none⟩, .float .f32 x1), (⟨p, 2, none⟩, .float .f32 x2), (⟨p, 3, none⟩, .float .f32 x3), (⟨p, 4, none⟩, .float .f32 x4)] (fun f args v => ∃ r, v = .float .f32 r ∧ cn .f32 r = sineQ (cn .f32 (argF args 0 0))) [] (by kernel_rfl) (by kernel_rfl) (by kernel_rfl) ⟨⟨by simp [Held, go_sem, *], by (repeat (first | (with_reducible exact Below.refl _ _) | (with_reducible refine Below.drewN ?_ _) | (with_reducible refine Below.drew ?_) | (with_reducible refine Below.allocS ?_ _) | ((with_reducible refine Below.setCell ?_ ?_ _); rotate_left; focus (first | omega | (simp; done) | (simp; omega))) | (with_reducible refine Below.step ?_ (by assumption))))⟩, by (first | (simp; done) | (simp; omega) | omega)⟩ ?_
  repeat (first | (first | (refine calmA_plain rfl rfl ?_ (fun K hK w1 hC => ?_); (focus (intro _ _; simp [RA]; done)); have hC' := hC.1.1; simp only [Held, and_true] at hC'; go_wp2_with (first | (refine wpList_fbin rfl rfl rfl rfl rfl (fun r n hr => ?_)) | (refine wpList_widen rfl rfl Try.underlying30 Try.underlying22 rfl (fun r n hr => ?_))); refine ⟨rfl, (by first | exact Below.refl _ _ | exact below_drewN _), hK _ ?_⟩; clear hC hC' hK K w1) | (refine calmA_check rfl rfl rfl ?_ ?_; (focus (intro _ _; simp [RA]; done)))) | (refine calmA_call (f := 66) (args := _) rfl ?_ (by (intro w1; simp [execOp, resolve, invoke, go_sem]; with_reducible rfl)) (fun w1 hC => ?_) ?_; (focus (intro _ _; simp [RA]; done)); (focus (refine (l01Sine_any _ _).mono ?_; rintro e w2 ⟨r, n, he, hq, rfl⟩; exact ⟨_, he, ⟨_, rfl, hq⟩, below_drewN _⟩)); rintro v ⟨r, rfl, hq⟩; have HQ := Lib.hid hq; simp [argF] at HQ; clear hq))
  refine calmA_nil ?_
  intro w' hC hF
  have hC' := hC.1.1
  simp only [Held, and_true] at hC'
  go_wp2_with fail
  go_ret
  refine ⟨_, rfl, ?_, ?_⟩
  · unfold pullQ
    rw [cn_neg]
    simp only [Hid] at *
    simp only [*]
  · (have hB := hC.1.2; (repeat (first | assumption | (with_reducible exact Below.refl _ _) | (with_reducible refine Below.drewN ?_ _) | (with_reducible refine Below.drew ?_) | (with_reducible refine Below.allocS ?_ _) | ((with_reducible refine Below.setCell ?_ ?_ _); rotate_left; focus (first | omega | (simp; done) | (simp; omega))) | (with_reducible refine Below.step ?_ (by assumption)))))

set_option maxRecDepth 100000 in
set_option maxHeartbeats 4000000 in
theorem l02Drive_any (x0 x1 x2 x3 x4 z p : Nat) (w : World) (hH : Held [(⟨p, 0, none⟩, .float .f32 x0), (⟨p, 1, none⟩, .float .f32 x1), (⟨p, 2, none⟩, .float .f32 x2), (⟨p, 3, none⟩, .float .f32 x3), (⟨p, 4, none⟩, .float .f32 x4)] w) : Calls Try.prog 58 #[.pointer (some ⟨p, 0, none⟩), .float .f32 z] w (BF .f32 (driveQ x3 x4 z) w) := by
  have hk := hH
  simp only [Held, and_true] at hk
  go_enter Try.func58, Try.ntmps58
  go_wp2_with fail
  refine region_calmA w (w.heap.size) [(⟨p, 0, none⟩, .float .f32 x0), (⟨p, 1, none⟩, .float .f32 x1), (⟨p, 2, none⟩, .float .f32 x2), (⟨p, 3, none⟩, .float .f32 x3), (⟨p, 4, none⟩, .float .f32 x4)] (fun f args v => ∃ r, v = .float .f32 r ∧ cn .f32 r = sineQ (cn .f32 (argF args 0 0))) [] (by kernel_rfl) (by kernel_rfl) (by kernel_rfl) ⟨⟨by simp [Held, go_sem, *], by (repeat (first | (with_reducible exact Below.refl _ _) | (with_reducible refine Below.drewN ?_ _) | (with_reducible refine Below.drew ?_) | (with_reducible refine Below.allocS ?_ _) | ((with_reducible refine Below.setCell ?_ ?_ _); rotate_left; focus (first | omega | (simp; done) | (simp; omega))) | (with_reducible refine Below.step ?_ (by assumption))))⟩, by (first | (simp; done) | (simp; omega) | omega)⟩ ?_
  repeat (first | (first | (refine calmA_plain rfl rfl ?_ (fun K hK w1 hC => ?_); (focus (intro _ _; simp [RA]; done)); have hC' := hC.1.1; simp only [Held, and_true] at hC'; go_wp2_with (first | (refine wpList_fbin rfl rfl rfl rfl rfl (fun r n hr => ?_)) | (refine wpList_widen rfl rfl Try.underlying30 Try.underlying22 rfl (fun r n hr => ?_))); refine ⟨rfl, (by first | exact Below.refl _ _ | exact below_drewN _), hK _ ?_⟩; clear hC hC' hK K w1) | (refine calmA_check rfl rfl rfl ?_ ?_; (focus (intro _ _; simp [RA]; done)))) | (refine calmA_call (f := 66) (args := _) rfl ?_ (by (intro w1; simp [execOp, resolve, invoke, go_sem]; with_reducible rfl)) (fun w1 hC => ?_) ?_; (focus (intro _ _; simp [RA]; done)); (focus (refine (l01Sine_any _ _).mono ?_; rintro e w2 ⟨r, n, he, hq, rfl⟩; exact ⟨_, he, ⟨_, rfl, hq⟩, below_drewN _⟩)); rintro v ⟨r, rfl, hq⟩; have HQ := Lib.hid hq; simp [argF] at HQ; clear hq))
  refine calmA_nil ?_
  intro w' hC hF
  have hC' := hC.1.1
  simp only [Held, and_true] at hC'
  go_wp2_with fail
  go_ret
  refine ⟨_, rfl, ?_, ?_⟩
  · unfold driveQ
    simp only [Hid] at *
    simp only [*]
  · (have hB := hC.1.2; (repeat (first | assumption | (with_reducible exact Below.refl _ _) | (with_reducible refine Below.drewN ?_ _) | (with_reducible refine Below.drew ?_) | (with_reducible refine Below.allocS ?_ _) | ((with_reducible refine Below.setCell ?_ ?_ _); rotate_left; focus (first | omega | (simp; done) | (simp; omega))) | (with_reducible refine Below.step ?_ (by assumption)))))

set_option maxRecDepth 100000 in
set_option maxHeartbeats 4000000 in
theorem l02Force_any (x0 x1 x2 x3 x4 s0 s1 s2 p : Nat) (w : World) (hH : Held [(⟨p, 0, none⟩, .float .f32 x0), (⟨p, 1, none⟩, .float .f32 x1), (⟨p, 2, none⟩, .float .f32 x2), (⟨p, 3, none⟩, .float .f32 x3), (⟨p, 4, none⟩, .float .f32 x4)] w) : Calls Try.prog 74 #[.pointer (some ⟨p, 0, none⟩), .agg #[.float .f32 s0, .float .f32 s1, .float .f32 s2]] w (BF .f32 (forceQ x0 x1 x2 x3 x4 s0 s1 s2) w) := by
  have hk := hH
  simp only [Held, and_true] at hk
  have hp0 := hk.1.1
  have hp1 : p < w.heap.size + 1 := by omega
  go_enter Try.func74, Try.ntmps74
  go_wp2_with fail
  refine region_calmA w (w.heap.size + 1) [(⟨p, 0, none⟩, .float .f32 x0), (⟨p, 1, none⟩, .float .f32 x1), (⟨p, 2, none⟩, .float .f32 x2), (⟨p, 3, none⟩, .float .f32 x3), (⟨p, 4, none⟩, .float .f32 x4), (⟨w.heap.size, 0, none⟩, .float .f32 s0), (⟨w.heap.size, 1, none⟩, .float .f32 s1), (⟨w.heap.size, 2, none⟩, .float .f32 s2)] (fun f args v => if f = 62 then (∃ r, v = .float .f32 r ∧ cn .f32 r = pullQ x0 x1 (argF args 1 0)) else (∃ r, v = .float .f32 r ∧ cn .f32 r = driveQ x3 x4 (argF args 1 0))) [] (by kernel_rfl) (by kernel_rfl) (by kernel_rfl) ⟨⟨by simp [Held, go_sem, *], by (repeat (first | (with_reducible exact Below.refl _ _) | (with_reducible refine Below.drewN ?_ _) | (with_reducible refine Below.drew ?_) | (with_reducible refine Below.allocS ?_ _) | ((with_reducible refine Below.setCell ?_ ?_ _); rotate_left; focus (first | omega | (simp; done) | (simp; omega))) | (with_reducible refine Below.step ?_ (by assumption))))⟩, by (first | (simp; done) | (simp; omega) | omega)⟩ ?_
  repeat (first | (first | (refine calmA_plain rfl rfl ?_ (fun K hK w1 hC => ?_); (focus (intro _ _; simp [RA]; done)); have hC' := hC.1.1; simp only [Held, and_true] at hC'; go_wp2_with (first | (refine wpList_fbin rfl rfl rfl rfl rfl (fun r n hr => ?_)) | (refine wpList_widen rfl rfl Try.underlying30 Try.underlying22 rfl (fun r n hr => ?_))); refine ⟨rfl, (by first | exact Below.refl _ _ | exact below_drewN _), hK _ ?_⟩; clear hC hC' hK K w1) | (refine calmA_check rfl rfl rfl ?_ ?_; (focus (intro _ _; simp [RA]; done)))) | (refine calmA_call (f := 62) (args := _) rfl ?_ (by (intro w1; simp [execOp, resolve, invoke, go_sem]; with_reducible rfl)) (fun w1 hC => ?_) ?_; (focus (intro _ _; simp [RA]; done)); (focus (have hC' := hC.1.1; simp only [Held, and_true] at hC'; refine (l02Pull_any x0 x1 x2 x3 x4 _ _ _ ?_).mono ?_; (focus (simp [Held, *]; done)); rintro e w2 ⟨r, he, hq, hb⟩; exact ⟨_, he, by simp [argF]; exact hq, hb⟩)); rintro v hv; simp [argF] at hv; obtain ⟨r, rfl, hq⟩ := hv; have HQ := Lib.hid hq; clear hq) | (refine calmA_call (f := 58) (args := _) rfl ?_ (by (intro w1; simp [execOp, resolve, invoke, go_sem]; with_reducible rfl)) (fun w1 hC => ?_) ?_; (focus (intro _ _; simp [RA]; done)); (focus (have hC' := hC.1.1; simp only [Held, and_true] at hC'; refine (l02Drive_any x0 x1 x2 x3 x4 _ _ _ ?_).mono ?_; (focus (simp [Held, *]; done)); rintro e w2 ⟨r, he, hq, hb⟩; exact ⟨_, he, by simp [argF]; exact hq, hb⟩)); rintro v hv; simp [argF] at hv; obtain ⟨r, rfl, hq⟩ := hv; have HQ := Lib.hid hq; clear hq))
  refine calmA_nil ?_
  intro w' hC hF
  have hC' := hC.1.1
  simp only [Held, and_true] at hC'
  go_wp2_with fail
  go_ret
  refine ⟨_, rfl, ?_, ?_⟩
  · unfold forceQ mulC
    simp only [Hid] at *
    simp only [*]
  · (have hB := hC.1.2; (repeat (first | assumption | (with_reducible exact Below.refl _ _) | (with_reducible refine Below.drewN ?_ _) | (with_reducible refine Below.drew ?_) | (with_reducible refine Below.allocS ?_ _) | ((with_reducible refine Below.setCell ?_ ?_ _); rotate_left; focus (first | omega | (simp; done) | (simp; omega))) | (with_reducible refine Below.step ?_ (by assumption)))))

set_option maxRecDepth 100000 in
set_option maxHeartbeats 4000000 in
theorem pull_any (x0 x1 x2 x3 x4 z p : Nat) (w : World) (hH : Held [(⟨p, 0, none⟩, .float .f32 x0), (⟨p, 1, none⟩, .float .f32 x1), (⟨p, 2, none⟩, .float .f32 x2), (⟨p, 3, none⟩, .float .f32 x3), (⟨p, 4, none⟩, .float .f32 x4)] w) : Calls Try.prog 64 #[.pointer (some ⟨p, 0, none⟩), .float .f32 z] w (BF .f32 (pullQ x0 x1 z) w) := by
  have hk := hH
  simp only [Held, and_true] at hk
  go_enter Try.func64, Try.ntmps64
  go_wp2_with fail
  refine region_calmA w (w.heap.size) [(⟨p, 0, none⟩, .float .f32 x0), (⟨p, 1, none⟩, .float .f32 x1), (⟨p, 2, none⟩, .float .f32 x2), (⟨p, 3, none⟩, .float .f32 x3), (⟨p, 4, none⟩, .float .f32 x4)] (fun f args v => ∃ r, v = .float .f32 r ∧ cn .f32 r = sineQ (cn .f32 (argF args 0 0))) [] (by kernel_rfl) (by kernel_rfl) (by kernel_rfl) ⟨⟨by simp [Held, go_sem, *], by (repeat (first | (with_reducible exact Below.refl _ _) | (with_reducible refine Below.drewN ?_ _) | (with_reducible refine Below.drew ?_) | (with_reducible refine Below.allocS ?_ _) | ((with_reducible refine Below.setCell ?_ ?_ _); rotate_left; focus (first | omega | (simp; done) | (simp; omega))) | (with_reducible refine Below.step ?_ (by assumption))))⟩, by (first | (simp; done) | (simp; omega) | omega)⟩ ?_
  repeat (first | (first | (refine calmA_plain rfl rfl ?_ (fun K hK w1 hC => ?_); (focus (intro _ _; simp [RA]; done)); have hC' := hC.1.1; simp only [Held, and_true] at hC'; go_wp2_with (first | (refine wpList_fbin rfl rfl rfl rfl rfl (fun r n hr => ?_)) | (refine wpList_widen rfl rfl Try.underlying30 Try.underlying22 rfl (fun r n hr => ?_))); refine ⟨rfl, (by first | exact Below.refl _ _ | exact below_drewN _), hK _ ?_⟩; clear hC hC' hK K w1) | (refine calmA_check rfl rfl rfl ?_ ?_; (focus (intro _ _; simp [RA]; done)))) | (refine calmA_call (f := 68) (args := _) rfl ?_ (by (intro w1; simp [execOp, resolve, invoke, go_sem]; with_reducible rfl)) (fun w1 hC => ?_) ?_; (focus (intro _ _; simp [RA]; done)); (focus (refine (SineTurns_any _ _).mono ?_; rintro e w2 ⟨r, n, he, hq, rfl⟩; exact ⟨_, he, ⟨_, rfl, hq⟩, below_drewN _⟩)); rintro v ⟨r, rfl, hq⟩; have HQ := Lib.hid hq; simp [argF] at HQ; clear hq))
  refine calmA_nil ?_
  intro w' hC hF
  have hC' := hC.1.1
  simp only [Held, and_true] at hC'
  go_wp2_with fail
  go_ret
  refine ⟨_, rfl, ?_, ?_⟩
  · unfold pullQ
    rw [cn_neg]
    simp only [Hid] at *
    simp only [*]
  · (have hB := hC.1.2; (repeat (first | assumption | (with_reducible exact Below.refl _ _) | (with_reducible refine Below.drewN ?_ _) | (with_reducible refine Below.drew ?_) | (with_reducible refine Below.allocS ?_ _) | ((with_reducible refine Below.setCell ?_ ?_ _); rotate_left; focus (first | omega | (simp; done) | (simp; omega))) | (with_reducible refine Below.step ?_ (by assumption)))))

set_option maxRecDepth 100000 in
set_option maxHeartbeats 4000000 in
theorem drive_any (x0 x1 x2 x3 x4 z p : Nat) (w : World) (hH : Held [(⟨p, 0, none⟩, .float .f32 x0), (⟨p, 1, none⟩, .float .f32 x1), (⟨p, 2, none⟩, .float .f32 x2), (⟨p, 3, none⟩, .float .f32 x3), (⟨p, 4, none⟩, .float .f32 x4)] w) : Calls Try.prog 61 #[.pointer (some ⟨p, 0, none⟩), .float .f32 z] w (BF .f32 (driveQ x3 x4 z) w) := by
  have hk := hH
  simp only [Held, and_true] at hk
  go_enter Try.func61, Try.ntmps61
  go_wp2_with fail
  refine region_calmA w (w.heap.size) [(⟨p, 0, none⟩, .float .f32 x0), (⟨p, 1, none⟩, .float .f32 x1), (⟨p, 2, none⟩, .float .f32 x2), (⟨p, 3, none⟩, .float .f32 x3), (⟨p, 4, none⟩, .float .f32 x4)] (fun f args v => ∃ r, v = .float .f32 r ∧ cn .f32 r = sineQ (cn .f32 (argF args 0 0))) [] (by kernel_rfl) (by kernel_rfl) (by kernel_rfl) ⟨⟨by simp [Held, go_sem, *], by (repeat (first | (with_reducible exact Below.refl _ _) | (with_reducible refine Below.drewN ?_ _) | (with_reducible refine Below.drew ?_) | (with_reducible refine Below.allocS ?_ _) | ((with_reducible refine Below.setCell ?_ ?_ _); rotate_left; focus (first | omega | (simp; done) | (simp; omega))) | (with_reducible refine Below.step ?_ (by assumption))))⟩, by (first | (simp; done) | (simp; omega) | omega)⟩ ?_
  repeat (first | (first | (refine calmA_plain rfl rfl ?_ (fun K hK w1 hC => ?_); (focus (intro _ _; simp [RA]; done)); have hC' := hC.1.1; simp only [Held, and_true] at hC'; go_wp2_with (first | (refine wpList_fbin rfl rfl rfl rfl rfl (fun r n hr => ?_)) | (refine wpList_widen rfl rfl Try.underlying30 Try.underlying22 rfl (fun r n hr => ?_))); refine ⟨rfl, (by first | exact Below.refl _ _ | exact below_drewN _), hK _ ?_⟩; clear hC hC' hK K w1) | (refine calmA_check rfl rfl rfl ?_ ?_; (focus (intro _ _; simp [RA]; done)))) | (refine calmA_call (f := 68) (args := _) rfl ?_ (by (intro w1; simp [execOp, resolve, invoke, go_sem]; with_reducible rfl)) (fun w1 hC => ?_) ?_; (focus (intro _ _; simp [RA]; done)); (focus (refine (SineTurns_any _ _).mono ?_; rintro e w2 ⟨r, n, he, hq, rfl⟩; exact ⟨_, he, ⟨_, rfl, hq⟩, below_drewN _⟩)); rintro v ⟨r, rfl, hq⟩; have HQ := Lib.hid hq; simp [argF] at HQ; clear hq))
  refine calmA_nil ?_
  intro w' hC hF
  have hC' := hC.1.1
  simp only [Held, and_true] at hC'
  go_wp2_with fail
  go_ret
  refine ⟨_, rfl, ?_, ?_⟩
  · unfold driveQ
    simp only [Hid] at *
    simp only [*]
  · (have hB := hC.1.2; (repeat (first | assumption | (with_reducible exact Below.refl _ _) | (with_reducible refine Below.drewN ?_ _) | (with_reducible refine Below.drew ?_) | (with_reducible refine Below.allocS ?_ _) | ((with_reducible refine Below.setCell ?_ ?_ _); rotate_left; focus (first | omega | (simp; done) | (simp; omega))) | (with_reducible refine Below.step ?_ (by assumption)))))

set_option maxRecDepth 100000 in
set_option maxHeartbeats 4000000 in
theorem force_any (x0 x1 x2 x3 x4 s0 s1 s2 p : Nat) (w : World) (hH : Held [(⟨p, 0, none⟩, .float .f32 x0), (⟨p, 1, none⟩, .float .f32 x1), (⟨p, 2, none⟩, .float .f32 x2), (⟨p, 3, none⟩, .float .f32 x3), (⟨p, 4, none⟩, .float .f32 x4)] w) : Calls Try.prog 76 #[.pointer (some ⟨p, 0, none⟩), .agg #[.float .f32 s0, .float .f32 s1, .float .f32 s2]] w (BF .f32 (forceQ x0 x1 x2 x3 x4 s0 s1 s2) w) := by
  have hk := hH
  simp only [Held, and_true] at hk
  have hp0 := hk.1.1
  have hp1 : p < w.heap.size + 1 := by omega
  go_enter Try.func76, Try.ntmps76
  go_wp2_with fail
  refine region_calmA w (w.heap.size + 1) [(⟨p, 0, none⟩, .float .f32 x0), (⟨p, 1, none⟩, .float .f32 x1), (⟨p, 2, none⟩, .float .f32 x2), (⟨p, 3, none⟩, .float .f32 x3), (⟨p, 4, none⟩, .float .f32 x4), (⟨w.heap.size, 0, none⟩, .float .f32 s0), (⟨w.heap.size, 1, none⟩, .float .f32 s1), (⟨w.heap.size, 2, none⟩, .float .f32 s2)] (fun f args v => if f = 64 then (∃ r, v = .float .f32 r ∧ cn .f32 r = pullQ x0 x1 (argF args 1 0)) else (∃ r, v = .float .f32 r ∧ cn .f32 r = driveQ x3 x4 (argF args 1 0))) [] (by kernel_rfl) (by kernel_rfl) (by kernel_rfl) ⟨⟨by simp [Held, go_sem, *], by (repeat (first | (with_reducible exact Below.refl _ _) | (with_reducible refine Below.drewN ?_ _) | (with_reducible refine Below.drew ?_) | (with_reducible refine Below.allocS ?_ _) | ((with_reducible refine Below.setCell ?_ ?_ _); rotate_left; focus (first | omega | (simp; done) | (simp; omega))) | (with_reducible refine Below.step ?_ (by assumption))))⟩, by (first | (simp; done) | (simp; omega) | omega)⟩ ?_
  repeat (first | (first | (refine calmA_plain rfl rfl ?_ (fun K hK w1 hC => ?_); (focus (intro _ _; simp [RA]; done)); have hC' := hC.1.1; simp only [Held, and_true] at hC'; go_wp2_with (first | (refine wpList_fbin rfl rfl rfl rfl rfl (fun r n hr => ?_)) | (refine wpList_widen rfl rfl Try.underlying30 Try.underlying22 rfl (fun r n hr => ?_))); refine ⟨rfl, (by first | exact Below.refl _ _ | exact below_drewN _), hK _ ?_⟩; clear hC hC' hK K w1) | (refine calmA_check rfl rfl rfl ?_ ?_; (focus (intro _ _; simp [RA]; done)))) | (refine calmA_call (f := 64) (args := _) rfl ?_ (by (intro w1; simp [execOp, resolve, invoke, go_sem]; with_reducible rfl)) (fun w1 hC => ?_) ?_; (focus (intro _ _; simp [RA]; done)); (focus (have hC' := hC.1.1; simp only [Held, and_true] at hC'; refine (pull_any x0 x1 x2 x3 x4 _ _ _ ?_).mono ?_; (focus (simp [Held, *]; done)); rintro e w2 ⟨r, he, hq, hb⟩; exact ⟨_, he, by simp [argF]; exact hq, hb⟩)); rintro v hv; simp [argF] at hv; obtain ⟨r, rfl, hq⟩ := hv; have HQ := Lib.hid hq; clear hq) | (refine calmA_call (f := 61) (args := _) rfl ?_ (by (intro w1; simp [execOp, resolve, invoke, go_sem]; with_reducible rfl)) (fun w1 hC => ?_) ?_; (focus (intro _ _; simp [RA]; done)); (focus (have hC' := hC.1.1; simp only [Held, and_true] at hC'; refine (drive_any x0 x1 x2 x3 x4 _ _ _ ?_).mono ?_; (focus (simp [Held, *]; done)); rintro e w2 ⟨r, he, hq, hb⟩; exact ⟨_, he, by simp [argF]; exact hq, hb⟩)); rintro v hv; simp [argF] at hv; obtain ⟨r, rfl, hq⟩ := hv; have HQ := Lib.hid hq; clear hq))
  refine calmA_nil ?_
  intro w' hC hF
  have hC' := hC.1.1
  simp only [Held, and_true] at hC'
  go_wp2_with fail
  go_ret
  refine ⟨_, rfl, ?_, ?_⟩
  · unfold forceQ mulC
    simp only [Hid] at *
    simp only [*]
  · (have hB := hC.1.2; (repeat (first | assumption | (with_reducible exact Below.refl _ _) | (with_reducible refine Below.drewN ?_ _) | (with_reducible refine Below.drew ?_) | (with_reducible refine Below.allocS ?_ _) | ((with_reducible refine Below.setCell ?_ ?_ _); rotate_left; focus (first | omega | (simp; done) | (simp; omega))) | (with_reducible refine Below.step ?_ (by assumption)))))

set_option maxRecDepth 100000 in
set_option maxHeartbeats 4000000 in
theorem ofPendulum_any (x0 x1 x2 x3 x4 : Nat) (k : FuncId) (caps : Array Value) (l : List Nat) (b c Q : Nat) (w : World) (hl : l.length ≤ maxLen) (hb0 : b < w.heap.size) (hc : ∀ i, i < l.length → w.cell? ⟨b, 0 + i, none⟩ = some (.float .f32 (l.getD i 0)))
    (hcf : ∀ w1 : World, (callFunc k caps).run Try.prog w1 = .ok (.enter k caps) w1) (hof : ∀ w1, Below w.heap.size w w1 → Calls Try.prog k caps w1 (BF .f32 Q w1)) :
    Calls Try.prog 59 #[.agg #[.float .f32 x0, .float .f32 x1, .float .f32 x2, .float .f32 x3, .float .f32 x4], .func (.func k) #[] caps, .slice (some ⟨b, 0, none⟩) l.length c] w (PF (condF (pendB x0 x1 x2 x3 x4 && allFin l && finB .f32 Q) Q) (pendB x0 x1 x2 x3 x4 && allFin l && finB .f32 Q) w) := by
  have HC := Lib.hid hc
  have HO := Lib.hid hof
  clear hc hof
  cases h1 : pendB x0 x1 x2 x3 x4 <;> cases h2 : allFin l
  all_goals
    go_enter Try.func59, Try.ntmps59
    go_wp2_with fail
    refine (implValidPendulum_any x0 x1 x2 x3 x4 _).mono ?_
    rintro e w1 ⟨rfl, hb⟩
    have hB1 : Below w.heap.size w w1 := by (repeat (first | (with_reducible exact Below.refl _ _) | (with_reducible refine Below.drewN ?_ _) | (with_reducible refine Below.drew ?_) | (with_reducible refine Below.allocS ?_ _) | ((with_reducible refine Below.setCell ?_ ?_ _); rotate_left; focus (first | omega | (simp; done) | (simp; omega))) | (with_reducible refine Below.step ?_ (by assumption))))
    go_wp2_with (first | (go_at_call 88; refine (finite_any l b 0 c _ hl (fun i hi => (hB1.cell (p := ⟨b, 0 + i, none⟩) hb0).trans (HC.out i hi))).mono ?_; rintro e w2 ⟨n, rfl, rfl⟩) | (go_at_call 82; refine (toldNumber_any _ _).mono ?_; rintro e w3 ⟨n, rfl, rfl⟩) | ((refine (HO.out _ ?_).mono ?_); (focus ((repeat (first | assumption | (with_reducible exact Below.refl _ _) | (with_reducible refine Below.drewN ?_ _) | (with_reducible refine Below.drew ?_) | (with_reducible refine Below.allocS ?_ _) | ((with_reducible refine Below.setCell ?_ ?_ _); rotate_left; focus (first | omega | (simp; done) | (simp; omega))) | (with_reducible refine Below.step ?_ (by assumption)))); done)); rintro e w4 ⟨r, rfl, hq, hb⟩; have HQ := Lib.hid hq; clear hq))
    go_ret2
    first
      | ((refine pf_told (Q := Q) HQ.out (by simp) ?_); (repeat (first | assumption | (with_reducible exact Below.refl _ _) | (with_reducible refine Below.drewN ?_ _) | (with_reducible refine Below.drew ?_) | (with_reducible refine Below.allocS ?_ _) | ((with_reducible refine Below.setCell ?_ ?_ _); rotate_left; focus (first | omega | (simp; done) | (simp; omega))) | (with_reducible refine Below.step ?_ (by assumption)))); done)
      | ((refine pf_none (by simp) ?_); (repeat (first | assumption | (with_reducible exact Below.refl _ _) | (with_reducible refine Below.drewN ?_ _) | (with_reducible refine Below.drew ?_) | (with_reducible refine Below.allocS ?_ _) | ((with_reducible refine Below.setCell ?_ ?_ _); rotate_left; focus (first | omega | (simp; done) | (simp; omega))) | (with_reducible refine Below.step ?_ (by assumption)))); done)

set_option maxRecDepth 100000 in
set_option maxHeartbeats 4000000 in
theorem specPullAt_any (x0 x1 x2 x3 x4 z1 : Nat) (w : World) : Calls Try.prog 19 #[.agg #[.float .f32 x0, .float .f32 x1, .float .f32 x2, .float .f32 x3, .float .f32 x4], .float .f32 z1] w (PF (condF ((pendB x0 x1 x2 x3 x4 && finB .f32 z1) && finB .f32 (pullQ x0 x1 z1)) (pullQ x0 x1 z1)) ((pendB x0 x1 x2 x3 x4 && finB .f32 z1) && finB .f32 (pullQ x0 x1 z1)) w) := by
  cases h1 : pendB x0 x1 x2 x3 x4 <;> cases h2 : finB .f32 z1
  all_goals
    go_enter Try.func19, Try.ntmps19
    go_wp2_with (first | (go_at_call 55; refine (l02Is_any x0 x1 x2 x3 x4 _ _ ?_ ?_ ?_ ?_ ?_).mono ?_; (focus (simp [go_sem]; done)); (focus (simp [go_sem]; done)); (focus (simp [go_sem]; done)); (focus (simp [go_sem]; done)); (focus (simp [go_sem]; done)); rintro e w' ⟨n, rfl, rfl⟩) | (go_at_call 56; refine (l01Finite_any _ _).mono ?_; rintro e w' ⟨n, rfl, rfl⟩) | (go_at_call 62; refine (l02Pull_any x0 x1 x2 x3 x4 z1 _ _ ?_).mono ?_; (focus (simp [Held, go_sem]; done)); rintro e w2 ⟨r, rfl, hq, hb⟩; have HQ := Lib.hid hq; clear hq) | (go_at_call 57; refine (l02Number_any _ _).mono ?_; rintro e w3 ⟨n, rfl, rfl⟩))
    go_ret2
    first
      | ((refine pf_told (Q := pullQ x0 x1 z1) HQ.out (by simp) ?_); (repeat (first | assumption | (with_reducible exact Below.refl _ _) | (with_reducible refine Below.drewN ?_ _) | (with_reducible refine Below.drew ?_) | (with_reducible refine Below.allocS ?_ _) | ((with_reducible refine Below.setCell ?_ ?_ _); rotate_left; focus (first | omega | (simp; done) | (simp; omega))) | (with_reducible refine Below.step ?_ (by assumption)))); done)
      | ((refine pf_none (by simp) ?_); (repeat (first | assumption | (with_reducible exact Below.refl _ _) | (with_reducible refine Below.drewN ?_ _) | (with_reducible refine Below.drew ?_) | (with_reducible refine Below.allocS ?_ _) | ((with_reducible refine Below.setCell ?_ ?_ _); rotate_left; focus (first | omega | (simp; done) | (simp; omega))) | (with_reducible refine Below.step ?_ (by assumption)))); done)

set_option maxRecDepth 100000 in
set_option maxHeartbeats 4000000 in
theorem PullAt1_any (x0 x1 x2 x3 x4 z1 p q : Nat) (w : World) (hP : Held [(⟨p, 0, none⟩, .float .f32 x0), (⟨p, 1, none⟩, .float .f32 x1), (⟨p, 2, none⟩, .float .f32 x2), (⟨p, 3, none⟩, .float .f32 x3), (⟨p, 4, none⟩, .float .f32 x4)] w) (hV : Held [(⟨q, 0, none⟩, .float .f32 z1)] w) : Calls Try.prog 63 #[.pointer (some ⟨p, 0, none⟩), .pointer (some ⟨q, 0, none⟩)] w (BF .f32 (pullQ x0 x1 z1) w) := by
  have hv := hV
  simp only [Held, and_true] at hv
  go_enter Try.func63, Try.ntmps63
  go_wp2_with (first | (go_at_call 64; refine (pull_any x0 x1 x2 x3 x4 z1 _ _ hP).mono ?_; rintro e w2 ⟨r, rfl, hq, hb⟩; have HQ := Lib.hid hq; clear hq))
  go_ret
  refine ⟨_, rfl, HQ.out, ?_⟩
  (repeat (first | assumption | (with_reducible exact Below.refl _ _) | (with_reducible refine Below.drewN ?_ _) | (with_reducible refine Below.drew ?_) | (with_reducible refine Below.allocS ?_ _) | ((with_reducible refine Below.setCell ?_ ?_ _); rotate_left; focus (first | omega | (simp; done) | (simp; omega))) | (with_reducible refine Below.step ?_ (by assumption))))

set_option maxRecDepth 100000 in
set_option maxHeartbeats 4000000 in
theorem implPullAt_any (x0 x1 x2 x3 x4 z1 : Nat) (w : World) : Calls Try.prog 20 #[.agg #[.float .f32 x0, .float .f32 x1, .float .f32 x2, .float .f32 x3, .float .f32 x4], .float .f32 z1] w (PF (condF ((pendB x0 x1 x2 x3 x4 && finB .f32 z1) && finB .f32 (pullQ x0 x1 z1)) (pullQ x0 x1 z1)) ((pendB x0 x1 x2 x3 x4 && finB .f32 z1) && finB .f32 (pullQ x0 x1 z1)) w) := by
  have hB : (pendB x0 x1 x2 x3 x4 && allFin [z1] && finB .f32 (pullQ x0 x1 z1)) = (((pendB x0 x1 x2 x3 x4 && finB .f32 z1) && finB .f32 (pullQ x0 x1 z1))) := by simp [allFin, Bool.and_assoc]
  rw [← hB]
  have HB := Lib.hid hB
  clear hB
  go_enter Try.func20, Try.ntmps20
  go_wp2_with (first | (go_at_call 59; refine (ofPendulum_any x0 x1 x2 x3 x4 _ _ [z1] _ _ (pullQ x0 x1 z1) _ (by simp [maxLen]) ?_ ?_ ?_ ?_).mono ?_; (focus (simp [go_sem]; done)); (focus (intro i hi; match i, hi with | 0, _ => simp [go_sem])); (focus (intro w1; simp [go_sem]; done)); (focus (intro w1 hb1; exact PullAt1_any x0 x1 x2 x3 x4 z1 _ _ _ (Held.below hb1 (by simp [Held, go_sem])) (Held.below hb1 (by simp [Held, go_sem])))); rintro e w2 ⟨r, rfl, hq, hb⟩; have HQ := Lib.hid hq; clear hq))
  go_ret2
  refine ⟨_, rfl, HQ.out, ?_⟩
  (repeat (first | assumption | (with_reducible exact Below.refl _ _) | (with_reducible refine Below.drewN ?_ _) | (with_reducible refine Below.drew ?_) | (with_reducible refine Below.allocS ?_ _) | ((with_reducible refine Below.setCell ?_ ?_ _); rotate_left; focus (first | omega | (simp; done) | (simp; omega))) | (with_reducible refine Below.step ?_ (by assumption))))

set_option maxRecDepth 100000 in
set_option maxHeartbeats 4000000 in
theorem specDriveAt_any (x0 x1 x2 x3 x4 z1 : Nat) (w : World) : Calls Try.prog 15 #[.agg #[.float .f32 x0, .float .f32 x1, .float .f32 x2, .float .f32 x3, .float .f32 x4], .float .f32 z1] w (PF (condF ((pendB x0 x1 x2 x3 x4 && finB .f32 z1) && finB .f32 (driveQ x3 x4 z1)) (driveQ x3 x4 z1)) ((pendB x0 x1 x2 x3 x4 && finB .f32 z1) && finB .f32 (driveQ x3 x4 z1)) w) := by
  cases h1 : pendB x0 x1 x2 x3 x4 <;> cases h2 : finB .f32 z1
  all_goals
    go_enter Try.func15, Try.ntmps15
    go_wp2_with (first | (go_at_call 55; refine (l02Is_any x0 x1 x2 x3 x4 _ _ ?_ ?_ ?_ ?_ ?_).mono ?_; (focus (simp [go_sem]; done)); (focus (simp [go_sem]; done)); (focus (simp [go_sem]; done)); (focus (simp [go_sem]; done)); (focus (simp [go_sem]; done)); rintro e w' ⟨n, rfl, rfl⟩) | (go_at_call 56; refine (l01Finite_any _ _).mono ?_; rintro e w' ⟨n, rfl, rfl⟩) | (go_at_call 58; refine (l02Drive_any x0 x1 x2 x3 x4 z1 _ _ ?_).mono ?_; (focus (simp [Held, go_sem]; done)); rintro e w2 ⟨r, rfl, hq, hb⟩; have HQ := Lib.hid hq; clear hq) | (go_at_call 57; refine (l02Number_any _ _).mono ?_; rintro e w3 ⟨n, rfl, rfl⟩))
    go_ret2
    first
      | ((refine pf_told (Q := driveQ x3 x4 z1) HQ.out (by simp) ?_); (repeat (first | assumption | (with_reducible exact Below.refl _ _) | (with_reducible refine Below.drewN ?_ _) | (with_reducible refine Below.drew ?_) | (with_reducible refine Below.allocS ?_ _) | ((with_reducible refine Below.setCell ?_ ?_ _); rotate_left; focus (first | omega | (simp; done) | (simp; omega))) | (with_reducible refine Below.step ?_ (by assumption)))); done)
      | ((refine pf_none (by simp) ?_); (repeat (first | assumption | (with_reducible exact Below.refl _ _) | (with_reducible refine Below.drewN ?_ _) | (with_reducible refine Below.drew ?_) | (with_reducible refine Below.allocS ?_ _) | ((with_reducible refine Below.setCell ?_ ?_ _); rotate_left; focus (first | omega | (simp; done) | (simp; omega))) | (with_reducible refine Below.step ?_ (by assumption)))); done)

set_option maxRecDepth 100000 in
set_option maxHeartbeats 4000000 in
theorem DriveAt1_any (x0 x1 x2 x3 x4 z1 p q : Nat) (w : World) (hP : Held [(⟨p, 0, none⟩, .float .f32 x0), (⟨p, 1, none⟩, .float .f32 x1), (⟨p, 2, none⟩, .float .f32 x2), (⟨p, 3, none⟩, .float .f32 x3), (⟨p, 4, none⟩, .float .f32 x4)] w) (hV : Held [(⟨q, 0, none⟩, .float .f32 z1)] w) : Calls Try.prog 60 #[.pointer (some ⟨p, 0, none⟩), .pointer (some ⟨q, 0, none⟩)] w (BF .f32 (driveQ x3 x4 z1) w) := by
  have hv := hV
  simp only [Held, and_true] at hv
  go_enter Try.func60, Try.ntmps60
  go_wp2_with (first | (go_at_call 61; refine (drive_any x0 x1 x2 x3 x4 z1 _ _ hP).mono ?_; rintro e w2 ⟨r, rfl, hq, hb⟩; have HQ := Lib.hid hq; clear hq))
  go_ret
  refine ⟨_, rfl, HQ.out, ?_⟩
  (repeat (first | assumption | (with_reducible exact Below.refl _ _) | (with_reducible refine Below.drewN ?_ _) | (with_reducible refine Below.drew ?_) | (with_reducible refine Below.allocS ?_ _) | ((with_reducible refine Below.setCell ?_ ?_ _); rotate_left; focus (first | omega | (simp; done) | (simp; omega))) | (with_reducible refine Below.step ?_ (by assumption))))

set_option maxRecDepth 100000 in
set_option maxHeartbeats 4000000 in
theorem implDriveAt_any (x0 x1 x2 x3 x4 z1 : Nat) (w : World) : Calls Try.prog 17 #[.agg #[.float .f32 x0, .float .f32 x1, .float .f32 x2, .float .f32 x3, .float .f32 x4], .float .f32 z1] w (PF (condF ((pendB x0 x1 x2 x3 x4 && finB .f32 z1) && finB .f32 (driveQ x3 x4 z1)) (driveQ x3 x4 z1)) ((pendB x0 x1 x2 x3 x4 && finB .f32 z1) && finB .f32 (driveQ x3 x4 z1)) w) := by
  have hB : (pendB x0 x1 x2 x3 x4 && allFin [z1] && finB .f32 (driveQ x3 x4 z1)) = (((pendB x0 x1 x2 x3 x4 && finB .f32 z1) && finB .f32 (driveQ x3 x4 z1))) := by simp [allFin, Bool.and_assoc]
  rw [← hB]
  have HB := Lib.hid hB
  clear hB
  go_enter Try.func17, Try.ntmps17
  go_wp2_with (first | (go_at_call 59; refine (ofPendulum_any x0 x1 x2 x3 x4 _ _ [z1] _ _ (driveQ x3 x4 z1) _ (by simp [maxLen]) ?_ ?_ ?_ ?_).mono ?_; (focus (simp [go_sem]; done)); (focus (intro i hi; match i, hi with | 0, _ => simp [go_sem])); (focus (intro w1; simp [go_sem]; done)); (focus (intro w1 hb1; exact DriveAt1_any x0 x1 x2 x3 x4 z1 _ _ _ (Held.below hb1 (by simp [Held, go_sem])) (Held.below hb1 (by simp [Held, go_sem])))); rintro e w2 ⟨r, rfl, hq, hb⟩; have HQ := Lib.hid hq; clear hq))
  go_ret2
  refine ⟨_, rfl, HQ.out, ?_⟩
  (repeat (first | assumption | (with_reducible exact Below.refl _ _) | (with_reducible refine Below.drewN ?_ _) | (with_reducible refine Below.drew ?_) | (with_reducible refine Below.allocS ?_ _) | ((with_reducible refine Below.setCell ?_ ?_ _); rotate_left; focus (first | omega | (simp; done) | (simp; omega))) | (with_reducible refine Below.step ?_ (by assumption))))

set_option maxRecDepth 100000 in
set_option maxHeartbeats 4000000 in
theorem lawPullAt_walk (x0 x1 x2 x3 x4 z1 : Nat) (_ : x0 < 4294967296) (_ : x1 < 4294967296) (_ : x2 < 4294967296) (_ : x3 < 4294967296) (_ : x4 < 4294967296) (_ : z1 < 4294967296) (w : World) : Calls Try.prog 4 #[.agg #[.float .f32 x0, .float .f32 x1, .float .f32 x2, .float .f32 x3, .float .f32 x4], .float .f32 z1] w fun e w' => e = .returned (.bool true) ∧ Below w.heap.size w w' := by
  go_enter Try.func4, Try.ntmps4
  go_wp2_with fail
  refine (toPendulum_any x0 x1 x2 x3 x4 _).mono ?_
  rintro e w0 ⟨rfl, hb⟩
  have hk := Held.below hb (l := [(⟨w.heap.size, 0, none⟩, .float .f32 x0), (⟨w.heap.size, 1, none⟩, .float .f32 x1), (⟨w.heap.size, 2, none⟩, .float .f32 x2), (⟨w.heap.size, 3, none⟩, .float .f32 x3), (⟨w.heap.size, 4, none⟩, .float .f32 x4)]) (by simp [Held, go_sem, *])
  simp only [Held, and_true] at hk
  go_wp2_with fail
  refine (specPullAt_any x0 x1 x2 x3 x4 z1 _).mono ?_
  rintro e w1 ⟨r0_0, rfl, q0_0, hb⟩
  have Hq0_0 := Lib.hid q0_0
  clear q0_0
  have hk := Held.below hb (l := [(⟨w.heap.size, 0, none⟩, .float .f32 x0), (⟨w.heap.size, 1, none⟩, .float .f32 x1), (⟨w.heap.size, 2, none⟩, .float .f32 x2), (⟨w.heap.size, 3, none⟩, .float .f32 x3), (⟨w.heap.size, 4, none⟩, .float .f32 x4)]) (by simp [Held, go_sem, *])
  simp only [Held, and_true] at hk
  go_wp2_with fail
  refine (toPendulum_any x0 x1 x2 x3 x4 _).mono ?_
  rintro e w2 ⟨rfl, hb⟩
  have hk := Held.below hb (l := [(⟨w.heap.size, 0, none⟩, .float .f32 x0), (⟨w.heap.size, 1, none⟩, .float .f32 x1), (⟨w.heap.size, 2, none⟩, .float .f32 x2), (⟨w.heap.size, 3, none⟩, .float .f32 x3), (⟨w.heap.size, 4, none⟩, .float .f32 x4)]) (by simp [Held, go_sem, *])
  simp only [Held, and_true] at hk
  go_wp2_with fail
  refine (implPullAt_any x0 x1 x2 x3 x4 z1 _).mono ?_
  rintro e w3 ⟨r1_0, rfl, q1_0, hb⟩
  have Hq1_0 := Lib.hid q1_0
  clear q1_0
  have hk := Held.below hb (l := [(⟨w.heap.size, 0, none⟩, .float .f32 x0), (⟨w.heap.size, 1, none⟩, .float .f32 x1), (⟨w.heap.size, 2, none⟩, .float .f32 x2), (⟨w.heap.size, 3, none⟩, .float .f32 x3), (⟨w.heap.size, 4, none⟩, .float .f32 x4)]) (by simp [Held, go_sem, *])
  simp only [Held, and_true] at hk
  go_wp2_with (first | (refine wpList_widen rfl rfl Try.underlying30 Try.underlying22 rfl (fun r n hr => ?_)) | (go_at_call 18; refine (sameFloat_any _ _ _ (widen_same (Hid.out (by assumption)) (Hid.out (by assumption)) (Hq1_0.out.trans Hq0_0.out.symm))).mono ?_; rintro e w' ⟨n, rfl, rfl⟩))
  go_ret
  refine ⟨rfl, ?_⟩
  (try have hB := hC.1.2)
  (repeat (first | assumption | (with_reducible exact Below.refl _ _) | (with_reducible refine Below.drewN ?_ _) | (with_reducible refine Below.drew ?_) | (with_reducible refine Below.allocS ?_ _) | ((with_reducible refine Below.setCell ?_ ?_ _); rotate_left; focus (first | omega | (simp; done) | (simp; omega))) | (with_reducible refine Below.step ?_ (by assumption))))

set_option maxRecDepth 100000 in
set_option maxHeartbeats 4000000 in
theorem lawDriveAt_walk (x0 x1 x2 x3 x4 z1 : Nat) (_ : x0 < 4294967296) (_ : x1 < 4294967296) (_ : x2 < 4294967296) (_ : x3 < 4294967296) (_ : x4 < 4294967296) (_ : z1 < 4294967296) (w : World) : Calls Try.prog 3 #[.agg #[.float .f32 x0, .float .f32 x1, .float .f32 x2, .float .f32 x3, .float .f32 x4], .float .f32 z1] w fun e w' => e = .returned (.bool true) ∧ Below w.heap.size w w' := by
  go_enter Try.func3, Try.ntmps3
  go_wp2_with fail
  refine (toPendulum_any x0 x1 x2 x3 x4 _).mono ?_
  rintro e w0 ⟨rfl, hb⟩
  have hk := Held.below hb (l := [(⟨w.heap.size, 0, none⟩, .float .f32 x0), (⟨w.heap.size, 1, none⟩, .float .f32 x1), (⟨w.heap.size, 2, none⟩, .float .f32 x2), (⟨w.heap.size, 3, none⟩, .float .f32 x3), (⟨w.heap.size, 4, none⟩, .float .f32 x4)]) (by simp [Held, go_sem, *])
  simp only [Held, and_true] at hk
  go_wp2_with fail
  refine (specDriveAt_any x0 x1 x2 x3 x4 z1 _).mono ?_
  rintro e w1 ⟨r0_0, rfl, q0_0, hb⟩
  have Hq0_0 := Lib.hid q0_0
  clear q0_0
  have hk := Held.below hb (l := [(⟨w.heap.size, 0, none⟩, .float .f32 x0), (⟨w.heap.size, 1, none⟩, .float .f32 x1), (⟨w.heap.size, 2, none⟩, .float .f32 x2), (⟨w.heap.size, 3, none⟩, .float .f32 x3), (⟨w.heap.size, 4, none⟩, .float .f32 x4)]) (by simp [Held, go_sem, *])
  simp only [Held, and_true] at hk
  go_wp2_with fail
  refine (toPendulum_any x0 x1 x2 x3 x4 _).mono ?_
  rintro e w2 ⟨rfl, hb⟩
  have hk := Held.below hb (l := [(⟨w.heap.size, 0, none⟩, .float .f32 x0), (⟨w.heap.size, 1, none⟩, .float .f32 x1), (⟨w.heap.size, 2, none⟩, .float .f32 x2), (⟨w.heap.size, 3, none⟩, .float .f32 x3), (⟨w.heap.size, 4, none⟩, .float .f32 x4)]) (by simp [Held, go_sem, *])
  simp only [Held, and_true] at hk
  go_wp2_with fail
  refine (implDriveAt_any x0 x1 x2 x3 x4 z1 _).mono ?_
  rintro e w3 ⟨r1_0, rfl, q1_0, hb⟩
  have Hq1_0 := Lib.hid q1_0
  clear q1_0
  have hk := Held.below hb (l := [(⟨w.heap.size, 0, none⟩, .float .f32 x0), (⟨w.heap.size, 1, none⟩, .float .f32 x1), (⟨w.heap.size, 2, none⟩, .float .f32 x2), (⟨w.heap.size, 3, none⟩, .float .f32 x3), (⟨w.heap.size, 4, none⟩, .float .f32 x4)]) (by simp [Held, go_sem, *])
  simp only [Held, and_true] at hk
  go_wp2_with (first | (refine wpList_widen rfl rfl Try.underlying30 Try.underlying22 rfl (fun r n hr => ?_)) | (go_at_call 18; refine (sameFloat_any _ _ _ (widen_same (Hid.out (by assumption)) (Hid.out (by assumption)) (Hq1_0.out.trans Hq0_0.out.symm))).mono ?_; rintro e w' ⟨n, rfl, rfl⟩))
  go_ret
  refine ⟨rfl, ?_⟩
  (try have hB := hC.1.2)
  (repeat (first | assumption | (with_reducible exact Below.refl _ _) | (with_reducible refine Below.drewN ?_ _) | (with_reducible refine Below.drew ?_) | (with_reducible refine Below.allocS ?_ _) | ((with_reducible refine Below.setCell ?_ ?_ _); rotate_left; focus (first | omega | (simp; done) | (simp; omega))) | (with_reducible refine Below.step ?_ (by assumption))))

end Go.Proofs.Ytjfmcmdhkmcpiaa
