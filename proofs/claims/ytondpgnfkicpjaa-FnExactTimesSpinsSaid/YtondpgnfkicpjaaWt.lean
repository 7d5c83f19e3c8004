/-
  The law of two spins' product.
-/
import Derived.Test.YtondpgnfkicpjaaWf
import Derived.Test.YtondpgnfkicpjaaCy
set_option linter.unusedVariables false
set_option linter.unusedSimpArgs false
namespace Go.Proofs.Ytondpgnfkicpjaa
open Go.RowKit

def TVTimesSpins (x0 x1 x2 x3 y0 y1 y2 y3 : Nat) (v : Value) : Prop := ∃ r0 r1 r2 r3, v = .agg #[.float .f32 r0, .float .f32 r1, .float .f32 r2, .float .f32 r3] ∧ (cn .f32 r0 = timesW x0 x1 x2 x3 y0 y1 y2 y3 ∧ cn .f32 r1 = timesX x0 x1 x2 x3 y0 y1 y2 y3 ∧ cn .f32 r2 = timesY x0 x1 x2 x3 y0 y1 y2 y3 ∧ cn .f32 r3 = timesZ x0 x1 x2 x3 y0 y1 y2 y3)
theorem tv_TimesSpins {x0 x1 x2 x3 y0 y1 y2 y3 : Nat} {w w' : World} {e : Ending} (h : BF4 (timesW x0 x1 x2 x3 y0 y1 y2 y3) (timesX x0 x1 x2 x3 y0 y1 y2 y3) (timesY x0 x1 x2 x3 y0 y1 y2 y3) (timesZ x0 x1 x2 x3 y0 y1 y2 y3) w e w') : ∃ v, e = .returned v ∧ TVTimesSpins x0 x1 x2 x3 y0 y1 y2 y3 v ∧ Below w.heap.size w w' := by
  obtain ⟨r0, r1, r2, r3, he, hq, hb⟩ := h
  exact ⟨_, he, ⟨r0, r1, r2, r3, rfl, hq⟩, hb⟩

set_option maxRecDepth 100000 in
set_option maxHeartbeats 4000000 in
theorem lawTimesSpins_walk (x0 x1 x2 x3 y0 y1 y2 y3 : Nat) (_ : x0 < 4294967296) (_ : x1 < 4294967296) (_ : x2 < 4294967296) (_ : x3 < 4294967296) (_ : y0 < 4294967296) (_ : y1 < 4294967296) (_ : y2 < 4294967296) (_ : y3 < 4294967296) (w : World) : Calls Try.prog 13 #[.agg #[.float .f32 x0, .float .f32 x1, .float .f32 x2, .float .f32 x3], .agg #[.float .f32 y0, .float .f32 y1, .float .f32 y2, .float .f32 y3]] w fun e w' => e = .returned (.bool true) ∧ Below w.heap.size w w' := by
  go_enter Try.func13, Try.ntmps13
  go_wp2_with fail
  refine region_calmA w (w.heap.size + 1 + 1) [(⟨w.heap.size, 0, none⟩, .float .f32 x0), (⟨w.heap.size, 1, none⟩, .float .f32 x1), (⟨w.heap.size, 2, none⟩, .float .f32 x2), (⟨w.heap.size, 3, none⟩, .float .f32 x3), (⟨(w.heap.size + 1), 0, none⟩, .float .f32 y0), (⟨(w.heap.size + 1), 1, none⟩, .float .f32 y1), (⟨(w.heap.size + 1), 2, none⟩, .float .f32 y2), (⟨(w.heap.size + 1), 3, none⟩, .float .f32 y3)] (fun f args v => if f = 42 then TVTimesSpins x0 x1 x2 x3 y0 y1 y2 y3 v else v = args.getD 0 undef) [(5, .new 5 4), (6, .put 5 11)] (by kernel_rfl) (by kernel_rfl) (by kernel_rfl) ⟨⟨by simp [Held, go_sem, *], by (repeat (first | assumption | (with_reducible exact Below.refl _ _) | (with_reducible refine Below.drewN ?_ _) | (with_reducible refine Below.drew ?_) | (with_reducible refine Below.allocS ?_ _) | ((with_reducible refine Below.setCell ?_ ?_ _); rotate_left; focus (first | omega | (simp; done) | (simp; omega))) | (with_reducible refine Below.step ?_ (by assumption))))⟩, by (first | (simp; done) | (simp; omega) | omega)⟩ ?_
  repeat (first | (refine calmA_plain rfl rfl ?_ (fun K hK w1 hC => ?_); (focus (intro _ _; simp [RA]; done)); have hC' := hC.1.1; simp only [Held, and_true] at hC'; go_wp2_with (first | (refine wpList_fbin rfl rfl rfl rfl rfl (fun r n hr => ?_)) | (refine wpList_widen rfl rfl Try.underlying63 Try.underlying22 rfl (fun r n hr => ?_))); refine ⟨rfl, (by first | exact Below.refl _ _ | exact below_drewN _), hK _ ?_⟩; clear hC hC' hK K w1) | (refine calmA_check rfl rfl rfl ?_ ?_; (focus (intro _ _; simp [RA]; done))))
  refine calmA_call (f := 22) (args := _) rfl ?_ (by (intro w1; simp [execOp, resolve, invoke, go_sem]; with_reducible rfl)) (fun w1 hC => ?_) ?_
  · (intro _ _; simp [RA]; done)
  · refine (toSpin_any _ _ _ _ _).mono ?_
    rintro e w2 ⟨rfl, hb⟩
    exact ⟨_, rfl, by simp, hb⟩
  rintro v hv
  simp at hv
  subst hv
  repeat (first | (refine calmA_plain rfl rfl ?_ (fun K hK w1 hC => ?_); (focus (intro _ _; simp [RA]; done)); have hC' := hC.1.1; simp only [Held, and_true] at hC'; go_wp2_with (first | (refine wpList_fbin rfl rfl rfl rfl rfl (fun r n hr => ?_)) | (refine wpList_widen rfl rfl Try.underlying63 Try.underlying22 rfl (fun r n hr => ?_))); refine ⟨rfl, (by first | exact Below.refl _ _ | exact below_drewN _), hK _ ?_⟩; clear hC hC' hK K w1) | (refine calmA_check rfl rfl rfl ?_ ?_; (focus (intro _ _; simp [RA]; done))))
  refine calmA_call (f := 22) (args := _) rfl ?_ (by (intro w1; simp [execOp, resolve, invoke, go_sem]; with_reducible rfl)) (fun w1 hC => ?_) ?_
  · (intro _ _; simp [RA]; done)
  · refine (toSpin_any _ _ _ _ _).mono ?_
    rintro e w2 ⟨rfl, hb⟩
    exact ⟨_, rfl, by simp, hb⟩
  rintro v hv
  simp at hv
  subst hv
  repeat (first | (refine calmA_plain rfl rfl ?_ (fun K hK w1 hC => ?_); (focus (intro _ _; simp [RA]; done)); have hC' := hC.1.1; simp only [Held, and_true] at hC'; go_wp2_with (first | (refine wpList_fbin rfl rfl rfl rfl rfl (fun r n hr => ?_)) | (refine wpList_widen rfl rfl Try.underlying63 Try.underlying22 rfl (fun r n hr => ?_))); refine ⟨rfl, (by first | exact Below.refl _ _ | exact below_drewN _), hK _ ?_⟩; clear hC hC' hK K w1) | (refine calmA_check rfl rfl rfl ?_ ?_; (focus (intro _ _; simp [RA]; done))))
  refine calmA_call (f := 42) (args := _) rfl ?_ (by (intro w1; simp [execOp, resolve, invoke, go_sem]; with_reducible rfl)) (fun w1 hC => ?_) ?_
  · (intro _ _; simp [RA]; done)
  · refine (specTimesSpins_any x0 x1 x2 x3 y0 y1 y2 y3 _).mono ?_
    rintro e w2 hp
    obtain ⟨v, he, hT, hb⟩ := tv_TimesSpins hp
    exact ⟨v, he, by simp; exact hT, hb⟩
  rintro v hv
  simp at hv
  unfold TVTimesSpins at hv
  obtain ⟨r0_0, r0_1, r0_2, r0_3, rfl, ⟨q0_0, q0_1, q0_2, q0_3⟩⟩ := hv
  have Hq0_0 := Lib.hid q0_0
  clear q0_0
  have Hq0_1 := Lib.hid q0_1
  clear q0_1
  have Hq0_2 := Lib.hid q0_2
  clear q0_2
  have Hq0_3 := Lib.hid q0_3
  clear q0_3
  repeat (first | (refine calmA_plain rfl rfl ?_ (fun K hK w1 hC => ?_); (focus (intro _ _; simp [RA]; done)); have hC' := hC.1.1; simp only [Held, and_true] at hC'; go_wp2_with (first | (refine wpList_fbin rfl rfl rfl rfl rfl (fun r n hr => ?_)) | (refine wpList_widen rfl rfl Try.underlying63 Try.underlying22 rfl (fun r n hr => ?_))); refine ⟨rfl, (by first | exact Below.refl _ _ | exact below_drewN _), hK _ ?_⟩; clear hC hC' hK K w1) | (refine calmA_check rfl rfl rfl ?_ ?_; (focus (intro _ _; simp [RA]; done))))
  refine calmA_alloc (n := 4) (zs := #[.float .f32 0, .float .f32 0, .float .f32 0, .float .f32 0]) (t := 37) rfl rfl ?_ ?_ ?_ ?_ (fun b hb => ?_)
  · (first | (simp; done) | (simp [Act.put]; done))
  · intro a w h; simp [RA]; exact h
  · intro w; simp [execOp, go_sem]; done
  · rfl
  refine calmA_store (ia := 5) (n := 4) rfl rfl rfl rfl hb rfl ?_ ?_ ?_ ?_ ?_ ?_ ?_ ?_ ?_ ?_
  · kernel_rfl
  · intro a w h; simp [RA] at h; exact h
  · rfl
  · rfl
  · simp [Value.oneCell']
  · intro a w h; simp [RA]; exact h
  · (first | (simp; done) | (simp; omega) | (simp [*]; done) | (simp [*]; omega))
  · (first | omega | (simp [*]; done) | (simp [*]; omega))
  · rfl
  repeat (first | (refine calmA_plain rfl rfl ?_ (fun K hK w1 hC => ?_); (focus (intro _ _; simp [RA]; done)); have hC' := hC.1.1; simp only [Held, and_true] at hC'; go_wp2_with (first | (refine wpList_fbin rfl rfl rfl rfl rfl (fun r n hr => ?_)) | (refine wpList_widen rfl rfl Try.underlying63 Try.underlying22 rfl (fun r n hr => ?_))); refine ⟨rfl, (by first | exact Below.refl _ _ | exact below_drewN _), hK _ ?_⟩; clear hC hC' hK K w1) | (refine calmA_check rfl rfl rfl ?_ ?_; (focus (intro _ _; simp [RA]; done))))
  refine calmA_nil ?_
  intro w' hC hF
  have hC' := hC.1.1
  simp only [Held, and_true] at hC'
  obtain ⟨b', vs', e1, e2, hN, hS⟩ := RA_get hF (i := 6) (f := .put 5 11) (by simp) (by simp)
  simp [Act.put, Act.eval] at e1 e2
  subst e1 e2
  simp [Held, cellsAt] at hS
  have hk0 := hC'
  have hw0 := hC.1.2
  go_wp2_with fail
  refine region_calmA w (w'.heap.size) [(⟨w.heap.size, 0, none⟩, .float .f32 x0), (⟨w.heap.size, 1, none⟩, .float .f32 x1), (⟨w.heap.size, 2, none⟩, .float .f32 x2), (⟨w.heap.size, 3, none⟩, .float .f32 x3), (⟨(w.heap.size + 1), 0, none⟩, .float .f32 y0), (⟨(w.heap.size + 1), 1, none⟩, .float .f32 y1), (⟨(w.heap.size + 1), 2, none⟩, .float .f32 y2), (⟨(w.heap.size + 1), 3, none⟩, .float .f32 y3), (⟨b, 0, none⟩, .float .f32 r0_0), (⟨b, 1, none⟩, .float .f32 r0_1), (⟨b, 2, none⟩, .float .f32 r0_2), (⟨b, 3, none⟩, .float .f32 r0_3)] (fun f args v => if f = 43 then TVTimesSpins x0 x1 x2 x3 y0 y1 y2 y3 v else v = args.getD 0 undef) [(5, .new 6 4), (6, .put 6 16)] (by kernel_rfl) (by kernel_rfl) (by kernel_rfl) ⟨⟨by simp [Held, go_sem, *], by (repeat (first | assumption | (with_reducible exact Below.refl _ _) | (with_reducible refine Below.drewN ?_ _) | (with_reducible refine Below.drew ?_) | (with_reducible refine Below.allocS ?_ _) | ((with_reducible refine Below.setCell ?_ ?_ _); rotate_left; focus (first | omega | (simp; done) | (simp; omega))) | (with_reducible refine Below.step ?_ (by assumption))))⟩, by (first | (simp; done) | (simp; omega) | omega)⟩ ?_
  repeat (first | (refine calmA_plain rfl rfl ?_ (fun K hK w1 hC => ?_); (focus (intro _ _; simp [RA]; done)); have hC' := hC.1.1; simp only [Held, and_true] at hC'; go_wp2_with (first | (refine wpList_fbin rfl rfl rfl rfl rfl (fun r n hr => ?_)) | (refine wpList_widen rfl rfl Try.underlying63 Try.underlying22 rfl (fun r n hr => ?_))); refine ⟨rfl, (by first | exact Below.refl _ _ | exact below_drewN _), hK _ ?_⟩; clear hC hC' hK K w1) | (refine calmA_check rfl rfl rfl ?_ ?_; (focus (intro _ _; simp [RA]; done))))
  refine calmA_call (f := 22) (args := _) rfl ?_ (by (intro w1; simp [execOp, resolve, invoke, go_sem]; with_reducible rfl)) (fun w1 hC => ?_) ?_
  · (intro _ _; simp [RA]; done)
  · refine (toSpin_any _ _ _ _ _).mono ?_
    rintro e w2 ⟨rfl, hb⟩
    exact ⟨_, rfl, by simp, hb⟩
  rintro v hv
  simp at hv
  subst hv
  repeat (first | (refine calmA_plain rfl rfl ?_ (fun K hK w1 hC => ?_); (focus (intro _ _; simp [RA]; done)); have hC' := hC.1.1; simp only [Held, and_true] at hC'; go_wp2_with (first | (refine wpList_fbin rfl rfl rfl rfl rfl (fun r n hr => ?_)) | (refine wpList_widen rfl rfl Try.underlying63 Try.underlying22 rfl (fun r n hr => ?_))); refine ⟨rfl, (by first | exact Below.refl _ _ | exact below_drewN _), hK _ ?_⟩; clear hC hC' hK K w1) | (refine calmA_check rfl rfl rfl ?_ ?_; (focus (intro _ _; simp [RA]; done))))
  refine calmA_call (f := 22) (args := _) rfl ?_ (by (intro w1; simp [execOp, resolve, invoke, go_sem]; with_reducible rfl)) (fun w1 hC => ?_) ?_
  · (intro _ _; simp [RA]; done)
  · refine (toSpin_any _ _ _ _ _).mono ?_
    rintro e w2 ⟨rfl, hb⟩
    exact ⟨_, rfl, by simp, hb⟩
  rintro v hv
  simp at hv
  subst hv
  repeat (first | (refine calmA_plain rfl rfl ?_ (fun K hK w1 hC => ?_); (focus (intro _ _; simp [RA]; done)); have hC' := hC.1.1; simp only [Held, and_true] at hC'; go_wp2_with (first | (refine wpList_fbin rfl rfl rfl rfl rfl (fun r n hr => ?_)) | (refine wpList_widen rfl rfl Try.underlying63 Try.underlying22 rfl (fun r n hr => ?_))); refine ⟨rfl, (by first | exact Below.refl _ _ | exact below_drewN _), hK _ ?_⟩; clear hC hC' hK K w1) | (refine calmA_check rfl rfl rfl ?_ ?_; (focus (intro _ _; simp [RA]; done))))
  refine calmA_call (f := 43) (args := _) rfl ?_ (by (intro w1; simp [execOp, resolve, invoke, go_sem]; with_reducible rfl)) (fun w1 hC => ?_) ?_
  · (intro _ _; simp [RA]; done)
  · refine (implTimesSpins_any x0 x1 x2 x3 y0 y1 y2 y3 _).mono ?_
    rintro e w2 hp
    obtain ⟨v, he, hT, hb⟩ := tv_TimesSpins hp
    exact ⟨v, he, by simp; exact hT, hb⟩
  rintro v hv
  simp at hv
  unfold TVTimesSpins at hv
  obtain ⟨r1_0, r1_1, r1_2, r1_3, rfl, ⟨q1_0, q1_1, q1_2, q1_3⟩⟩ := hv
  have Hq1_0 := Lib.hid q1_0
  clear q1_0
  have Hq1_1 := Lib.hid q1_1
  clear q1_1
  have Hq1_2 := Lib.hid q1_2
  clear q1_2
  have Hq1_3 := Lib.hid q1_3
  clear q1_3
  repeat (first | (refine calmA_plain rfl rfl ?_ (fun K hK w1 hC => ?_); (focus (intro _ _; simp [RA]; done)); have hC' := hC.1.1; simp only [Held, and_true] at hC'; go_wp2_with (first | (refine wpList_fbin rfl rfl rfl rfl rfl (fun r n hr => ?_)) | (refine wpList_widen rfl rfl Try.underlying63 Try.underlying22 rfl (fun r n hr => ?_))); refine ⟨rfl, (by first | exact Below.refl _ _ | exact below_drewN _), hK _ ?_⟩; clear hC hC' hK K w1) | (refine calmA_check rfl rfl rfl ?_ ?_; (focus (intro _ _; simp [RA]; done))))
  refine calmA_alloc (n := 4) (zs := #[.float .f32 0, .float .f32 0, .float .f32 0, .float .f32 0]) (t := 37) rfl rfl ?_ ?_ ?_ ?_ (fun b hb => ?_)
  · (first | (simp; done) | (simp [Act.put]; done))
  · intro a w h; simp [RA]; exact h
  · intro w; simp [execOp, go_sem]; done
  · rfl
  refine calmA_store (ia := 5) (n := 4) rfl rfl rfl rfl hb rfl ?_ ?_ ?_ ?_ ?_ ?_ ?_ ?_ ?_ ?_
  · kernel_rfl
  · intro a w h; simp [RA] at h; exact h
  · rfl
  · rfl
  · simp [Value.oneCell']
  · intro a w h; simp [RA]; exact h
  · (first | (simp; done) | (simp; omega) | (simp [*]; done) | (simp [*]; omega))
  · (first | omega | (simp [*]; done) | (simp [*]; omega))
  · rfl
  repeat (first | (refine calmA_plain rfl rfl ?_ (fun K hK w1 hC => ?_); (focus (intro _ _; simp [RA]; done)); have hC' := hC.1.1; simp only [Held, and_true] at hC'; go_wp2_with (first | (refine wpList_fbin rfl rfl rfl rfl rfl (fun r n hr => ?_)) | (refine wpList_widen rfl rfl Try.underlying63 Try.underlying22 rfl (fun r n hr => ?_))); refine ⟨rfl, (by first | exact Below.refl _ _ | exact below_drewN _), hK _ ?_⟩; clear hC hC' hK K w1) | (refine calmA_check rfl rfl rfl ?_ ?_; (focus (intro _ _; simp [RA]; done))))
  refine calmA_nil ?_
  intro w' hC hF
  have hC' := hC.1.1
  simp only [Held, and_true] at hC'
  obtain ⟨b', vs', e1, e2, hN, hS⟩ := RA_get hF (i := 6) (f := .put 6 16) (by simp) (by simp)
  simp [Act.put, Act.eval] at e1 e2
  subst e1 e2
  simp [Held, cellsAt] at hS
  go_wp2_with fail
  refine (eqSpin_any _ _ _ _ _ _ _ _ _ (Hq1_0.out.trans Hq0_0.out.symm) (Hq1_1.out.trans Hq0_1.out.symm) (Hq1_2.out.trans Hq0_2.out.symm) (Hq1_3.out.trans Hq0_3.out.symm)).mono ?_
  rintro e w9 ⟨rfl, hb⟩
  go_wp2
  go_ret
  refine ⟨rfl, ?_⟩
  (try have hB := hC.1.2)
  (repeat (first | assumption | (with_reducible exact Below.refl _ _) | (with_reducible refine Below.drewN ?_ _) | (with_reducible refine Below.drew ?_) | (with_reducible refine Below.allocS ?_ _) | ((with_reducible refine Below.setCell ?_ ?_ _); rotate_left; focus (first | omega | (simp; done) | (simp; omega))) | (with_reducible refine Below.step ?_ (by assumption))))

end Go.Proofs.Ytondpgnfkicpjaa
