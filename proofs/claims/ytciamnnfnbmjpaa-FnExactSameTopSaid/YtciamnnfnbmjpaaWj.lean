/-
  The walks of falls, second part.
-/
import Derived.Test.YtciamnnfnbmjpaaWi
set_option linter.unusedVariables false
set_option linter.unusedSimpArgs false
namespace Go.Proofs.Ytciamnnfnbmjpaa
open Go.RowKit

theorem half_cn (x : Nat) : fbin .quo .f32 x (cn .f32 1073741824) = fbin .mul .f32 (cn .f32 1056964608) x := by
  rw [show cn .f32 1073741824 = 1073741824 by decide +kernel, show cn .f32 1056964608 = 1056964608 by decide +kernel, half_law]

set_option maxRecDepth 100000 in
set_option maxHeartbeats 4000000 in
theorem implFlyFall_any (t0 t1 t2 t3 x0 x1 x2 z : Nat) (w : World) : Calls Try.prog 28 #[.agg #[.float .f32 t0, .float .f32 t1, .float .f32 t2, .float .f32 t3], .agg #[.float .f32 x0, .float .f32 x1, .float .f32 x2], .float .f32 z] w (VB3 (flyB t0 t1 t2 t3 x0 x1 x2 z) (flyA x0 x1 t3 z) (flyS x1 t3 z) (flyT x2 z) w) := by
  have hh : Hid (∀ x, fbin .quo .f32 x (cn .f32 1073741824) = fbin .mul .f32 (cn .f32 1056964608) x) := half_cn
  cases h1 : (tableB t0 t1 t2 t3 && fin3 x0 x1 x2) <;> cases h2 : finB .f32 z
  all_goals
    go_enter Try.func28, Try.ntmps28
    go_wp2_with fail
    refine (fallOk_any t0 t1 t2 t3 x0 x1 x2 _).mono ?_
    rintro e w1 ⟨rfl, hb⟩
    have hk := Held.below hb (l := [(⟨w.heap.size, 0, none⟩, .float .f32 t0), (⟨w.heap.size, 1, none⟩, .float .f32 t1), (⟨w.heap.size, 2, none⟩, .float .f32 t2), (⟨w.heap.size, 3, none⟩, .float .f32 t3), (⟨(w.heap.size + 1), 0, none⟩, .float .f32 x0), (⟨(w.heap.size + 1), 1, none⟩, .float .f32 x1), (⟨(w.heap.size + 1), 2, none⟩, .float .f32 x2), (⟨(w.heap.size + 1 + 1), 0, none⟩, .float .f32 0), (⟨(w.heap.size + 1 + 1), 1, none⟩, .float .f32 0), (⟨(w.heap.size + 1 + 1), 2, none⟩, .float .f32 0)]) (by simp [Held, go_sem, *])
    simp only [Held, and_true] at hk
    go_wp2_with (first | (refine wpList_fbin rfl rfl rfl rfl rfl (fun r n hr => ?_)) | (go_at_call 68; refine (IsFinite_any _ _).mono ?_; rintro e w' ⟨n, rfl, rfl⟩) | (go_at_call 57; (with_reducible refine (finite3_new _ _ _ _ _ _ _ ?_).mono ?_); (focus (simp [go_sem]; done)); rintro e w' ⟨n, rfl, rfl⟩))
    all_goals
      refine bodyPost_ret (v := ?_) (by first | (simp [results, Try.results28, go_sem, *]; rfl) | (simp [results, Try.results28, go_sem, *]; done)) rfl ?_
      first
        | ((with_reducible refine vb3_told ?_ (by unfold flyB; rw [h1, h2]; simp) ‹(!fin3 _ _ _) = false› ?_); (focus (unfold flyA flyD flyS flyT; simp only [Hid] at *; refine ⟨?_, ?_, ?_⟩ <;> simp only [*]; done)); ((repeat (first | (with_reducible exact Below.refl _ _) | (with_reducible refine Below.drewN ?_ _) | (with_reducible refine Below.drew ?_) | (with_reducible refine Below.allocS ?_ _) | ((with_reducible refine Below.setCell ?_ ?_ _); rotate_left; focus (first | omega | (simp; done) | (simp; omega))) | (with_reducible refine Below.step ?_ (by assumption)))); done))
        | ((refine vb3_bad ?_ ?_ ‹(!fin3 _ _ _) = true› ?_); (focus (unfold flyA flyD flyS flyT; simp only [Hid] at *; refine ⟨?_, ?_, ?_⟩ <;> simp only [*]; done)); (focus (unfold flyB; rw [h1, h2]; simp; done)); ((repeat (first | (with_reducible exact Below.refl _ _) | (with_reducible refine Below.drewN ?_ _) | (with_reducible refine Below.drew ?_) | (with_reducible refine Below.allocS ?_ _) | ((with_reducible refine Below.setCell ?_ ?_ _); rotate_left; focus (first | omega | (simp; done) | (simp; omega))) | (with_reducible refine Below.step ?_ (by assumption)))); done))
        | ((with_reducible refine vb3_none (by unfold flyB; rw [h1, h2]; simp) ?_); (repeat (first | (with_reducible exact Below.refl _ _) | (with_reducible refine Below.drewN ?_ _) | (with_reducible refine Below.drew ?_) | (with_reducible refine Below.allocS ?_ _) | ((with_reducible refine Below.setCell ?_ ?_ _); rotate_left; focus (first | omega | (simp; done) | (simp; omega))) | (with_reducible refine Below.step ?_ (by assumption)))); done)

set_option maxRecDepth 100000 in
theorem toFall_any (x0 x1 x2 : Nat) (w : World) : Calls Try.prog 27 #[.agg #[.float .f32 x0, .float .f32 x1, .float .f32 x2]] w (BV (.agg #[.float .f32 x0, .float .f32 x1, .float .f32 x2]) w) := by
  go_enter Try.func27, Try.ntmps27
  go_wp2
  refine bodyPost_ret (v := .agg #[.float .f32 x0, .float .f32 x1, .float .f32 x2]) (by simp [results, Try.results27, go_sem]) rfl ⟨rfl, ?_⟩
  (repeat (first | (with_reducible exact Below.refl _ _) | (with_reducible refine Below.drewN ?_ _) | (with_reducible refine Below.drew ?_) | (with_reducible refine Below.allocS ?_ _) | ((with_reducible refine Below.setCell ?_ ?_ _); rotate_left; focus (first | omega | (simp; done) | (simp; omega))) | (with_reducible refine Below.step ?_ (by assumption))))

def TVFlyFall (x0 x1 x2 x3 y0 y1 y2 z2 : Nat) (v : Value) : Prop := ∃ r0 r1 r2, v = .tuple #[.agg #[.float .f32 r0, .float .f32 r1, .float .f32 r2], .bool (flyB x0 x1 x2 x3 y0 y1 y2 z2)] ∧ (cn .f32 r0 = condF (flyB x0 x1 x2 x3 y0 y1 y2 z2) (flyA y0 y1 x3 z2) ∧ cn .f32 r1 = condF (flyB x0 x1 x2 x3 y0 y1 y2 z2) (flyS y1 x3 z2) ∧ cn .f32 r2 = condF (flyB x0 x1 x2 x3 y0 y1 y2 z2) (flyT y2 z2))
theorem tv_FlyFall {x0 x1 x2 x3 y0 y1 y2 z2 : Nat} {w w' : World} {e : Ending} (h : VB3 (flyB x0 x1 x2 x3 y0 y1 y2 z2) (flyA y0 y1 x3 z2) (flyS y1 x3 z2) (flyT y2 z2) w e w') : ∃ v, e = .returned v ∧ TVFlyFall x0 x1 x2 x3 y0 y1 y2 z2 v ∧ Below w.heap.size w w' := by
  obtain ⟨r0, r1, r2, he, hq, hb⟩ := h
  exact ⟨_, he, ⟨r0, r1, r2, rfl, hq⟩, hb⟩

set_option maxRecDepth 100000 in
set_option maxHeartbeats 4000000 in
theorem lawFlyFall_walk (x0 x1 x2 x3 y0 y1 y2 z2 : Nat) (_ : x0 < 4294967296) (_ : x1 < 4294967296) (_ : x2 < 4294967296) (_ : x3 < 4294967296) (_ : y0 < 4294967296) (_ : y1 < 4294967296) (_ : y2 < 4294967296) (_ : z2 < 4294967296) (w : World) : Calls Try.prog 6 #[.agg #[.float .f32 x0, .float .f32 x1, .float .f32 x2, .float .f32 x3], .agg #[.float .f32 y0, .float .f32 y1, .float .f32 y2], .float .f32 z2] w fun e w' => e = .returned (.bool true) ∧ Below w.heap.size w w' := by
  go_enter Try.func6, Try.ntmps6
  go_wp2_with fail
  refine region_calmA w (w.heap.size + 1 + 1) [(⟨w.heap.size, 0, none⟩, .float .f32 x0), (⟨w.heap.size, 1, none⟩, .float .f32 x1), (⟨w.heap.size, 2, none⟩, .float .f32 x2), (⟨w.heap.size, 3, none⟩, .float .f32 x3), (⟨(w.heap.size + 1), 0, none⟩, .float .f32 y0), (⟨(w.heap.size + 1), 1, none⟩, .float .f32 y1), (⟨(w.heap.size + 1), 2, none⟩, .float .f32 y2)] (fun f args v => if f = 25 then TVFlyFall x0 x1 x2 x3 y0 y1 y2 z2 v else v = args.getD 0 undef) [(9, .new 7 3), (10, .put 7 18)] (by kernel_rfl) (by kernel_rfl) (by kernel_rfl) ⟨⟨by simp [Held, go_sem, *], by (repeat (first | assumption | (with_reducible exact Below.refl _ _) | (with_reducible refine Below.drewN ?_ _) | (with_reducible refine Below.drew ?_) | (with_reducible refine Below.allocS ?_ _) | ((with_reducible refine Below.setCell ?_ ?_ _); rotate_left; focus (first | omega | (simp; done) | (simp; omega))) | (with_reducible refine Below.step ?_ (by assumption))))⟩, by (first | (simp; done) | (simp; omega) | omega)⟩ ?_
  repeat (first | (refine calmA_plain rfl rfl ?_ (fun K hK w1 hC => ?_); (focus (intro _ _; simp [RA]; done)); have hC' := hC.1.1; simp only [Held, and_true] at hC'; go_wp2_with (first | (refine wpList_fbin rfl rfl rfl rfl rfl (fun r n hr => ?_)) | (refine wpList_widen rfl rfl Try.underlying34 Try.underlying22 rfl (fun r n hr => ?_))); refine ⟨rfl, (by first | exact Below.refl _ _ | exact below_drewN _), hK _ ?_⟩; clear hC hC' hK K w1) | (refine calmA_check rfl rfl rfl ?_ ?_; (focus (intro _ _; simp [RA]; done))))
  refine calmA_call (f := 26) (args := _) rfl ?_ (by (intro w1; simp [execOp, resolve, invoke, go_sem]; with_reducible rfl)) (fun w1 hC => ?_) ?_
  · (intro _ _; simp [RA]; done)
  · refine (toTable_any _ _ _ _ _).mono ?_
    rintro e w2 ⟨rfl, hb⟩
    exact ⟨_, rfl, by simp, hb⟩
  rintro v hv
  simp at hv
  subst hv
  repeat (first | (refine calmA_plain rfl rfl ?_ (fun K hK w1 hC => ?_); (focus (intro _ _; simp [RA]; done)); have hC' := hC.1.1; simp only [Held, and_true] at hC'; go_wp2_with (first | (refine wpList_fbin rfl rfl rfl rfl rfl (fun r n hr => ?_)) | (refine wpList_widen rfl rfl Try.underlying34 Try.underlying22 rfl (fun r n hr => ?_))); refine ⟨rfl, (by first | exact Below.refl _ _ | exact below_drewN _), hK _ ?_⟩; clear hC hC' hK K w1) | (refine calmA_check rfl rfl rfl ?_ ?_; (focus (intro _ _; simp [RA]; done))))
  refine calmA_call (f := 27) (args := _) rfl ?_ (by (intro w1; simp [execOp, resolve, invoke, go_sem]; with_reducible rfl)) (fun w1 hC => ?_) ?_
  · (intro _ _; simp [RA]; done)
  · refine (toFall_any _ _ _ _).mono ?_
    rintro e w2 ⟨rfl, hb⟩
    exact ⟨_, rfl, by simp, hb⟩
  rintro v hv
  simp at hv
  subst hv
  repeat (first | (refine calmA_plain rfl rfl ?_ (fun K hK w1 hC => ?_); (focus (intro _ _; simp [RA]; done)); have hC' := hC.1.1; simp only [Held, and_true] at hC'; go_wp2_with (first | (refine wpList_fbin rfl rfl rfl rfl rfl (fun r n hr => ?_)) | (refine wpList_widen rfl rfl Try.underlying34 Try.underlying22 rfl (fun r n hr => ?_))); refine ⟨rfl, (by first | exact Below.refl _ _ | exact below_drewN _), hK _ ?_⟩; clear hC hC' hK K w1) | (refine calmA_check rfl rfl rfl ?_ ?_; (focus (intro _ _; simp [RA]; done))))
  refine calmA_call (f := 25) (args := _) rfl ?_ (by (intro w1; simp [execOp, resolve, invoke, go_sem]; with_reducible rfl)) (fun w1 hC => ?_) ?_
  · (intro _ _; simp [RA]; done)
  · refine (specFlyFall_any x0 x1 x2 x3 y0 y1 y2 z2 _).mono ?_
    rintro e w2 hp
    obtain ⟨v, he, hT, hb⟩ := tv_FlyFall hp
    exact ⟨v, he, by simp; exact hT, hb⟩
  rintro v hv
  simp at hv
  unfold TVFlyFall at hv
  obtain ⟨r0_0, r0_1, r0_2, rfl, ⟨q0_0, q0_1, q0_2⟩⟩ := hv
  have Hq0_0 := Lib.hid q0_0
  clear q0_0
  have Hq0_1 := Lib.hid q0_1
  clear q0_1
  have Hq0_2 := Lib.hid q0_2
  clear q0_2
  repeat (first | (refine calmA_plain rfl rfl ?_ (fun K hK w1 hC => ?_); (focus (intro _ _; simp [RA]; done)); have hC' := hC.1.1; simp only [Held, and_true] at hC'; go_wp2_with (first | (refine wpList_fbin rfl rfl rfl rfl rfl (fun r n hr => ?_)) | (refine wpList_widen rfl rfl Try.underlying34 Try.underlying22 rfl (fun r n hr => ?_))); refine ⟨rfl, (by first | exact Below.refl _ _ | exact below_drewN _), hK _ ?_⟩; clear hC hC' hK K w1) | (refine calmA_check rfl rfl rfl ?_ ?_; (focus (intro _ _; simp [RA]; done))))
  refine calmA_alloc (n := 3) (zs := #[.float .f32 0, .float .f32 0, .float .f32 0]) (t := 53) rfl rfl ?_ ?_ ?_ ?_ (fun b hb => ?_)
  · simp
  · intro a w h; simp [RA]; exact h
  · intro w; simp [execOp, go_sem]; done
  · rfl
  refine calmA_store (ia := 9) (n := 3) rfl rfl rfl rfl hb rfl ?_ ?_ ?_ ?_ ?_ ?_ ?_ ?_ ?_ ?_
  · kernel_rfl
  · intro a w h; simp [RA] at h; exact h
  · rfl
  · rfl
  · simp [Value.oneCell']
  · intro a w h; simp [RA]; exact h
  · (first | (simp; done) | (simp; omega) | (simp [*]; done) | (simp [*]; omega))
  · (first | omega | (simp [*]; done) | (simp [*]; omega))
  · rfl
  repeat (first | (refine calmA_plain rfl rfl ?_ (fun K hK w1 hC => ?_); (focus (intro _ _; simp [RA]; done)); have hC' := hC.1.1; simp only [Held, and_true] at hC'; go_wp2_with (first | (refine wpList_fbin rfl rfl rfl rfl rfl (fun r n hr => ?_)) | (refine wpList_widen rfl rfl Try.underlying34 Try.underlying22 rfl (fun r n hr => ?_))); refine ⟨rfl, (by first | exact Below.refl _ _ | exact below_drewN _), hK _ ?_⟩; clear hC hC' hK K w1) | (refine calmA_check rfl rfl rfl ?_ ?_; (focus (intro _ _; simp [RA]; done))))
  refine calmA_nil ?_
  intro w' hC hF
  have hC' := hC.1.1
  simp only [Held, and_true] at hC'
  obtain ⟨b', vs', e1, e2, hN, hS⟩ := RA_get hF (i := 10) (f := .put 7 18) (by simp) (by simp)
  simp [Act.put, Act.eval] at e1 e2
  subst e1 e2
  simp [Held, cellsAt] at hS
  have hk0 := hC'
  have hw0 := hC.1.2
  go_wp2_with fail
  refine region_calmA w (w'.heap.size) [(⟨w.heap.size, 0, none⟩, .float .f32 x0), (⟨w.heap.size, 1, none⟩, .float .f32 x1), (⟨w.heap.size, 2, none⟩, .float .f32 x2), (⟨w.heap.size, 3, none⟩, .float .f32 x3), (⟨(w.heap.size + 1), 0, none⟩, .float .f32 y0), (⟨(w.heap.size + 1), 1, none⟩, .float .f32 y1), (⟨(w.heap.size + 1), 2, none⟩, .float .f32 y2), (⟨b, 0, none⟩, .float .f32 r0_0), (⟨b, 1, none⟩, .float .f32 r0_1), (⟨b, 2, none⟩, .float .f32 r0_2)] (fun f args v => if f = 28 then TVFlyFall x0 x1 x2 x3 y0 y1 y2 z2 v else v = args.getD 0 undef) [(9, .new 9 3), (10, .put 9 27)] (by kernel_rfl) (by kernel_rfl) (by kernel_rfl) ⟨⟨by simp [Held, go_sem, *], by (repeat (first | assumption | (with_reducible exact Below.refl _ _) | (with_reducible refine Below.drewN ?_ _) | (with_reducible refine Below.drew ?_) | (with_reducible refine Below.allocS ?_ _) | ((with_reducible refine Below.setCell ?_ ?_ _); rotate_left; focus (first | omega | (simp; done) | (simp; omega))) | (with_reducible refine Below.step ?_ (by assumption))))⟩, by (first | (simp; done) | (simp; omega) | omega)⟩ ?_
  repeat (first | (refine calmA_plain rfl rfl ?_ (fun K hK w1 hC => ?_); (focus (intro _ _; simp [RA]; done)); have hC' := hC.1.1; simp only [Held, and_true] at hC'; go_wp2_with (first | (refine wpList_fbin rfl rfl rfl rfl rfl (fun r n hr => ?_)) | (refine wpList_widen rfl rfl Try.underlying34 Try.underlying22 rfl (fun r n hr => ?_))); refine ⟨rfl, (by first | exact Below.refl _ _ | exact below_drewN _), hK _ ?_⟩; clear hC hC' hK K w1) | (refine calmA_check rfl rfl rfl ?_ ?_; (focus (intro _ _; simp [RA]; done))))
  refine calmA_call (f := 26) (args := _) rfl ?_ (by (intro w1; simp [execOp, resolve, invoke, go_sem]; with_reducible rfl)) (fun w1 hC => ?_) ?_
  · (intro _ _; simp [RA]; done)
  · refine (toTable_any _ _ _ _ _).mono ?_
    rintro e w2 ⟨rfl, hb⟩
    exact ⟨_, rfl, by simp, hb⟩
  rintro v hv
  simp at hv
  subst hv
  repeat (first | (refine calmA_plain rfl rfl ?_ (fun K hK w1 hC => ?_); (focus (intro _ _; simp [RA]; done)); have hC' := hC.1.1; simp only [Held, and_true] at hC'; go_wp2_with (first | (refine wpList_fbin rfl rfl rfl rfl rfl (fun r n hr => ?_)) | (refine wpList_widen rfl rfl Try.underlying34 Try.underlying22 rfl (fun r n hr => ?_))); refine ⟨rfl, (by first | exact Below.refl _ _ | exact below_drewN _), hK _ ?_⟩; clear hC hC' hK K w1) | (refine calmA_check rfl rfl rfl ?_ ?_; (focus (intro _ _; simp [RA]; done))))
  refine calmA_call (f := 27) (args := _) rfl ?_ (by (intro w1; simp [execOp, resolve, invoke, go_sem]; with_reducible rfl)) (fun w1 hC => ?_) ?_
  · (intro _ _; simp [RA]; done)
  · refine (toFall_any _ _ _ _).mono ?_
    rintro e w2 ⟨rfl, hb⟩
    exact ⟨_, rfl, by simp, hb⟩
  rintro v hv
  simp at hv
  subst hv
  repeat (first | (refine calmA_plain rfl rfl ?_ (fun K hK w1 hC => ?_); (focus (intro _ _; simp [RA]; done)); have hC' := hC.1.1; simp only [Held, and_true] at hC'; go_wp2_with (first | (refine wpList_fbin rfl rfl rfl rfl rfl (fun r n hr => ?_)) | (refine wpList_widen rfl rfl Try.underlying34 Try.underlying22 rfl (fun r n hr => ?_))); refine ⟨rfl, (by first | exact Below.refl _ _ | exact below_drewN _), hK _ ?_⟩; clear hC hC' hK K w1) | (refine calmA_check rfl rfl rfl ?_ ?_; (focus (intro _ _; simp [RA]; done))))
  refine calmA_call (f := 28) (args := _) rfl ?_ (by (intro w1; simp [execOp, resolve, invoke, go_sem]; with_reducible rfl)) (fun w1 hC => ?_) ?_
  · (intro _ _; simp [RA]; done)
  · refine (implFlyFall_any x0 x1 x2 x3 y0 y1 y2 z2 _).mono ?_
    rintro e w2 hp
    obtain ⟨v, he, hT, hb⟩ := tv_FlyFall hp
    exact ⟨v, he, by simp; exact hT, hb⟩
  rintro v hv
  simp at hv
  unfold TVFlyFall at hv
  obtain ⟨r1_0, r1_1, r1_2, rfl, ⟨q1_0, q1_1, q1_2⟩⟩ := hv
  have Hq1_0 := Lib.hid q1_0
  clear q1_0
  have Hq1_1 := Lib.hid q1_1
  clear q1_1
  have Hq1_2 := Lib.hid q1_2
  clear q1_2
  repeat (first | (refine calmA_plain rfl rfl ?_ (fun K hK w1 hC => ?_); (focus (intro _ _; simp [RA]; done)); have hC' := hC.1.1; simp only [Held, and_true] at hC'; go_wp2_with (first | (refine wpList_fbin rfl rfl rfl rfl rfl (fun r n hr => ?_)) | (refine wpList_widen rfl rfl Try.underlying34 Try.underlying22 rfl (fun r n hr => ?_))); refine ⟨rfl, (by first | exact Below.refl _ _ | exact below_drewN _), hK _ ?_⟩; clear hC hC' hK K w1) | (refine calmA_check rfl rfl rfl ?_ ?_; (focus (intro _ _; simp [RA]; done))))
  refine calmA_alloc (n := 3) (zs := #[.float .f32 0, .float .f32 0, .float .f32 0]) (t := 53) rfl rfl ?_ ?_ ?_ ?_ (fun b hb => ?_)
  · simp
  · intro a w h; simp [RA]; exact h
  · intro w; simp [execOp, go_sem]; done
  · rfl
  refine calmA_store (ia := 9) (n := 3) rfl rfl rfl rfl hb rfl ?_ ?_ ?_ ?_ ?_ ?_ ?_ ?_ ?_ ?_
  · kernel_rfl
  · intro a w h; simp [RA] at h; exact h
  · rfl
  · rfl
  · simp [Value.oneCell']
  · intro a w h; simp [RA]; exact h
  · (first | (simp; done) | (simp; omega) | (simp [*]; done) | (simp [*]; omega))
  · (first | omega | (simp [*]; done) | (simp [*]; omega))
  · rfl
  repeat (first | (refine calmA_plain rfl rfl ?_ (fun K hK w1 hC => ?_); (focus (intro _ _; simp [RA]; done)); have hC' := hC.1.1; simp only [Held, and_true] at hC'; go_wp2_with (first | (refine wpList_fbin rfl rfl rfl rfl rfl (fun r n hr => ?_)) | (refine wpList_widen rfl rfl Try.underlying34 Try.underlying22 rfl (fun r n hr => ?_))); refine ⟨rfl, (by first | exact Below.refl _ _ | exact below_drewN _), hK _ ?_⟩; clear hC hC' hK K w1) | (refine calmA_check rfl rfl rfl ?_ ?_; (focus (intro _ _; simp [RA]; done))))
  refine calmA_nil ?_
  intro w' hC hF
  have hC' := hC.1.1
  simp only [Held, and_true] at hC'
  obtain ⟨b', vs', e1, e2, hN, hS⟩ := RA_get hF (i := 10) (f := .put 9 27) (by simp) (by simp)
  simp [Act.put, Act.eval] at e1 e2
  subst e1 e2
  simp [Held, cellsAt] at hS
  go_wp2_with fail
  refine (eqFall_any _ _ _ _ _ _ _ (Hq1_0.out.trans Hq0_0.out.symm) (Hq1_1.out.trans Hq0_1.out.symm) (Hq1_2.out.trans Hq0_2.out.symm)).mono ?_
  rintro e w9 ⟨rfl, hb⟩
  go_wp2
  go_ret
  refine ⟨rfl, ?_⟩
  (try have hB := hC.1.2)
  (repeat (first | assumption | (with_reducible exact Below.refl _ _) | (with_reducible refine Below.drewN ?_ _) | (with_reducible refine Below.drew ?_) | (with_reducible refine Below.allocS ?_ _) | ((with_reducible refine Below.setCell ?_ ?_ _); rotate_left; focus (first | omega | (simp; done) | (simp; omega))) | (with_reducible refine Below.step ?_ (by assumption))))

end Go.Proofs.Ytciamnnfnbmjpaa
