/-
  The walks of swings' forces, energies, places and kicks.
-/
import Derived.Test.YtjfmcmdhkmcpiaaWp
import Derived.Deep.RegionHeld3
set_option linter.unusedVariables false
set_option linter.unusedSimpArgs false
namespace Go.Proofs.Ytjfmcmdhkmcpiaa
open Go.RowKit

set_option maxRecDepth 100000 in
theorem l02Both_any (x0 x1 x2 x3 x4 s0 s1 s2 p q : Nat) (w : World) (hP : Held [(⟨p, 0, none⟩, .float .f32 x0), (⟨p, 1, none⟩, .float .f32 x1), (⟨p, 2, none⟩, .float .f32 x2), (⟨p, 3, none⟩, .float .f32 x3), (⟨p, 4, none⟩, .float .f32 x4)] w) (hS : Held [(⟨q, 0, none⟩, .float .f32 s0), (⟨q, 1, none⟩, .float .f32 s1), (⟨q, 2, none⟩, .float .f32 s2)] w) : Calls Try.prog 65 #[.pointer (some ⟨p, 0, none⟩), .pointer (some ⟨q, 0, none⟩)] w (RB (pendB x0 x1 x2 x3 x4 && fin3 s0 s1 s2) w) := by
  simp only [Held, and_true] at hP hS
  go_enter Try.func65, Try.ntmps65
  go_wp2_with (first | (go_at_call 55; refine (l02Is_any x0 x1 x2 x3 x4 _ _ ?_ ?_ ?_ ?_ ?_).mono ?_; (focus (simp [*]; done)); (focus (simp [*]; done)); (focus (simp [*]; done)); (focus (simp [*]; done)); (focus (simp [*]; done)); rintro e w' ⟨n, rfl, rfl⟩) | (go_at_call 105; refine (l02Swing_any s0 s1 s2 _ _ ?_ ?_ ?_).mono ?_; (focus (simp [*]; done)); (focus (simp [*]; done)); (focus (simp [*]; done)); rintro e w' ⟨n, rfl, rfl⟩))
  all_goals (go_ret; first | exact ⟨_, ret_bool (by simp_all), rfl⟩ | exact ⟨0, ret_bool (by simp_all), rfl⟩)

def energyQ (x0 x1 s0 s1 : Nat) : Nat := fbin .add .f32 (fbin .mul .f32 (cn .f32 1056964608) (fbin .mul .f32 (fbin .mul .f32 (cn .f32 1086918619) (cn .f32 s1)) (fbin .mul .f32 (cn .f32 1086918619) (cn .f32 s1)))) (fbin .mul .f32 (fbin .quo .f32 (cn .f32 x1) (cn .f32 x0)) (fbin .sub .f32 (cn .f32 1065353216) (sineQ (fbin .add .f32 (cn .f32 s0) (cn .f32 1048576000)))))

set_option maxRecDepth 100000 in
set_option maxHeartbeats 4000000 in
theorem specForceOn_any (x0 x1 x2 x3 x4 s0 s1 s2 : Nat) (w : World) : Calls Try.prog 27 #[.agg #[.float .f32 x0, .float .f32 x1, .float .f32 x2, .float .f32 x3, .float .f32 x4], .agg #[.float .f32 s0, .float .f32 s1, .float .f32 s2]] w (PF (condF ((pendB x0 x1 x2 x3 x4 && fin3 s0 s1 s2) && finB .f32 (forceQ x0 x1 x2 x3 x4 s0 s1 s2)) (forceQ x0 x1 x2 x3 x4 s0 s1 s2)) ((pendB x0 x1 x2 x3 x4 && fin3 s0 s1 s2) && finB .f32 (forceQ x0 x1 x2 x3 x4 s0 s1 s2)) w) := by
  cases h1 : (pendB x0 x1 x2 x3 x4 && fin3 s0 s1 s2)
  all_goals
    go_enter Try.func27, Try.ntmps27
    go_wp2_with (first | (go_at_call 65; refine (l02Both_any x0 x1 x2 x3 x4 s0 s1 s2 _ _ _ ?_ ?_).mono ?_; (focus (simp [Held, go_sem]; done)); (focus (simp [Held, go_sem]; done)); rintro e w' ⟨n, rfl, rfl⟩) | (go_at_call 74; refine (l02Force_any x0 x1 x2 x3 x4 s0 s1 s2 _ _ ?_).mono ?_; (focus (simp [Held, go_sem]; done)); rintro e w2 ⟨r, rfl, hq, hb⟩; have HQ := Lib.hid hq; clear hq) | (go_at_call 57; refine (l02Number_any _ _).mono ?_; rintro e w3 ⟨n, rfl, rfl⟩))
    go_ret2
    first
      | ((refine pf_told (Q := forceQ x0 x1 x2 x3 x4 s0 s1 s2) HQ.out (by simp) ?_); (repeat (first | assumption | (with_reducible exact Below.refl _ _) | (with_reducible refine Below.drewN ?_ _) | (with_reducible refine Below.drew ?_) | (with_reducible refine Below.allocS ?_ _) | ((with_reducible refine Below.setCell ?_ ?_ _); rotate_left; focus (first | omega | (simp; done) | (simp; omega))) | (with_reducible refine Below.step ?_ (by assumption)))); done)
      | ((refine pf_none (by simp) ?_); (repeat (first | assumption | (with_reducible exact Below.refl _ _) | (with_reducible refine Below.drewN ?_ _) | (with_reducible refine Below.drew ?_) | (with_reducible refine Below.allocS ?_ _) | ((with_reducible refine Below.setCell ?_ ?_ _); rotate_left; focus (first | omega | (simp; done) | (simp; omega))) | (with_reducible refine Below.step ?_ (by assumption)))); done)

set_option maxRecDepth 100000 in
set_option maxHeartbeats 4000000 in
theorem ForceOn1_any (x0 x1 x2 x3 x4 s0 s1 s2 p q : Nat) (w : World) (hP : Held [(⟨p, 0, none⟩, .float .f32 x0), (⟨p, 1, none⟩, .float .f32 x1), (⟨p, 2, none⟩, .float .f32 x2), (⟨p, 3, none⟩, .float .f32 x3), (⟨p, 4, none⟩, .float .f32 x4)] w) (hV : Held [(⟨q, 0, none⟩, .float .f32 s0), (⟨q, 1, none⟩, .float .f32 s1), (⟨q, 2, none⟩, .float .f32 s2)] w) : Calls Try.prog 75 #[.pointer (some ⟨p, 0, none⟩), .pointer (some ⟨q, 0, none⟩)] w (BF .f32 (forceQ x0 x1 x2 x3 x4 s0 s1 s2) w) := by
  have hv := hV
  have hp := hP
  simp only [Held, and_true] at hv hp
  go_enter Try.func75, Try.ntmps75
  go_wp2_with (first | (go_at_call 76; refine (force_any x0 x1 x2 x3 x4 s0 s1 s2 _ _ hP).mono ?_; rintro e w2 ⟨r, rfl, hq, hb⟩; have HQ := Lib.hid hq; clear hq))
  go_ret
  refine ⟨_, rfl, HQ.out, ?_⟩
  (repeat (first | assumption | (with_reducible exact Below.refl _ _) | (with_reducible refine Below.drewN ?_ _) | (with_reducible refine Below.drew ?_) | (with_reducible refine Below.allocS ?_ _) | ((with_reducible refine Below.setCell ?_ ?_ _); rotate_left; focus (first | omega | (simp; done) | (simp; omega))) | (with_reducible refine Below.step ?_ (by assumption))))

set_option maxRecDepth 100000 in
set_option maxHeartbeats 4000000 in
theorem implForceOn_any (x0 x1 x2 x3 x4 s0 s1 s2 : Nat) (w : World) : Calls Try.prog 28 #[.agg #[.float .f32 x0, .float .f32 x1, .float .f32 x2, .float .f32 x3, .float .f32 x4], .agg #[.float .f32 s0, .float .f32 s1, .float .f32 s2]] w (PF (condF ((pendB x0 x1 x2 x3 x4 && fin3 s0 s1 s2) && finB .f32 (forceQ x0 x1 x2 x3 x4 s0 s1 s2)) (forceQ x0 x1 x2 x3 x4 s0 s1 s2)) ((pendB x0 x1 x2 x3 x4 && fin3 s0 s1 s2) && finB .f32 (forceQ x0 x1 x2 x3 x4 s0 s1 s2)) w) := by
  have hB : (pendB x0 x1 x2 x3 x4 && allFin [s0, s1, s2] && finB .f32 (forceQ x0 x1 x2 x3 x4 s0 s1 s2)) = ((pendB x0 x1 x2 x3 x4 && fin3 s0 s1 s2) && finB .f32 (forceQ x0 x1 x2 x3 x4 s0 s1 s2)) := by simp [allFin, fin3, Bool.and_assoc]
  rw [← hB]
  have HB := Lib.hid hB
  clear hB
  go_enter Try.func28, Try.ntmps28
  go_wp2_with fail
  go_region_held3 (fun w' => w'.cell? ⟨w.heap.size, 0, none⟩ = some (.float .f32 x0) ∧ w'.cell? ⟨w.heap.size, 1, none⟩ = some (.float .f32 x1) ∧ w'.cell? ⟨w.heap.size, 2, none⟩ = some (.float .f32 x2) ∧ w'.cell? ⟨w.heap.size, 3, none⟩ = some (.float .f32 x3) ∧ w'.cell? ⟨w.heap.size, 4, none⟩ = some (.float .f32 x4) ∧ w'.cell? ⟨w.heap.size + 1, 0, none⟩ = some (.float .f32 s0) ∧ w'.cell? ⟨w.heap.size + 1, 1, none⟩ = some (.float .f32 s1) ∧ w'.cell? ⟨w.heap.size + 1, 2, none⟩ = some (.float .f32 s2)) (simp [go_sem, *]) (first | (go_at_call 69; refine (numbersSwing_any s0 s1 s2 _ _ ?_ ?_ ?_).mono ?_; (simp [go_sem]); (simp [go_sem]); (simp [go_sem]); rintro e w' ⟨n, rfl, rfl⟩) | (go_at_call 59; refine (ofPendulum_any x0 x1 x2 x3 x4 _ _ [s0, s1, s2] _ _ (forceQ x0 x1 x2 x3 x4 s0 s1 s2) _ (by simp [maxLen]) ?_ ?_ ?_ ?_).mono ?_; (focus (simp [go_sem]; done)); (focus (intro i hi; match i, hi with | 0, _ => simp [go_sem] | 1, _ => simp [go_sem] | 2, _ => simp [go_sem])); (focus (intro w1; simp [go_sem]; done)); (focus (intro w1 hb1; exact ForceOn1_any x0 x1 x2 x3 x4 s0 s1 s2 _ _ _ (Held.below hb1 (by simp [Held, go_sem])) (Held.below hb1 (by simp [Held, go_sem])))); rintro e w2 ⟨r, rfl, hq, hb⟩; have HQ := Lib.hid hq; clear hq; have hk := Held.below hb (l := [(⟨w.heap.size, 0, none⟩, .float .f32 x0), (⟨w.heap.size, 1, none⟩, .float .f32 x1), (⟨w.heap.size, 2, none⟩, .float .f32 x2), (⟨w.heap.size, 3, none⟩, .float .f32 x3), (⟨w.heap.size, 4, none⟩, .float .f32 x4), (⟨(w.heap.size + 1), 0, none⟩, .float .f32 s0), (⟨(w.heap.size + 1), 1, none⟩, .float .f32 s1), (⟨(w.heap.size + 1), 2, none⟩, .float .f32 s2)]) (by simp [Held, go_sem, *]); simp only [Held, and_true] at hk))
  all_goals
    go_wp2
    go_ret2
    refine ⟨_, rfl, HQ.out, ?_⟩
    (repeat (first | assumption | (with_reducible exact Below.refl _ _) | (with_reducible refine Below.drewN ?_ _) | (with_reducible refine Below.drew ?_) | (with_reducible refine Below.allocS ?_ _) | ((with_reducible refine Below.setCell ?_ ?_ _); rotate_left; focus (first | omega | (simp; done) | (simp; omega))) | (with_reducible refine Below.step ?_ (by assumption))))

def TVForceOn (x0 x1 x2 x3 x4 y0 y1 y2 : Nat) (v : Value) : Prop := ∃ r0, v = .tuple #[.float .f32 r0, .bool ((pendB x0 x1 x2 x3 x4 && fin3 y0 y1 y2) && finB .f32 (forceQ x0 x1 x2 x3 x4 y0 y1 y2))] ∧ cn .f32 r0 = condF ((pendB x0 x1 x2 x3 x4 && fin3 y0 y1 y2) && finB .f32 (forceQ x0 x1 x2 x3 x4 y0 y1 y2)) (forceQ x0 x1 x2 x3 x4 y0 y1 y2)
theorem tv_ForceOn {x0 x1 x2 x3 x4 y0 y1 y2 : Nat} {w w' : World} {e : Ending} (h : PF (condF ((pendB x0 x1 x2 x3 x4 && fin3 y0 y1 y2) && finB .f32 (forceQ x0 x1 x2 x3 x4 y0 y1 y2)) (forceQ x0 x1 x2 x3 x4 y0 y1 y2)) ((pendB x0 x1 x2 x3 x4 && fin3 y0 y1 y2) && finB .f32 (forceQ x0 x1 x2 x3 x4 y0 y1 y2)) w e w') : ∃ v, e = .returned v ∧ TVForceOn x0 x1 x2 x3 x4 y0 y1 y2 v ∧ Below w.heap.size w w' := by
  obtain ⟨r0, he, hq, hb⟩ := h
  exact ⟨_, he, ⟨r0, rfl, hq⟩, hb⟩


set_option maxRecDepth 100000 in
set_option maxHeartbeats 4000000 in
theorem lawForceOn_walk (x0 x1 x2 x3 x4 y0 y1 y2 : Nat) (_ : x0 < 4294967296) (_ : x1 < 4294967296) (_ : x2 < 4294967296) (_ : x3 < 4294967296) (_ : x4 < 4294967296) (_ : y0 < 4294967296) (_ : y1 < 4294967296) (_ : y2 < 4294967296) (w : World) : Calls Try.prog 7 #[.agg #[.float .f32 x0, .float .f32 x1, .float .f32 x2, .float .f32 x3, .float .f32 x4], .agg #[.float .f32 y0, .float .f32 y1, .float .f32 y2]] w fun e w' => e = .returned (.bool true) ∧ Below w.heap.size w w' := by
  go_enter Try.func7, Try.ntmps7
  go_wp2_with fail
  refine region_calmA w (w.heap.size + 1 + 1) [(⟨w.heap.size, 0, none⟩, .float .f32 x0), (⟨w.heap.size, 1, none⟩, .float .f32 x1), (⟨w.heap.size, 2, none⟩, .float .f32 x2), (⟨w.heap.size, 3, none⟩, .float .f32 x3), (⟨w.heap.size, 4, none⟩, .float .f32 x4), (⟨(w.heap.size + 1), 0, none⟩, .float .f32 y0), (⟨(w.heap.size + 1), 1, none⟩, .float .f32 y1), (⟨(w.heap.size + 1), 2, none⟩, .float .f32 y2)] (fun f args v => if f = 27 then TVForceOn x0 x1 x2 x3 x4 y0 y1 y2 v else v = args.getD 0 undef) [] (by kernel_rfl) (by kernel_rfl) (by kernel_rfl) ⟨⟨by simp [Held, go_sem, *], by (repeat (first | assumption | (with_reducible exact Below.refl _ _) | (with_reducible refine Below.drewN ?_ _) | (with_reducible refine Below.drew ?_) | (with_reducible refine Below.allocS ?_ _) | ((with_reducible refine Below.setCell ?_ ?_ _); rotate_left; focus (first | omega | (simp; done) | (simp; omega))) | (with_reducible refine Below.step ?_ (by assumption))))⟩, by (first | (simp; done) | (simp; omega) | omega)⟩ ?_
  repeat (first | (refine calmA_plain rfl rfl ?_ (fun K hK w1 hC => ?_); (focus (intro _ _; simp [RA]; done)); have hC' := hC.1.1; simp only [Held, and_true] at hC'; go_wp2_with (first | (refine wpList_fbin rfl rfl rfl rfl rfl (fun r n hr => ?_)) | (refine wpList_widen rfl rfl Try.underlying30 Try.underlying22 rfl (fun r n hr => ?_))); refine ⟨rfl, (by first | exact Below.refl _ _ | exact below_drewN _), hK _ ?_⟩; clear hC hC' hK K w1) | (refine calmA_check rfl rfl rfl ?_ ?_; (focus (intro _ _; simp [RA]; done))))
  refine calmA_call (f := 16) (args := _) rfl ?_ (by (intro w1; simp [execOp, resolve, invoke, go_sem]; with_reducible rfl)) (fun w1 hC => ?_) ?_
  · (intro _ _; simp [RA]; done)
  · refine (toPendulum_any _ _ _ _ _ _).mono ?_
    rintro e w2 ⟨rfl, hb⟩
    exact ⟨_, rfl, by simp, hb⟩
  rintro v hv
  simp at hv
  subst hv
  repeat (first | (refine calmA_plain rfl rfl ?_ (fun K hK w1 hC => ?_); (focus (intro _ _; simp [RA]; done)); have hC' := hC.1.1; simp only [Held, and_true] at hC'; go_wp2_with (first | (refine wpList_fbin rfl rfl rfl rfl rfl (fun r n hr => ?_)) | (refine wpList_widen rfl rfl Try.underlying30 Try.underlying22 rfl (fun r n hr => ?_))); refine ⟨rfl, (by first | exact Below.refl _ _ | exact below_drewN _), hK _ ?_⟩; clear hC hC' hK K w1) | (refine calmA_check rfl rfl rfl ?_ ?_; (focus (intro _ _; simp [RA]; done))))
  refine calmA_call (f := 22) (args := _) rfl ?_ (by (intro w1; simp [execOp, resolve, invoke, go_sem]; with_reducible rfl)) (fun w1 hC => ?_) ?_
  · (intro _ _; simp [RA]; done)
  · refine (toSwing_any _ _ _ _).mono ?_
    rintro e w2 ⟨rfl, hb⟩
    exact ⟨_, rfl, by simp, hb⟩
  rintro v hv
  simp at hv
  subst hv
  repeat (first | (refine calmA_plain rfl rfl ?_ (fun K hK w1 hC => ?_); (focus (intro _ _; simp [RA]; done)); have hC' := hC.1.1; simp only [Held, and_true] at hC'; go_wp2_with (first | (refine wpList_fbin rfl rfl rfl rfl rfl (fun r n hr => ?_)) | (refine wpList_widen rfl rfl Try.underlying30 Try.underlying22 rfl (fun r n hr => ?_))); refine ⟨rfl, (by first | exact Below.refl _ _ | exact below_drewN _), hK _ ?_⟩; clear hC hC' hK K w1) | (refine calmA_check rfl rfl rfl ?_ ?_; (focus (intro _ _; simp [RA]; done))))
  refine calmA_call (f := 27) (args := _) rfl ?_ (by (intro w1; simp [execOp, resolve, invoke, go_sem]; with_reducible rfl)) (fun w1 hC => ?_) ?_
  · (intro _ _; simp [RA]; done)
  · refine (specForceOn_any x0 x1 x2 x3 x4 y0 y1 y2 _).mono ?_
    rintro e w2 hp
    obtain ⟨v, he, hT, hb⟩ := tv_ForceOn hp
    exact ⟨v, he, by simp; exact hT, hb⟩
  rintro v hv
  simp at hv
  unfold TVForceOn at hv
  obtain ⟨r0_0, rfl, q0_0⟩ := hv
  have Hq0_0 := Lib.hid q0_0
  clear q0_0
  repeat (first | (refine calmA_plain rfl rfl ?_ (fun K hK w1 hC => ?_); (focus (intro _ _; simp [RA]; done)); have hC' := hC.1.1; simp only [Held, and_true] at hC'; go_wp2_with (first | (refine wpList_fbin rfl rfl rfl rfl rfl (fun r n hr => ?_)) | (refine wpList_widen rfl rfl Try.underlying30 Try.underlying22 rfl (fun r n hr => ?_))); refine ⟨rfl, (by first | exact Below.refl _ _ | exact below_drewN _), hK _ ?_⟩; clear hC hC' hK K w1) | (refine calmA_check rfl rfl rfl ?_ ?_; (focus (intro _ _; simp [RA]; done))))
  refine calmA_nil ?_
  intro w' hC hF
  have hC' := hC.1.1
  simp only [Held, and_true] at hC'
  have hk0 := hC'
  have hw0 := hC.1.2
  go_wp2_with fail
  refine region_calmA w (w'.heap.size) [(⟨w.heap.size, 0, none⟩, .float .f32 x0), (⟨w.heap.size, 1, none⟩, .float .f32 x1), (⟨w.heap.size, 2, none⟩, .float .f32 x2), (⟨w.heap.size, 3, none⟩, .float .f32 x3), (⟨w.heap.size, 4, none⟩, .float .f32 x4), (⟨(w.heap.size + 1), 0, none⟩, .float .f32 y0), (⟨(w.heap.size + 1), 1, none⟩, .float .f32 y1), (⟨(w.heap.size + 1), 2, none⟩, .float .f32 y2)] (fun f args v => if f = 28 then TVForceOn x0 x1 x2 x3 x4 y0 y1 y2 v else v = args.getD 0 undef) [] (by kernel_rfl) (by kernel_rfl) (by kernel_rfl) ⟨⟨by simp [Held, go_sem, *], by (repeat (first | assumption | (with_reducible exact Below.refl _ _) | (with_reducible refine Below.drewN ?_ _) | (with_reducible refine Below.drew ?_) | (with_reducible refine Below.allocS ?_ _) | ((with_reducible refine Below.setCell ?_ ?_ _); rotate_left; focus (first | omega | (simp; done) | (simp; omega))) | (with_reducible refine Below.step ?_ (by assumption))))⟩, by (first | (simp; done) | (simp; omega) | omega)⟩ ?_
  repeat (first | (refine calmA_plain rfl rfl ?_ (fun K hK w1 hC => ?_); (focus (intro _ _; simp [RA]; done)); have hC' := hC.1.1; simp only [Held, and_true] at hC'; go_wp2_with (first | (refine wpList_fbin rfl rfl rfl rfl rfl (fun r n hr => ?_)) | (refine wpList_widen rfl rfl Try.underlying30 Try.underlying22 rfl (fun r n hr => ?_))); refine ⟨rfl, (by first | exact Below.refl _ _ | exact below_drewN _), hK _ ?_⟩; clear hC hC' hK K w1) | (refine calmA_check rfl rfl rfl ?_ ?_; (focus (intro _ _; simp [RA]; done))))
  refine calmA_call (f := 16) (args := _) rfl ?_ (by (intro w1; simp [execOp, resolve, invoke, go_sem]; with_reducible rfl)) (fun w1 hC => ?_) ?_
  · (intro _ _; simp [RA]; done)
  · refine (toPendulum_any _ _ _ _ _ _).mono ?_
    rintro e w2 ⟨rfl, hb⟩
    exact ⟨_, rfl, by simp, hb⟩
  rintro v hv
  simp at hv
  subst hv
  repeat (first | (refine calmA_plain rfl rfl ?_ (fun K hK w1 hC => ?_); (focus (intro _ _; simp [RA]; done)); have hC' := hC.1.1; simp only [Held, and_true] at hC'; go_wp2_with (first | (refine wpList_fbin rfl rfl rfl rfl rfl (fun r n hr => ?_)) | (refine wpList_widen rfl rfl Try.underlying30 Try.underlying22 rfl (fun r n hr => ?_))); refine ⟨rfl, (by first | exact Below.refl _ _ | exact below_drewN _), hK _ ?_⟩; clear hC hC' hK K w1) | (refine calmA_check rfl rfl rfl ?_ ?_; (focus (intro _ _; simp [RA]; done))))
  refine calmA_call (f := 22) (args := _) rfl ?_ (by (intro w1; simp [execOp, resolve, invoke, go_sem]; with_reducible rfl)) (fun w1 hC => ?_) ?_
  · (intro _ _; simp [RA]; done)
  · refine (toSwing_any _ _ _ _).mono ?_
    rintro e w2 ⟨rfl, hb⟩
    exact ⟨_, rfl, by simp, hb⟩
  rintro v hv
  simp at hv
  subst hv
  repeat (first | (refine calmA_plain rfl rfl ?_ (fun K hK w1 hC => ?_); (focus (intro _ _; simp [RA]; done)); have hC' := hC.1.1; simp only [Held, and_true] at hC'; go_wp2_with (first | (refine wpList_fbin rfl rfl rfl rfl rfl (fun r n hr => ?_)) | (refine wpList_widen rfl rfl Try.underlying30 Try.underlying22 rfl (fun r n hr => ?_))); refine ⟨rfl, (by first | exact Below.refl _ _ | exact below_drewN _), hK _ ?_⟩; clear hC hC' hK K w1) | (refine calmA_check rfl rfl rfl ?_ ?_; (focus (intro _ _; simp [RA]; done))))
  refine calmA_call (f := 28) (args := _) rfl ?_ (by (intro w1; simp [execOp, resolve, invoke, go_sem]; with_reducible rfl)) (fun w1 hC => ?_) ?_
  · (intro _ _; simp [RA]; done)
  · refine (implForceOn_any x0 x1 x2 x3 x4 y0 y1 y2 _).mono ?_
    rintro e w2 hp
    obtain ⟨v, he, hT, hb⟩ := tv_ForceOn hp
    exact ⟨v, he, by simp; exact hT, hb⟩
  rintro v hv
  simp at hv
  unfold TVForceOn at hv
  obtain ⟨r1_0, rfl, q1_0⟩ := hv
  have Hq1_0 := Lib.hid q1_0
  clear q1_0
  repeat (first | (refine calmA_plain rfl rfl ?_ (fun K hK w1 hC => ?_); (focus (intro _ _; simp [RA]; done)); have hC' := hC.1.1; simp only [Held, and_true] at hC'; go_wp2_with (first | (refine wpList_fbin rfl rfl rfl rfl rfl (fun r n hr => ?_)) | (refine wpList_widen rfl rfl Try.underlying30 Try.underlying22 rfl (fun r n hr => ?_))); refine ⟨rfl, (by first | exact Below.refl _ _ | exact below_drewN _), hK _ ?_⟩; clear hC hC' hK K w1) | (refine calmA_check rfl rfl rfl ?_ ?_; (focus (intro _ _; simp [RA]; done))))
  refine calmA_nil ?_
  intro w' hC hF
  have hC' := hC.1.1
  simp only [Held, and_true] at hC'
  go_wp2_with (first | (refine wpList_widen rfl rfl Try.underlying30 Try.underlying22 rfl (fun r n hr => ?_)) | (go_at_call 18; refine (sameFloat_any _ _ _ (widen_same (Hid.out (by assumption)) (Hid.out (by assumption)) (Hq1_0.out.trans Hq0_0.out.symm))).mono ?_; rintro e w' ⟨n, rfl, rfl⟩))
  go_ret
  refine ⟨rfl, ?_⟩
  (try have hB := hC.1.2)
  (repeat (first | assumption | (with_reducible exact Below.refl _ _) | (with_reducible refine Below.drewN ?_ _) | (with_reducible refine Below.drew ?_) | (with_reducible refine Below.allocS ?_ _) | ((with_reducible refine Below.setCell ?_ ?_ _); rotate_left; focus (first | omega | (simp; done) | (simp; omega))) | (with_reducible refine Below.step ?_ (by assumption))))

set_option maxRecDepth 100000 in
set_option maxHeartbeats 4000000 in
theorem EnergyOfSwing1_any (x0 x1 x2 x3 x4 s0 s1 s2 p q : Nat) (w : World) (hP : Held [(⟨p, 0, none⟩, .float .f32 x0), (⟨p, 1, none⟩, .float .f32 x1), (⟨p, 2, none⟩, .float .f32 x2), (⟨p, 3, none⟩, .float .f32 x3), (⟨p, 4, none⟩, .float .f32 x4)] w) (hV : Held [(⟨q, 0, none⟩, .float .f32 s0), (⟨q, 1, none⟩, .float .f32 s1), (⟨q, 2, none⟩, .float .f32 s2)] w) : Calls Try.prog 67 #[.pointer (some ⟨q, 0, none⟩), .pointer (some ⟨p, 0, none⟩)] w (BF .f32 (energyQ x0 x1 s0 s1) w) := by
  have hv := hV
  have hp := hP
  simp only [Held, and_true] at hv hp
  go_enter Try.func67, Try.ntmps67
  have hh : Hid (∀ x, fbin .quo .f32 x (cn .f32 1073741824) = fbin .mul .f32 (cn .f32 1056964608) x) := half_cn
  go_wp2_with (first | (refine wpList_fbin rfl rfl rfl rfl rfl (fun r n hr => ?_)))
  refine region_calmA w (w.heap.size) [(⟨p, 0, none⟩, .float .f32 x0), (⟨p, 1, none⟩, .float .f32 x1), (⟨p, 2, none⟩, .float .f32 x2), (⟨p, 3, none⟩, .float .f32 x3), (⟨p, 4, none⟩, .float .f32 x4), (⟨q, 0, none⟩, .float .f32 s0), (⟨q, 1, none⟩, .float .f32 s1), (⟨q, 2, none⟩, .float .f32 s2)] (fun f args v => ∃ r, v = .float .f32 r ∧ cn .f32 r = sineQ (cn .f32 (argF args 0 0))) [] (by kernel_rfl) (by kernel_rfl) (by kernel_rfl) ⟨⟨by simp [Held, go_sem, *], by (repeat (first | (with_reducible exact Below.refl _ _) | (with_reducible refine Below.drewN ?_ _) | (with_reducible refine Below.drew ?_) | (with_reducible refine Below.allocS ?_ _) | ((with_reducible refine Below.setCell ?_ ?_ _); rotate_left; focus (first | omega | (simp; done) | (simp; omega))) | (with_reducible refine Below.step ?_ (by assumption))))⟩, by (first | (simp; done) | (simp; omega) | omega)⟩ ?_
  repeat (first | (first | (refine calmA_plain rfl rfl ?_ (fun K hK w1 hC => ?_); (focus (intro _ _; simp [RA]; done)); have hC' := hC.1.1; simp only [Held, and_true] at hC'; go_wp2_with (first | (refine wpList_fbin rfl rfl rfl rfl rfl (fun r n hr => ?_)) | (refine wpList_widen rfl rfl Try.underlying30 Try.underlying22 rfl (fun r n hr => ?_))); refine ⟨rfl, (by first | exact Below.refl _ _ | exact below_drewN _), hK _ ?_⟩; clear hC hC' hK K w1) | (refine calmA_check rfl rfl rfl ?_ ?_; (focus (intro _ _; simp [RA]; done)))) | (refine calmA_call (f := 68) (args := _) rfl ?_ (by (intro w1; simp [execOp, resolve, invoke, go_sem]; with_reducible rfl)) (fun w1 hC => ?_) ?_; (focus (intro _ _; simp [RA]; done)); (focus (refine (SineTurns_any _ _).mono ?_; rintro e w2 ⟨r, n, he, hq, rfl⟩; exact ⟨_, he, ⟨_, rfl, hq⟩, below_drewN _⟩)); rintro v ⟨r, rfl, hq⟩; have HQ := Lib.hid hq; simp [argF] at HQ; clear hq))
  refine calmA_nil ?_
  intro w' hC hF
  have hC' := hC.1.1
  simp only [Held, and_true] at hC'
  go_wp2_with fail
  go_ret
  refine ⟨_, rfl, ?_, ?_⟩
  · unfold energyQ
    simp only [Hid] at *
    simp only [*]
  · (have hB := hC.1.2; (repeat (first | assumption | (with_reducible exact Below.refl _ _) | (with_reducible refine Below.drewN ?_ _) | (with_reducible refine Below.drew ?_) | (with_reducible refine Below.allocS ?_ _) | ((with_reducible refine Below.setCell ?_ ?_ _); rotate_left; focus (first | omega | (simp; done) | (simp; omega))) | (with_reducible refine Below.step ?_ (by assumption)))))

set_option maxRecDepth 100000 in
set_option maxHeartbeats 4000000 in
theorem implEnergyOfSwing_any (x0 x1 x2 x3 x4 s0 s1 s2 : Nat) (w : World) : Calls Try.prog 23 #[.agg #[.float .f32 x0, .float .f32 x1, .float .f32 x2, .float .f32 x3, .float .f32 x4], .agg #[.float .f32 s0, .float .f32 s1, .float .f32 s2]] w (PF (condF ((pendB x0 x1 x2 x3 x4 && fin3 s0 s1 s2) && finB .f32 (energyQ x0 x1 s0 s1)) (energyQ x0 x1 s0 s1)) ((pendB x0 x1 x2 x3 x4 && fin3 s0 s1 s2) && finB .f32 (energyQ x0 x1 s0 s1)) w) := by
  have hB : (pendB x0 x1 x2 x3 x4 && allFin [s0, s1, s2] && finB .f32 (energyQ x0 x1 s0 s1)) = ((pendB x0 x1 x2 x3 x4 && fin3 s0 s1 s2) && finB .f32 (energyQ x0 x1 s0 s1)) := by simp [allFin, fin3, Bool.and_assoc]
  rw [← hB]
  have HB := Lib.hid hB
  clear hB
  go_enter Try.func23, Try.ntmps23
  go_wp2_with fail
  go_region_held3 (fun w' => w'.cell? ⟨w.heap.size, 0, none⟩ = some (.float .f32 x0) ∧ w'.cell? ⟨w.heap.size, 1, none⟩ = some (.float .f32 x1) ∧ w'.cell? ⟨w.heap.size, 2, none⟩ = some (.float .f32 x2) ∧ w'.cell? ⟨w.heap.size, 3, none⟩ = some (.float .f32 x3) ∧ w'.cell? ⟨w.heap.size, 4, none⟩ = some (.float .f32 x4) ∧ w'.cell? ⟨w.heap.size + 1, 0, none⟩ = some (.float .f32 s0) ∧ w'.cell? ⟨w.heap.size + 1, 1, none⟩ = some (.float .f32 s1) ∧ w'.cell? ⟨w.heap.size + 1, 2, none⟩ = some (.float .f32 s2)) (simp [go_sem, *]) (first | (go_at_call 69; refine (numbersSwing_any s0 s1 s2 _ _ ?_ ?_ ?_).mono ?_; (simp [go_sem]); (simp [go_sem]); (simp [go_sem]); rintro e w' ⟨n, rfl, rfl⟩) | (go_at_call 59; refine (ofPendulum_any x0 x1 x2 x3 x4 _ _ [s0, s1, s2] _ _ (energyQ x0 x1 s0 s1) _ (by simp [maxLen]) ?_ ?_ ?_ ?_).mono ?_; (focus (simp [go_sem]; done)); (focus (intro i hi; match i, hi with | 0, _ => simp [go_sem] | 1, _ => simp [go_sem] | 2, _ => simp [go_sem])); (focus (intro w1; simp [go_sem]; done)); (focus (intro w1 hb1; exact EnergyOfSwing1_any x0 x1 x2 x3 x4 s0 s1 s2 _ _ _ (Held.below hb1 (by simp [Held, go_sem])) (Held.below hb1 (by simp [Held, go_sem])))); rintro e w2 ⟨r, rfl, hq, hb⟩; have HQ := Lib.hid hq; clear hq; have hk := Held.below hb (l := [(⟨w.heap.size, 0, none⟩, .float .f32 x0), (⟨w.heap.size, 1, none⟩, .float .f32 x1), (⟨w.heap.size, 2, none⟩, .float .f32 x2), (⟨w.heap.size, 3, none⟩, .float .f32 x3), (⟨w.heap.size, 4, none⟩, .float .f32 x4), (⟨(w.heap.size + 1), 0, none⟩, .float .f32 s0), (⟨(w.heap.size + 1), 1, none⟩, .float .f32 s1), (⟨(w.heap.size + 1), 2, none⟩, .float .f32 s2)]) (by simp [Held, go_sem, *]); simp only [Held, and_true] at hk))
  all_goals
    go_wp2
    go_ret2
    refine ⟨_, rfl, HQ.out, ?_⟩
    (repeat (first | assumption | (with_reducible exact Below.refl _ _) | (with_reducible refine Below.drewN ?_ _) | (with_reducible refine Below.drew ?_) | (with_reducible refine Below.allocS ?_ _) | ((with_reducible refine Below.setCell ?_ ?_ _); rotate_left; focus (first | omega | (simp; done) | (simp; omega))) | (with_reducible refine Below.step ?_ (by assumption))))

set_option maxRecDepth 100000 in
set_option maxHeartbeats 4000000 in
theorem specEnergyOfSwing_any (x0 x1 x2 x3 x4 s0 s1 s2 : Nat) (w : World) : Calls Try.prog 21 #[.agg #[.float .f32 x0, .float .f32 x1, .float .f32 x2, .float .f32 x3, .float .f32 x4], .agg #[.float .f32 s0, .float .f32 s1, .float .f32 s2]] w (PF (condF ((pendB x0 x1 x2 x3 x4 && fin3 s0 s1 s2) && finB .f32 (energyQ x0 x1 s0 s1)) (energyQ x0 x1 s0 s1)) ((pendB x0 x1 x2 x3 x4 && fin3 s0 s1 s2) && finB .f32 (energyQ x0 x1 s0 s1)) w) := by
  cases h1 : (pendB x0 x1 x2 x3 x4 && fin3 s0 s1 s2)
  · go_enter Try.func21, Try.ntmps21
    go_wp2_with (first | (go_at_call 65; refine (l02Both_any x0 x1 x2 x3 x4 s0 s1 s2 _ _ _ ?_ ?_).mono ?_; (focus (simp [Held, go_sem]; done)); (focus (simp [Held, go_sem]; done)); rintro e w' ⟨n, rfl, rfl⟩))
    go_ret2
    refine pf_none (by simp) ?_
    (repeat (first | assumption | (with_reducible exact Below.refl _ _) | (with_reducible refine Below.drewN ?_ _) | (with_reducible refine Below.drew ?_) | (with_reducible refine Below.allocS ?_ _) | ((with_reducible refine Below.setCell ?_ ?_ _); rotate_left; focus (first | omega | (simp; done) | (simp; omega))) | (with_reducible refine Below.step ?_ (by assumption))))
  · go_enter Try.func21, Try.ntmps21
    go_wp2_with (first | (go_at_call 65; refine (l02Both_any x0 x1 x2 x3 x4 s0 s1 s2 _ _ _ ?_ ?_).mono ?_; (focus (simp [Held, go_sem]; done)); (focus (simp [Held, go_sem]; done)); rintro e w' ⟨n, rfl, rfl⟩) | (refine wpList_fbin rfl rfl rfl rfl rfl (fun r n hr => ?_)))
    refine region_calmA w (w.heap.size + 1 + 1) [(⟨w.heap.size, 0, none⟩, .float .f32 x0), (⟨w.heap.size, 1, none⟩, .float .f32 x1), (⟨w.heap.size, 2, none⟩, .float .f32 x2), (⟨w.heap.size, 3, none⟩, .float .f32 x3), (⟨w.heap.size, 4, none⟩, .float .f32 x4), (⟨(w.heap.size + 1), 0, none⟩, .float .f32 s0), (⟨(w.heap.size + 1), 1, none⟩, .float .f32 s1), (⟨(w.heap.size + 1), 2, none⟩, .float .f32 s2)] (fun f args v => ∃ r, v = .float .f32 r ∧ cn .f32 r = sineQ (cn .f32 (argF args 0 0))) [] (by kernel_rfl) (by kernel_rfl) (by kernel_rfl) ⟨⟨by simp [Held, go_sem, *], by (repeat (first | (with_reducible exact Below.refl _ _) | (with_reducible refine Below.drewN ?_ _) | (with_reducible refine Below.drew ?_) | (with_reducible refine Below.allocS ?_ _) | ((with_reducible refine Below.setCell ?_ ?_ _); rotate_left; focus (first | omega | (simp; done) | (simp; omega))) | (with_reducible refine Below.step ?_ (by assumption))))⟩, by (first | (simp; done) | (simp; omega) | omega)⟩ ?_
    repeat (first | (first | (refine calmA_plain rfl rfl ?_ (fun K hK w1 hC => ?_); (focus (intro _ _; simp [RA]; done)); have hC' := hC.1.1; simp only [Held, and_true] at hC'; go_wp2_with (first | (refine wpList_fbin rfl rfl rfl rfl rfl (fun r n hr => ?_)) | (refine wpList_widen rfl rfl Try.underlying30 Try.underlying22 rfl (fun r n hr => ?_))); refine ⟨rfl, (by first | exact Below.refl _ _ | exact below_drewN _), hK _ ?_⟩; clear hC hC' hK K w1) | (refine calmA_check rfl rfl rfl ?_ ?_; (focus (intro _ _; simp [RA]; done)))) | (refine calmA_call (f := 66) (args := _) rfl ?_ (by (intro w1; simp [execOp, resolve, invoke, go_sem]; with_reducible rfl)) (fun w1 hC => ?_) ?_; (focus (intro _ _; simp [RA]; done)); (focus (refine (l01Sine_any _ _).mono ?_; rintro e w2 ⟨r, n, he, hq, rfl⟩; exact ⟨_, he, ⟨_, rfl, hq⟩, below_drewN _⟩)); rintro v ⟨r, rfl, hq⟩; have HQ := Lib.hid hq; simp [argF] at HQ; clear hq))
    refine calmA_nil ?_
    intro w' hC hF
    have hC' := hC.1.1
    simp only [Held, and_true] at hC'
    go_wp2_with (first | (refine wpList_fbin rfl rfl rfl rfl rfl (fun r n hr => ?_)) | (go_at_call 57; refine (l02Number_any _ _).mono ?_; rintro e w3 ⟨n, rfl, rfl⟩))
    go_ret2
    refine pf_told (Q := energyQ x0 x1 s0 s1) ?_ (by simp) ?_
    · unfold energyQ
      simp only [Hid] at *
      simp only [*]
    · (have hB := hC.1.2; (repeat (first | assumption | (with_reducible exact Below.refl _ _) | (with_reducible refine Below.drewN ?_ _) | (with_reducible refine Below.drew ?_) | (with_reducible refine Below.allocS ?_ _) | ((with_reducible refine Below.setCell ?_ ?_ _); rotate_left; focus (first | omega | (simp; done) | (simp; omega))) | (with_reducible refine Below.step ?_ (by assumption)))))

def TVEnergyOfSwing (x0 x1 x2 x3 x4 y0 y1 y2 : Nat) (v : Value) : Prop := ∃ r0, v = .tuple #[.float .f32 r0, .bool ((pendB x0 x1 x2 x3 x4 && fin3 y0 y1 y2) && finB .f32 (energyQ x0 x1 y0 y1))] ∧ cn .f32 r0 = condF ((pendB x0 x1 x2 x3 x4 && fin3 y0 y1 y2) && finB .f32 (energyQ x0 x1 y0 y1)) (energyQ x0 x1 y0 y1)
theorem tv_EnergyOfSwing {x0 x1 x2 x3 x4 y0 y1 y2 : Nat} {w w' : World} {e : Ending} (h : PF (condF ((pendB x0 x1 x2 x3 x4 && fin3 y0 y1 y2) && finB .f32 (energyQ x0 x1 y0 y1)) (energyQ x0 x1 y0 y1)) ((pendB x0 x1 x2 x3 x4 && fin3 y0 y1 y2) && finB .f32 (energyQ x0 x1 y0 y1)) w e w') : ∃ v, e = .returned v ∧ TVEnergyOfSwing x0 x1 x2 x3 x4 y0 y1 y2 v ∧ Below w.heap.size w w' := by
  obtain ⟨r0, he, hq, hb⟩ := h
  exact ⟨_, he, ⟨r0, rfl, hq⟩, hb⟩


set_option maxRecDepth 100000 in
set_option maxHeartbeats 4000000 in
theorem lawEnergyOfSwing_walk (x0 x1 x2 x3 x4 y0 y1 y2 : Nat) (_ : x0 < 4294967296) (_ : x1 < 4294967296) (_ : x2 < 4294967296) (_ : x3 < 4294967296) (_ : x4 < 4294967296) (_ : y0 < 4294967296) (_ : y1 < 4294967296) (_ : y2 < 4294967296) (w : World) : Calls Try.prog 5 #[.agg #[.float .f32 x0, .float .f32 x1, .float .f32 x2, .float .f32 x3, .float .f32 x4], .agg #[.float .f32 y0, .float .f32 y1, .float .f32 y2]] w fun e w' => e = .returned (.bool true) ∧ Below w.heap.size w w' := by
  go_enter Try.func5, Try.ntmps5
  go_wp2_with fail
  refine region_calmA w (w.heap.size + 1 + 1) [(⟨w.heap.size, 0, none⟩, .float .f32 x0), (⟨w.heap.size, 1, none⟩, .float .f32 x1), (⟨w.heap.size, 2, none⟩, .float .f32 x2), (⟨w.heap.size, 3, none⟩, .float .f32 x3), (⟨w.heap.size, 4, none⟩, .float .f32 x4), (⟨(w.heap.size + 1), 0, none⟩, .float .f32 y0), (⟨(w.heap.size + 1), 1, none⟩, .float .f32 y1), (⟨(w.heap.size + 1), 2, none⟩, .float .f32 y2)] (fun f args v => if f = 21 then TVEnergyOfSwing x0 x1 x2 x3 x4 y0 y1 y2 v else v = args.getD 0 undef) [] (by kernel_rfl) (by kernel_rfl) (by kernel_rfl) ⟨⟨by simp [Held, go_sem, *], by (repeat (first | assumption | (with_reducible exact Below.refl _ _) | (with_reducible refine Below.drewN ?_ _) | (with_reducible refine Below.drew ?_) | (with_reducible refine Below.allocS ?_ _) | ((with_reducible refine Below.setCell ?_ ?_ _); rotate_left; focus (first | omega | (simp; done) | (simp; omega))) | (with_reducible refine Below.step ?_ (by assumption))))⟩, by (first | (simp; done) | (simp; omega) | omega)⟩ ?_
  repeat (first | (refine calmA_plain rfl rfl ?_ (fun K hK w1 hC => ?_); (focus (intro _ _; simp [RA]; done)); have hC' := hC.1.1; simp only [Held, and_true] at hC'; go_wp2_with (first | (refine wpList_fbin rfl rfl rfl rfl rfl (fun r n hr => ?_)) | (refine wpList_widen rfl rfl Try.underlying30 Try.underlying22 rfl (fun r n hr => ?_))); refine ⟨rfl, (by first | exact Below.refl _ _ | exact below_drewN _), hK _ ?_⟩; clear hC hC' hK K w1) | (refine calmA_check rfl rfl rfl ?_ ?_; (focus (intro _ _; simp [RA]; done))))
  refine calmA_call (f := 16) (args := _) rfl ?_ (by (intro w1; simp [execOp, resolve, invoke, go_sem]; with_reducible rfl)) (fun w1 hC => ?_) ?_
  · (intro _ _; simp [RA]; done)
  · refine (toPendulum_any _ _ _ _ _ _).mono ?_
    rintro e w2 ⟨rfl, hb⟩
    exact ⟨_, rfl, by simp, hb⟩
  rintro v hv
  simp at hv
  subst hv
  repeat (first | (refine calmA_plain rfl rfl ?_ (fun K hK w1 hC => ?_); (focus (intro _ _; simp [RA]; done)); have hC' := hC.1.1; simp only [Held, and_true] at hC'; go_wp2_with (first | (refine wpList_fbin rfl rfl rfl rfl rfl (fun r n hr => ?_)) | (refine wpList_widen rfl rfl Try.underlying30 Try.underlying22 rfl (fun r n hr => ?_))); refine ⟨rfl, (by first | exact Below.refl _ _ | exact below_drewN _), hK _ ?_⟩; clear hC hC' hK K w1) | (refine calmA_check rfl rfl rfl ?_ ?_; (focus (intro _ _; simp [RA]; done))))
  refine calmA_call (f := 22) (args := _) rfl ?_ (by (intro w1; simp [execOp, resolve, invoke, go_sem]; with_reducible rfl)) (fun w1 hC => ?_) ?_
  · (intro _ _; simp [RA]; done)
  · refine (toSwing_any _ _ _ _).mono ?_
    rintro e w2 ⟨rfl, hb⟩
    exact ⟨_, rfl, by simp, hb⟩
  rintro v hv
  simp at hv
  subst hv
  repeat (first | (refine calmA_plain rfl rfl ?_ (fun K hK w1 hC => ?_); (focus (intro _ _; simp [RA]; done)); have hC' := hC.1.1; simp only [Held, and_true] at hC'; go_wp2_with (first | (refine wpList_fbin rfl rfl rfl rfl rfl (fun r n hr => ?_)) | (refine wpList_widen rfl rfl Try.underlying30 Try.underlying22 rfl (fun r n hr => ?_))); refine ⟨rfl, (by first | exact Below.refl _ _ | exact below_drewN _), hK _ ?_⟩; clear hC hC' hK K w1) | (refine calmA_check rfl rfl rfl ?_ ?_; (focus (intro _ _; simp [RA]; done))))
  refine calmA_call (f := 21) (args := _) rfl ?_ (by (intro w1; simp [execOp, resolve, invoke, go_sem]; with_reducible rfl)) (fun w1 hC => ?_) ?_
  · (intro _ _; simp [RA]; done)
  · refine (specEnergyOfSwing_any x0 x1 x2 x3 x4 y0 y1 y2 _).mono ?_
    rintro e w2 hp
    obtain ⟨v, he, hT, hb⟩ := tv_EnergyOfSwing hp
    exact ⟨v, he, by simp; exact hT, hb⟩
  rintro v hv
  simp at hv
  unfold TVEnergyOfSwing at hv
  obtain ⟨r0_0, rfl, q0_0⟩ := hv
  have Hq0_0 := Lib.hid q0_0
  clear q0_0
  repeat (first | (refine calmA_plain rfl rfl ?_ (fun K hK w1 hC => ?_); (focus (intro _ _; simp [RA]; done)); have hC' := hC.1.1; simp only [Held, and_true] at hC'; go_wp2_with (first | (refine wpList_fbin rfl rfl rfl rfl rfl (fun r n hr => ?_)) | (refine wpList_widen rfl rfl Try.underlying30 Try.underlying22 rfl (fun r n hr => ?_))); refine ⟨rfl, (by first | exact Below.refl _ _ | exact below_drewN _), hK _ ?_⟩; clear hC hC' hK K w1) | (refine calmA_check rfl rfl rfl ?_ ?_; (focus (intro _ _; simp [RA]; done))))
  refine calmA_nil ?_
  intro w' hC hF
  have hC' := hC.1.1
  simp only [Held, and_true] at hC'
  have hk0 := hC'
  have hw0 := hC.1.2
  go_wp2_with fail
  refine region_calmA w (w'.heap.size) [(⟨w.heap.size, 0, none⟩, .float .f32 x0), (⟨w.heap.size, 1, none⟩, .float .f32 x1), (⟨w.heap.size, 2, none⟩, .float .f32 x2), (⟨w.heap.size, 3, none⟩, .float .f32 x3), (⟨w.heap.size, 4, none⟩, .float .f32 x4), (⟨(w.heap.size + 1), 0, none⟩, .float .f32 y0), (⟨(w.heap.size + 1), 1, none⟩, .float .f32 y1), (⟨(w.heap.size + 1), 2, none⟩, .float .f32 y2)] (fun f args v => if f = 23 then TVEnergyOfSwing x0 x1 x2 x3 x4 y0 y1 y2 v else v = args.getD 0 undef) [] (by kernel_rfl) (by kernel_rfl) (by kernel_rfl) ⟨⟨by simp [Held, go_sem, *], by (repeat (first | assumption | (with_reducible exact Below.refl _ _) | (with_reducible refine Below.drewN ?_ _) | (with_reducible refine Below.drew ?_) | (with_reducible refine Below.allocS ?_ _) | ((with_reducible refine Below.setCell ?_ ?_ _); rotate_left; focus (first | omega | (simp; done) | (simp; omega))) | (with_reducible refine Below.step ?_ (by assumption))))⟩, by (first | (simp; done) | (simp; omega) | omega)⟩ ?_
  repeat (first | (refine calmA_plain rfl rfl ?_ (fun K hK w1 hC => ?_); (focus (intro _ _; simp [RA]; done)); have hC' := hC.1.1; simp only [Held, and_true] at hC'; go_wp2_with (first | (refine wpList_fbin rfl rfl rfl rfl rfl (fun r n hr => ?_)) | (refine wpList_widen rfl rfl Try.underlying30 Try.underlying22 rfl (fun r n hr => ?_))); refine ⟨rfl, (by first | exact Below.refl _ _ | exact below_drewN _), hK _ ?_⟩; clear hC hC' hK K w1) | (refine calmA_check rfl rfl rfl ?_ ?_; (focus (intro _ _; simp [RA]; done))))
  refine calmA_call (f := 16) (args := _) rfl ?_ (by (intro w1; simp [execOp, resolve, invoke, go_sem]; with_reducible rfl)) (fun w1 hC => ?_) ?_
  · (intro _ _; simp [RA]; done)
  · refine (toPendulum_any _ _ _ _ _ _).mono ?_
    rintro e w2 ⟨rfl, hb⟩
    exact ⟨_, rfl, by simp, hb⟩
  rintro v hv
  simp at hv
  subst hv
  repeat (first | (refine calmA_plain rfl rfl ?_ (fun K hK w1 hC => ?_); (focus (intro _ _; simp [RA]; done)); have hC' := hC.1.1; simp only [Held, and_true] at hC'; go_wp2_with (first | (refine wpList_fbin rfl rfl rfl rfl rfl (fun r n hr => ?_)) | (refine wpList_widen rfl rfl Try.underlying30 Try.underlying22 rfl (fun r n hr => ?_))); refine ⟨rfl, (by first | exact Below.refl _ _ | exact below_drewN _), hK _ ?_⟩; clear hC hC' hK K w1) | (refine calmA_check rfl rfl rfl ?_ ?_; (focus (intro _ _; simp [RA]; done))))
  refine calmA_call (f := 22) (args := _) rfl ?_ (by (intro w1; simp [execOp, resolve, invoke, go_sem]; with_reducible rfl)) (fun w1 hC => ?_) ?_
  · (intro _ _; simp [RA]; done)
  · refine (toSwing_any _ _ _ _).mono ?_
    rintro e w2 ⟨rfl, hb⟩
    exact ⟨_, rfl, by simp, hb⟩
  rintro v hv
  simp at hv
  subst hv
  repeat (first | (refine calmA_plain rfl rfl ?_ (fun K hK w1 hC => ?_); (focus (intro _ _; simp [RA]; done)); have hC' := hC.1.1; simp only [Held, and_true] at hC'; go_wp2_with (first | (refine wpList_fbin rfl rfl rfl rfl rfl (fun r n hr => ?_)) | (refine wpList_widen rfl rfl Try.underlying30 Try.underlying22 rfl (fun r n hr => ?_))); refine ⟨rfl, (by first | exact Below.refl _ _ | exact below_drewN _), hK _ ?_⟩; clear hC hC' hK K w1) | (refine calmA_check rfl rfl rfl ?_ ?_; (focus (intro _ _; simp [RA]; done))))
  refine calmA_call (f := 23) (args := _) rfl ?_ (by (intro w1; simp [execOp, resolve, invoke, go_sem]; with_reducible rfl)) (fun w1 hC => ?_) ?_
  · (intro _ _; simp [RA]; done)
  · refine (implEnergyOfSwing_any x0 x1 x2 x3 x4 y0 y1 y2 _).mono ?_
    rintro e w2 hp
    obtain ⟨v, he, hT, hb⟩ := tv_EnergyOfSwing hp
    exact ⟨v, he, by simp; exact hT, hb⟩
  rintro v hv
  simp at hv
  unfold TVEnergyOfSwing at hv
  obtain ⟨r1_0, rfl, q1_0⟩ := hv
  have Hq1_0 := Lib.hid q1_0
  clear q1_0
  repeat (first | (refine calmA_plain rfl rfl ?_ (fun K hK w1 hC => ?_); (focus (intro _ _; simp [RA]; done)); have hC' := hC.1.1; simp only [Held, and_true] at hC'; go_wp2_with (first | (refine wpList_fbin rfl rfl rfl rfl rfl (fun r n hr => ?_)) | (refine wpList_widen rfl rfl Try.underlying30 Try.underlying22 rfl (fun r n hr => ?_))); refine ⟨rfl, (by first | exact Below.refl _ _ | exact below_drewN _), hK _ ?_⟩; clear hC hC' hK K w1) | (refine calmA_check rfl rfl rfl ?_ ?_; (focus (intro _ _; simp [RA]; done))))
  refine calmA_nil ?_
  intro w' hC hF
  have hC' := hC.1.1
  simp only [Held, and_true] at hC'
  go_wp2_with (first | (refine wpList_widen rfl rfl Try.underlying30 Try.underlying22 rfl (fun r n hr => ?_)) | (go_at_call 18; refine (sameFloat_any _ _ _ (widen_same (Hid.out (by assumption)) (Hid.out (by assumption)) (Hq1_0.out.trans Hq0_0.out.symm))).mono ?_; rintro e w' ⟨n, rfl, rfl⟩))
  go_ret
  refine ⟨rfl, ?_⟩
  (try have hB := hC.1.2)
  (repeat (first | assumption | (with_reducible exact Below.refl _ _) | (with_reducible refine Below.drewN ?_ _) | (with_reducible refine Below.drew ?_) | (with_reducible refine Below.allocS ?_ _) | ((with_reducible refine Below.setCell ?_ ?_ _); rotate_left; focus (first | omega | (simp; done) | (simp; omega))) | (with_reducible refine Below.step ?_ (by assumption))))

end Go.Proofs.Ytjfmcmdhkmcpiaa
