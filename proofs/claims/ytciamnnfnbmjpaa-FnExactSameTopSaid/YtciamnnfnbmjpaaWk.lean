/-
  The walks of tops: momentum, energy, rate.
-/
import Derived.Test.YtciamnnfnbmjpaaWj
set_option linter.unusedVariables false
set_option linter.unusedSimpArgs false
namespace Go.Proofs.Ytciamnnfnbmjpaa
open Go.RowKit

set_option maxRecDepth 100000 in
set_option maxHeartbeats 4000000 in
theorem l04Vector_any (x0 x1 x2 : Nat) (w : World) : Calls Try.prog 83 #[.agg #[.float .f32 x0, .float .f32 x1, .float .f32 x2]] w (BV (.tuple #[.agg #[.float .f32 (condF (fin3 x0 x1 x2) x0), .float .f32 (condF (fin3 x0 x1 x2) x1), .float .f32 (condF (fin3 x0 x1 x2) x2)], .bool (fin3 x0 x1 x2)]) w) := by
  cases h : fin3 x0 x1 x2
  all_goals
    go_enter Try.func83, Try.ntmps83
    go_wp2_with (first | (go_at_call 85; refine (l01VFinite_any x0 x1 x2 _).mono ?_; rintro e w1 ⟨rfl, hb⟩; have hk := Held.below hb (l := [(⟨w.heap.size, 0, none⟩, .float .f32 x0), (⟨w.heap.size, 1, none⟩, .float .f32 x1), (⟨w.heap.size, 2, none⟩, .float .f32 x2), (⟨(w.heap.size + 1), 0, none⟩, .float .f32 0), (⟨(w.heap.size + 1), 1, none⟩, .float .f32 0), (⟨(w.heap.size + 1), 2, none⟩, .float .f32 0)]) (by simp [Held, go_sem, *]); simp only [Held, and_true] at hk))
    refine bodyPost_ret (v := ?_) (by first | (simp [results, Try.results83, go_sem, *]; rfl) | (simp [results, Try.results83, go_sem, *]; done)) rfl ⟨?_, ?_⟩
    · simp [condF, h]
    · (repeat (first | (with_reducible exact Below.refl _ _) | (with_reducible refine Below.drewN ?_ _) | (with_reducible refine Below.drew ?_) | (with_reducible refine Below.allocS ?_ _) | ((with_reducible refine Below.setCell ?_ ?_ _); rotate_left; focus (first | omega | (simp; done) | (simp; omega))) | (with_reducible refine Below.step ?_ (by assumption))))

set_option maxRecDepth 100000 in
set_option maxHeartbeats 4000000 in
theorem toldVector_any (x0 x1 x2 : Nat) (w : World) : Calls Try.prog 84 #[.agg #[.float .f32 x0, .float .f32 x1, .float .f32 x2]] w (BV (.tuple #[.agg #[.float .f32 (condF (fin3 x0 x1 x2) x0), .float .f32 (condF (fin3 x0 x1 x2) x1), .float .f32 (condF (fin3 x0 x1 x2) x2)], .bool (fin3 x0 x1 x2)]) w) := by
  cases h : fin3 x0 x1 x2
  all_goals
    go_enter Try.func84, Try.ntmps84
    go_wp2_with (first | (go_at_call 87; refine (finiteVector_any x0 x1 x2 _).mono ?_; rintro e w1 ⟨rfl, hb⟩; have hk := Held.below hb (l := [(⟨w.heap.size, 0, none⟩, .float .f32 x0), (⟨w.heap.size, 1, none⟩, .float .f32 x1), (⟨w.heap.size, 2, none⟩, .float .f32 x2), (⟨(w.heap.size + 1), 0, none⟩, .float .f32 0), (⟨(w.heap.size + 1), 1, none⟩, .float .f32 0), (⟨(w.heap.size + 1), 2, none⟩, .float .f32 0)]) (by simp [Held, go_sem, *]); simp only [Held, and_true] at hk))
    refine bodyPost_ret (v := ?_) (by first | (simp [results, Try.results84, go_sem, *]; rfl) | (simp [results, Try.results84, go_sem, *]; done)) rfl ⟨?_, ?_⟩
    · simp [condF, h]
    · (repeat (first | (with_reducible exact Below.refl _ _) | (with_reducible refine Below.drewN ?_ _) | (with_reducible refine Below.drew ?_) | (with_reducible refine Below.allocS ?_ _) | ((with_reducible refine Below.setCell ?_ ?_ _); rotate_left; focus (first | omega | (simp; done) | (simp; omega))) | (with_reducible refine Below.step ?_ (by assumption))))

theorem vb3_of_told' {r0 r1 r2 Q0 Q1 Q2 : Nat} {B : Bool} {w w' : World} (hq : cn .f32 r0 = Q0 ∧ cn .f32 r1 = Q1 ∧ cn .f32 r2 = Q2) (hB : B = fin3 Q0 Q1 Q2) (hb : Below w.heap.size w w') :
    VB3 B Q0 Q1 Q2 w (.returned (.tuple #[.agg #[.float .f32 (condF (fin3 r0 r1 r2) r0), .float .f32 (condF (fin3 r0 r1 r2) r1), .float .f32 (condF (fin3 r0 r1 r2) r2)], .bool (fin3 r0 r1 r2)])) w' := vb3_of_told hq hB hb
@[go_sem] theorem build_vec1 (a : Nat) (w : World) : (Instr.build 43 #[(0, .float .f32 a)]).run Try.prog w = .ok (.agg #[.float .f32 a, .float .f32 0, .float .f32 0]) w := run_build w 43 _ _ (by kernel_rfl)
@[go_sem] theorem build_vec2 (a b : Nat) (w : World) : (Instr.build 43 #[(0, .float .f32 a), (1, .float .f32 b)]).run Try.prog w = .ok (.agg #[.float .f32 a, .float .f32 b, .float .f32 0]) w := run_build w 43 _ _ (by kernel_rfl)
@[go_sem] theorem build_vec3 (a b c : Nat) (w : World) : (Instr.build 43 #[(0, .float .f32 a), (1, .float .f32 b), (2, .float .f32 c)]).run Try.prog w = .ok (.agg #[.float .f32 a, .float .f32 b, .float .f32 c]) w := run_build w 43 _ _ (by kernel_rfl)
@[go_sem] theorem build_vec0 (w : World) : (Instr.build 43 #[]).run Try.prog w = .ok (.agg #[.float .f32 0, .float .f32 0, .float .f32 0]) w := run_build w 43 _ _ (by kernel_rfl)

set_option maxRecDepth 100000 in
set_option maxHeartbeats 4000000 in
theorem l04Inner_any (x0 x1 x2 x3 x4 x5 x6 x7 x8 x9 p : Nat) (w : World) (hH : Held [(⟨p, 0, none⟩, .float .f32 x0), (⟨p, 1, none⟩, .float .f32 x1), (⟨p, 2, none⟩, .float .f32 x2), (⟨p, 3, none⟩, .float .f32 x3), (⟨p, 4, none⟩, .float .f32 x4), (⟨p, 5, none⟩, .float .f32 x5), (⟨p, 6, none⟩, .float .f32 x6), (⟨p, 7, none⟩, .float .f32 x7), (⟨p, 8, none⟩, .float .f32 x8), (⟨p, 9, none⟩, .float .f32 x9)] w) : Calls Try.prog 76 #[.pointer (some ⟨p, 0, none⟩)] w (BF3 (mulC x0 x7) (mulC x1 x8) (mulC x2 x9) w) := by
  have hk := hH
  simp only [Held, and_true] at hk
  go_enter Try.func76, Try.ntmps76
  go_wp2_with (first | (refine wpList_fbin rfl rfl rfl rfl rfl (fun r n hr => ?_)))
  refine region_calmA w (w.heap.size + 1) [(⟨p, 0, none⟩, .float .f32 x0), (⟨p, 1, none⟩, .float .f32 x1), (⟨p, 2, none⟩, .float .f32 x2), (⟨p, 3, none⟩, .float .f32 x3), (⟨p, 4, none⟩, .float .f32 x4), (⟨p, 5, none⟩, .float .f32 x5), (⟨p, 6, none⟩, .float .f32 x6), (⟨p, 7, none⟩, .float .f32 x7), (⟨p, 8, none⟩, .float .f32 x8), (⟨p, 9, none⟩, .float .f32 x9), (⟨w.heap.size, 0, none⟩, .float .f32 0), (⟨w.heap.size, 1, none⟩, .float .f32 0), (⟨w.heap.size, 2, none⟩, .float .f32 0)] (fun _ _ _ => False) [(23, .new 3 3), (24, .put 3 26)] (by kernel_rfl) (by kernel_rfl) (by kernel_rfl) ⟨⟨by simp [Held, go_sem, *], by (repeat (first | (with_reducible exact Below.refl _ _) | (with_reducible refine Below.drewN ?_ _) | (with_reducible refine Below.drew ?_) | (with_reducible refine Below.allocS ?_ _) | ((with_reducible refine Below.setCell ?_ ?_ _); rotate_left; focus (first | omega | (simp; done) | (simp; omega))) | (with_reducible refine Below.step ?_ (by assumption))))⟩, by (first | (simp; done) | (simp; omega) | omega)⟩ ?_
  repeat (first | (refine calmA_plain rfl rfl ?_ (fun K hK w1 hC => ?_); (focus (intro _ _; simp [RA]; done)); have hC' := hC.1.1; simp only [Held, and_true] at hC'; go_wp2_with (first | (refine wpList_fbin rfl rfl rfl rfl rfl (fun r n hr => ?_)) | (refine wpList_widen rfl rfl Try.underlying34 Try.underlying22 rfl (fun r n hr => ?_))); refine ⟨rfl, (by first | exact Below.refl _ _ | exact below_drewN _), hK _ ?_⟩; clear hC hC' hK K w1) | (refine calmA_check rfl rfl rfl ?_ ?_; (focus (intro _ _; simp [RA]; done))))
  refine calmA_alloc (n := 3) (zs := #[.float .f32 0, .float .f32 0, .float .f32 0]) (t := 43) rfl rfl ?_ ?_ ?_ ?_ (fun b hb => ?_)
  · simp
  · intro a w h; simp [RA]; exact h
  · intro w; simp [execOp, go_sem]; done
  · rfl
  refine calmA_store (ia := 23) (n := 3) rfl rfl rfl rfl hb rfl ?_ ?_ ?_ ?_ ?_ ?_ ?_ ?_ ?_ ?_
  · kernel_rfl
  · intro a w h; simp [RA] at h; exact h
  · rfl
  · rfl
  · simp [Value.oneCell']
  · intro a w h; simp [RA]; exact h
  · (first | (simp; done) | (simp; omega) | (simp [*]; done) | (simp [*]; omega))
  · (first | omega | (simp [*]; done) | (simp [*]; omega))
  · rfl
  refine calmA_nil ?_
  intro w' hC hF
  have hC' := hC.1.1
  simp only [Held, and_true] at hC'
  obtain ⟨b', vs', e1, e2, hN, hS⟩ := RA_get hF (i := 24) (f := .put 3 26) (by simp) (by simp)
  simp [Act.put, Act.eval] at e1 e2
  subst e1 e2
  obtain ⟨y0, y1, hY, hy_y0, hy_y1⟩ : ∃ y0 y1, Held [(⟨b, 0, none⟩, .float .f32 y0), (⟨b, 1, none⟩, .float .f32 y1), (⟨b, 2, none⟩, .float .f32 0)] w' ∧ cn .f32 y0 = mulC x0 x7 ∧ cn .f32 y1 = mulC x1 x8 := ⟨_, _, hS, by (try unfold mulC); simp only [Hid] at *; simp only [*], by (try unfold mulC); simp only [Hid] at *; simp only [*]⟩
  clear hS
  simp only [Held, and_true] at hY
  have HY_y0 := Lib.hid hy_y0
  clear hy_y0
  have HY_y1 := Lib.hid hy_y1
  clear hy_y1
  go_wp2_with fail
  refine region_calmA_tail 12 w (w'.heap.size) [(⟨p, 0, none⟩, .float .f32 x0), (⟨p, 1, none⟩, .float .f32 x1), (⟨p, 2, none⟩, .float .f32 x2), (⟨p, 3, none⟩, .float .f32 x3), (⟨p, 4, none⟩, .float .f32 x4), (⟨p, 5, none⟩, .float .f32 x5), (⟨p, 6, none⟩, .float .f32 x6), (⟨p, 7, none⟩, .float .f32 x7), (⟨p, 8, none⟩, .float .f32 x8), (⟨p, 9, none⟩, .float .f32 x9), (⟨w.heap.size, 0, none⟩, .float .f32 0), (⟨w.heap.size, 1, none⟩, .float .f32 0), (⟨w.heap.size, 2, none⟩, .float .f32 0), (⟨b, 0, none⟩, .float .f32 y0), (⟨b, 1, none⟩, .float .f32 y1), (⟨b, 2, none⟩, .float .f32 0)] (fun _ _ _ => False) [] (by kernel_rfl) (by kernel_rfl) (by kernel_rfl) ⟨⟨by simp [Held, go_sem, *], by (have hB := hC.1.2; (repeat (first | assumption | (with_reducible exact Below.refl _ _) | (with_reducible refine Below.drewN ?_ _) | (with_reducible refine Below.drew ?_) | (with_reducible refine Below.allocS ?_ _) | ((with_reducible refine Below.setCell ?_ ?_ _); rotate_left; focus (first | omega | (simp; done) | (simp; omega))) | (with_reducible refine Below.step ?_ (by assumption)))))⟩, by (first | (simp; done) | (simp; omega) | omega)⟩ ?_
  simp only [List.take_succ_cons, List.take_zero, List.drop_succ_cons, List.drop_zero]
  repeat (first | (refine calmA_plain rfl rfl ?_ (fun K hK w1 hC => ?_); (focus (intro _ _; simp [RA]; done)); have hC' := hC.1.1; simp only [Held, and_true] at hC'; go_wp2_with (first | (refine wpList_fbin rfl rfl rfl rfl rfl (fun r n hr => ?_)) | (refine wpList_widen rfl rfl Try.underlying34 Try.underlying22 rfl (fun r n hr => ?_))); refine ⟨rfl, (by first | exact Below.refl _ _ | exact below_drewN _), hK _ ?_⟩; clear hC hC' hK K w1) | (refine calmA_check rfl rfl rfl ?_ ?_; (focus (intro _ _; simp [RA]; done))))
  refine calmA_nil ?_
  intro w' hC hF
  have hC' := hC.1.1
  simp only [Held, and_true] at hC'
  go_wp2_with fail
  refine bodyPost_ret (v := ?vv) ?hh rfl ?pp
  case hh => simp [results, Try.results76, go_sem, *]; rfl
  case pp =>
    refine ⟨_, _, _, rfl, ?_, ?_⟩
    · simp only [Hid] at *
      refine ⟨?_, ?_, ?_⟩ <;> simp only [*, mulC]
    · (have hB := hC.1.2; (repeat (first | assumption | (with_reducible exact Below.refl _ _) | (with_reducible refine Below.drewN ?_ _) | (with_reducible refine Below.drew ?_) | (with_reducible refine Below.allocS ?_ _) | ((with_reducible refine Below.setCell ?_ ?_ _); rotate_left; focus (first | omega | (simp; done) | (simp; omega))) | (with_reducible refine Below.step ?_ (by assumption)))))

set_option maxRecDepth 100000 in
set_option maxHeartbeats 4000000 in
theorem inside_any (x0 x1 x2 x3 x4 x5 x6 x7 x8 x9 p : Nat) (w : World) (hH : Held [(⟨p, 0, none⟩, .float .f32 x0), (⟨p, 1, none⟩, .float .f32 x1), (⟨p, 2, none⟩, .float .f32 x2), (⟨p, 3, none⟩, .float .f32 x3), (⟨p, 4, none⟩, .float .f32 x4), (⟨p, 5, none⟩, .float .f32 x5), (⟨p, 6, none⟩, .float .f32 x6), (⟨p, 7, none⟩, .float .f32 x7), (⟨p, 8, none⟩, .float .f32 x8), (⟨p, 9, none⟩, .float .f32 x9)] w) : Calls Try.prog 78 #[.pointer (some ⟨p, 0, none⟩)] w (BF3 (mulC x0 x7) (mulC x1 x8) (mulC x2 x9) w) := by
  have hk := hH
  simp only [Held, and_true] at hk
  go_enter Try.func78, Try.ntmps78
  go_wp2_with (first | (refine wpList_fbin rfl rfl rfl rfl rfl (fun r n hr => ?_)))
  refine region_calmA_tail 34 w (w.heap.size + 1) [(⟨p, 0, none⟩, .float .f32 x0), (⟨p, 1, none⟩, .float .f32 x1), (⟨p, 2, none⟩, .float .f32 x2), (⟨p, 3, none⟩, .float .f32 x3), (⟨p, 4, none⟩, .float .f32 x4), (⟨p, 5, none⟩, .float .f32 x5), (⟨p, 6, none⟩, .float .f32 x6), (⟨p, 7, none⟩, .float .f32 x7), (⟨p, 8, none⟩, .float .f32 x8), (⟨p, 9, none⟩, .float .f32 x9), (⟨w.heap.size, 0, none⟩, .float .f32 0), (⟨w.heap.size, 1, none⟩, .float .f32 0), (⟨w.heap.size, 2, none⟩, .float .f32 0)] (fun _ _ _ => False) [] (by kernel_rfl) (by kernel_rfl) (by kernel_rfl) ⟨⟨by simp [Held, go_sem, *], by (repeat (first | (with_reducible exact Below.refl _ _) | (with_reducible refine Below.drewN ?_ _) | (with_reducible refine Below.drew ?_) | (with_reducible refine Below.allocS ?_ _) | ((with_reducible refine Below.setCell ?_ ?_ _); rotate_left; focus (first | omega | (simp; done) | (simp; omega))) | (with_reducible refine Below.step ?_ (by assumption))))⟩, by (first | (simp; done) | (simp; omega) | omega)⟩ ?_
  simp only [List.take_succ_cons, List.take_zero, List.drop_succ_cons, List.drop_zero]
  repeat (first | (refine calmA_plain rfl rfl ?_ (fun K hK w1 hC => ?_); (focus (intro _ _; simp [RA]; done)); have hC' := hC.1.1; simp only [Held, and_true] at hC'; go_wp2_with (first | (refine wpList_fbin rfl rfl rfl rfl rfl (fun r n hr => ?_)) | (refine wpList_widen rfl rfl Try.underlying34 Try.underlying22 rfl (fun r n hr => ?_))); refine ⟨rfl, (by first | exact Below.refl _ _ | exact below_drewN _), hK _ ?_⟩; clear hC hC' hK K w1) | (refine calmA_check rfl rfl rfl ?_ ?_; (focus (intro _ _; simp [RA]; done))))
  refine calmA_nil ?_
  intro w' hC hF
  have hC' := hC.1.1
  simp only [Held, and_true] at hC'
  go_wp2_with fail
  refine bodyPost_ret (v := ?vv) ?hh rfl ?pp
  case hh => simp [results, Try.results78, go_sem, *]; rfl
  case pp =>
    refine ⟨_, _, _, rfl, ?_, ?_⟩
    · simp only [Hid] at *
      refine ⟨?_, ?_, ?_⟩ <;> simp only [*, mulC]
    · (have hB := hC.1.2; (repeat (first | assumption | (with_reducible exact Below.refl _ _) | (with_reducible refine Below.drewN ?_ _) | (with_reducible refine Below.drew ?_) | (with_reducible refine Below.allocS ?_ _) | ((with_reducible refine Below.setCell ?_ ?_ _); rotate_left; focus (first | omega | (simp; done) | (simp; omega))) | (with_reducible refine Below.step ?_ (by assumption)))))

set_option maxRecDepth 100000 in
set_option maxHeartbeats 4000000 in
theorem specMomentumInTop_any (x0 x1 x2 x3 x4 x5 x6 x7 x8 x9 : Nat) (w : World) : Calls Try.prog 44 #[.agg #[.float .f32 x0, .float .f32 x1, .float .f32 x2, .float .f32 x3, .float .f32 x4, .float .f32 x5, .float .f32 x6, .float .f32 x7, .float .f32 x8, .float .f32 x9]] w (VB3 (topB x0 x1 x2 x3 x4 x5 x6 x7 x8 x9 && fin3 (mulC x0 x7) (mulC x1 x8) (mulC x2 x9)) (mulC x0 x7) (mulC x1 x8) (mulC x2 x9) w) := by
  cases h1 : topB x0 x1 x2 x3 x4 x5 x6 x7 x8 x9
  all_goals
    go_enter Try.func44, Try.ntmps44
    go_wp2_with (first | (go_at_call 69; refine (l04Is_any x0 x1 x2 x3 x4 x5 x6 x7 x8 x9 _ _ ?_ ?_ ?_ ?_ ?_ ?_ ?_ ?_ ?_ ?_).mono ?_; (focus (simp [go_sem]; done)); (focus (simp [go_sem]; done)); (focus (simp [go_sem]; done)); (focus (simp [go_sem]; done)); (focus (simp [go_sem]; done)); (focus (simp [go_sem]; done)); (focus (simp [go_sem]; done)); (focus (simp [go_sem]; done)); (focus (simp [go_sem]; done)); (focus (simp [go_sem]; done)); rintro e w1 ⟨rfl, hb⟩; have hk := Held.below hb (l := [(⟨w.heap.size, 0, none⟩, .float .f32 x0), (⟨w.heap.size, 1, none⟩, .float .f32 x1), (⟨w.heap.size, 2, none⟩, .float .f32 x2), (⟨w.heap.size, 3, none⟩, .float .f32 x3), (⟨w.heap.size, 4, none⟩, .float .f32 x4), (⟨w.heap.size, 5, none⟩, .float .f32 x5), (⟨w.heap.size, 6, none⟩, .float .f32 x6), (⟨w.heap.size, 7, none⟩, .float .f32 x7), (⟨w.heap.size, 8, none⟩, .float .f32 x8), (⟨w.heap.size, 9, none⟩, .float .f32 x9), (⟨(w.heap.size + 1), 0, none⟩, .float .f32 0), (⟨(w.heap.size + 1), 1, none⟩, .float .f32 0), (⟨(w.heap.size + 1), 2, none⟩, .float .f32 0)]) (by simp [Held, go_sem, *]); simp only [Held, and_true] at hk) | (go_at_call 76; refine (l04Inner_any x0 x1 x2 x3 x4 x5 x6 x7 x8 x9 _ _ ?_).mono ?_; (focus (simp [Held, *]; done)); rintro e w2 ⟨r0, r1, r2, rfl, hq, hb⟩; have HQ := Lib.hid hq; clear hq; have hk := Held.below hb (l := [(⟨w.heap.size, 0, none⟩, .float .f32 x0), (⟨w.heap.size, 1, none⟩, .float .f32 x1), (⟨w.heap.size, 2, none⟩, .float .f32 x2), (⟨w.heap.size, 3, none⟩, .float .f32 x3), (⟨w.heap.size, 4, none⟩, .float .f32 x4), (⟨w.heap.size, 5, none⟩, .float .f32 x5), (⟨w.heap.size, 6, none⟩, .float .f32 x6), (⟨w.heap.size, 7, none⟩, .float .f32 x7), (⟨w.heap.size, 8, none⟩, .float .f32 x8), (⟨w.heap.size, 9, none⟩, .float .f32 x9), (⟨(w.heap.size + 1), 0, none⟩, .float .f32 0), (⟨(w.heap.size + 1), 1, none⟩, .float .f32 0), (⟨(w.heap.size + 1), 2, none⟩, .float .f32 0)]) (by simp [Held, go_sem, *]); simp only [Held, and_true] at hk) | (go_at_call 83; refine (l04Vector_any _ _ _ _).mono ?_; rintro e w3 ⟨rfl, hb⟩; have hk := Held.below hb (l := [(⟨w.heap.size, 0, none⟩, .float .f32 x0), (⟨w.heap.size, 1, none⟩, .float .f32 x1), (⟨w.heap.size, 2, none⟩, .float .f32 x2), (⟨w.heap.size, 3, none⟩, .float .f32 x3), (⟨w.heap.size, 4, none⟩, .float .f32 x4), (⟨w.heap.size, 5, none⟩, .float .f32 x5), (⟨w.heap.size, 6, none⟩, .float .f32 x6), (⟨w.heap.size, 7, none⟩, .float .f32 x7), (⟨w.heap.size, 8, none⟩, .float .f32 x8), (⟨w.heap.size, 9, none⟩, .float .f32 x9), (⟨(w.heap.size + 1), 0, none⟩, .float .f32 0), (⟨(w.heap.size + 1), 1, none⟩, .float .f32 0), (⟨(w.heap.size + 1), 2, none⟩, .float .f32 0)]) (by simp [Held, go_sem, *]); simp only [Held, and_true] at hk))
    refine bodyPost_ret (v := ?_) (by first | (simp [results, Try.results44, go_sem, *]; rfl) | (simp [results, Try.results44, go_sem, *]; done)) rfl ?_
    first | ((refine vb3_of_told' HQ.out ?_ ?_); (focus (simp; done)); ((repeat (first | (with_reducible exact Below.refl _ _) | (with_reducible refine Below.drewN ?_ _) | (with_reducible refine Below.drew ?_) | (with_reducible refine Below.allocS ?_ _) | ((with_reducible refine Below.setCell ?_ ?_ _); rotate_left; focus (first | omega | (simp; done) | (simp; omega))) | (with_reducible refine Below.step ?_ (by assumption)))); done)) | ((refine vb3_none ?_ ?_); (focus (simp; done)); ((repeat (first | (with_reducible exact Below.refl _ _) | (with_reducible refine Below.drewN ?_ _) | (with_reducible refine Below.drew ?_) | (with_reducible refine Below.allocS ?_ _) | ((with_reducible refine Below.setCell ?_ ?_ _); rotate_left; focus (first | omega | (simp; done) | (simp; omega))) | (with_reducible refine Below.step ?_ (by assumption)))); done))

set_option maxRecDepth 100000 in
set_option maxHeartbeats 4000000 in
theorem implMomentumInTop_any (x0 x1 x2 x3 x4 x5 x6 x7 x8 x9 : Nat) (w : World) : Calls Try.prog 45 #[.agg #[.float .f32 x0, .float .f32 x1, .float .f32 x2, .float .f32 x3, .float .f32 x4, .float .f32 x5, .float .f32 x6, .float .f32 x7, .float .f32 x8, .float .f32 x9]] w (VB3 (topB x0 x1 x2 x3 x4 x5 x6 x7 x8 x9 && fin3 (mulC x0 x7) (mulC x1 x8) (mulC x2 x9)) (mulC x0 x7) (mulC x1 x8) (mulC x2 x9) w) := by
  cases h1 : topB x0 x1 x2 x3 x4 x5 x6 x7 x8 x9
  all_goals
    go_enter Try.func45, Try.ntmps45
    go_wp2_with (first | (go_at_call 71; refine (implValidTop_any x0 x1 x2 x3 x4 x5 x6 x7 x8 x9 _).mono ?_; rintro e w1 ⟨rfl, hb⟩; have hk := Held.below hb (l := [(⟨w.heap.size, 0, none⟩, .float .f32 x0), (⟨w.heap.size, 1, none⟩, .float .f32 x1), (⟨w.heap.size, 2, none⟩, .float .f32 x2), (⟨w.heap.size, 3, none⟩, .float .f32 x3), (⟨w.heap.size, 4, none⟩, .float .f32 x4), (⟨w.heap.size, 5, none⟩, .float .f32 x5), (⟨w.heap.size, 6, none⟩, .float .f32 x6), (⟨w.heap.size, 7, none⟩, .float .f32 x7), (⟨w.heap.size, 8, none⟩, .float .f32 x8), (⟨w.heap.size, 9, none⟩, .float .f32 x9), (⟨(w.heap.size + 1), 0, none⟩, .float .f32 0), (⟨(w.heap.size + 1), 1, none⟩, .float .f32 0), (⟨(w.heap.size + 1), 2, none⟩, .float .f32 0)]) (by simp [Held, go_sem, *]); simp only [Held, and_true] at hk) | (go_at_call 78; refine (inside_any x0 x1 x2 x3 x4 x5 x6 x7 x8 x9 _ _ ?_).mono ?_; (focus (simp [Held, *]; done)); rintro e w2 ⟨r0, r1, r2, rfl, hq, hb⟩; have HQ := Lib.hid hq; clear hq; have hk := Held.below hb (l := [(⟨w.heap.size, 0, none⟩, .float .f32 x0), (⟨w.heap.size, 1, none⟩, .float .f32 x1), (⟨w.heap.size, 2, none⟩, .float .f32 x2), (⟨w.heap.size, 3, none⟩, .float .f32 x3), (⟨w.heap.size, 4, none⟩, .float .f32 x4), (⟨w.heap.size, 5, none⟩, .float .f32 x5), (⟨w.heap.size, 6, none⟩, .float .f32 x6), (⟨w.heap.size, 7, none⟩, .float .f32 x7), (⟨w.heap.size, 8, none⟩, .float .f32 x8), (⟨w.heap.size, 9, none⟩, .float .f32 x9), (⟨(w.heap.size + 1), 0, none⟩, .float .f32 0), (⟨(w.heap.size + 1), 1, none⟩, .float .f32 0), (⟨(w.heap.size + 1), 2, none⟩, .float .f32 0)]) (by simp [Held, go_sem, *]); simp only [Held, and_true] at hk) | (go_at_call 84; refine (toldVector_any _ _ _ _).mono ?_; rintro e w3 ⟨rfl, hb⟩; have hk := Held.below hb (l := [(⟨w.heap.size, 0, none⟩, .float .f32 x0), (⟨w.heap.size, 1, none⟩, .float .f32 x1), (⟨w.heap.size, 2, none⟩, .float .f32 x2), (⟨w.heap.size, 3, none⟩, .float .f32 x3), (⟨w.heap.size, 4, none⟩, .float .f32 x4), (⟨w.heap.size, 5, none⟩, .float .f32 x5), (⟨w.heap.size, 6, none⟩, .float .f32 x6), (⟨w.heap.size, 7, none⟩, .float .f32 x7), (⟨w.heap.size, 8, none⟩, .float .f32 x8), (⟨w.heap.size, 9, none⟩, .float .f32 x9), (⟨(w.heap.size + 1), 0, none⟩, .float .f32 0), (⟨(w.heap.size + 1), 1, none⟩, .float .f32 0), (⟨(w.heap.size + 1), 2, none⟩, .float .f32 0)]) (by simp [Held, go_sem, *]); simp only [Held, and_true] at hk))
    refine bodyPost_ret (v := ?_) (by first | (simp [results, Try.results45, go_sem, *]; rfl) | (simp [results, Try.results45, go_sem, *]; done)) rfl ?_
    first | ((refine vb3_of_told' HQ.out ?_ ?_); (focus (simp; done)); ((repeat (first | (with_reducible exact Below.refl _ _) | (with_reducible refine Below.drewN ?_ _) | (with_reducible refine Below.drew ?_) | (with_reducible refine Below.allocS ?_ _) | ((with_reducible refine Below.setCell ?_ ?_ _); rotate_left; focus (first | omega | (simp; done) | (simp; omega))) | (with_reducible refine Below.step ?_ (by assumption)))); done)) | ((refine vb3_none ?_ ?_); (focus (simp; done)); ((repeat (first | (with_reducible exact Below.refl _ _) | (with_reducible refine Below.drewN ?_ _) | (with_reducible refine Below.drew ?_) | (with_reducible refine Below.allocS ?_ _) | ((with_reducible refine Below.setCell ?_ ?_ _); rotate_left; focus (first | omega | (simp; done) | (simp; omega))) | (with_reducible refine Below.step ?_ (by assumption)))); done))

set_option maxRecDepth 100000 in
set_option maxHeartbeats 4000000 in
theorem lawMomentumInTop_walk (x0 x1 x2 x3 x4 x5 x6 x7 x8 x9 : Nat) (_ : x0 < 4294967296) (_ : x1 < 4294967296) (_ : x2 < 4294967296) (_ : x3 < 4294967296) (_ : x4 < 4294967296) (_ : x5 < 4294967296) (_ : x6 < 4294967296) (_ : x7 < 4294967296) (_ : x8 < 4294967296) (_ : x9 < 4294967296) (w : World) : Calls Try.prog 12 #[.agg #[.float .f32 x0, .float .f32 x1, .float .f32 x2, .float .f32 x3, .float .f32 x4, .float .f32 x5, .float .f32 x6, .float .f32 x7, .float .f32 x8, .float .f32 x9]] w fun e w' => e = .returned (.bool true) ∧ Below w.heap.size w w' := by
  go_enter Try.func12, Try.ntmps12
  go_wp2_with fail
  refine (toTop_any x0 x1 x2 x3 x4 x5 x6 x7 x8 x9 _).mono ?_
  rintro e w0 ⟨rfl, hb⟩
  have hk := Held.below hb (l := [(⟨w.heap.size, 0, none⟩, .float .f32 x0), (⟨w.heap.size, 1, none⟩, .float .f32 x1), (⟨w.heap.size, 2, none⟩, .float .f32 x2), (⟨w.heap.size, 3, none⟩, .float .f32 x3), (⟨w.heap.size, 4, none⟩, .float .f32 x4), (⟨w.heap.size, 5, none⟩, .float .f32 x5), (⟨w.heap.size, 6, none⟩, .float .f32 x6), (⟨w.heap.size, 7, none⟩, .float .f32 x7), (⟨w.heap.size, 8, none⟩, .float .f32 x8), (⟨w.heap.size, 9, none⟩, .float .f32 x9)]) (by simp [Held, go_sem, *])
  simp only [Held, and_true] at hk
  go_wp2_with fail
  refine (specMomentumInTop_any x0 x1 x2 x3 x4 x5 x6 x7 x8 x9 _).mono ?_
  rintro e w1 ⟨r0_0, r0_1, r0_2, rfl, ⟨q0_0, q0_1, q0_2⟩, hb⟩
  have Hq0_0 := Lib.hid q0_0
  clear q0_0
  have Hq0_1 := Lib.hid q0_1
  clear q0_1
  have Hq0_2 := Lib.hid q0_2
  clear q0_2
  have hk := Held.below hb (l := [(⟨w.heap.size, 0, none⟩, .float .f32 x0), (⟨w.heap.size, 1, none⟩, .float .f32 x1), (⟨w.heap.size, 2, none⟩, .float .f32 x2), (⟨w.heap.size, 3, none⟩, .float .f32 x3), (⟨w.heap.size, 4, none⟩, .float .f32 x4), (⟨w.heap.size, 5, none⟩, .float .f32 x5), (⟨w.heap.size, 6, none⟩, .float .f32 x6), (⟨w.heap.size, 7, none⟩, .float .f32 x7), (⟨w.heap.size, 8, none⟩, .float .f32 x8), (⟨w.heap.size, 9, none⟩, .float .f32 x9)]) (by simp [Held, go_sem, *])
  simp only [Held, and_true] at hk
  go_wp2_with fail
  refine (toTop_any x0 x1 x2 x3 x4 x5 x6 x7 x8 x9 _).mono ?_
  rintro e w2 ⟨rfl, hb⟩
  have hk := Held.below hb (l := [(⟨w.heap.size, 0, none⟩, .float .f32 x0), (⟨w.heap.size, 1, none⟩, .float .f32 x1), (⟨w.heap.size, 2, none⟩, .float .f32 x2), (⟨w.heap.size, 3, none⟩, .float .f32 x3), (⟨w.heap.size, 4, none⟩, .float .f32 x4), (⟨w.heap.size, 5, none⟩, .float .f32 x5), (⟨w.heap.size, 6, none⟩, .float .f32 x6), (⟨w.heap.size, 7, none⟩, .float .f32 x7), (⟨w.heap.size, 8, none⟩, .float .f32 x8), (⟨w.heap.size, 9, none⟩, .float .f32 x9), (⟨w1.heap.size, 0, none⟩, .float .f32 r0_0), (⟨w1.heap.size, 1, none⟩, .float .f32 r0_1), (⟨w1.heap.size, 2, none⟩, .float .f32 r0_2)]) (by simp [Held, go_sem, *])
  simp only [Held, and_true] at hk
  go_wp2_with fail
  refine (implMomentumInTop_any x0 x1 x2 x3 x4 x5 x6 x7 x8 x9 _).mono ?_
  rintro e w3 ⟨r1_0, r1_1, r1_2, rfl, ⟨q1_0, q1_1, q1_2⟩, hb⟩
  have Hq1_0 := Lib.hid q1_0
  clear q1_0
  have Hq1_1 := Lib.hid q1_1
  clear q1_1
  have Hq1_2 := Lib.hid q1_2
  clear q1_2
  have hk := Held.below hb (l := [(⟨w.heap.size, 0, none⟩, .float .f32 x0), (⟨w.heap.size, 1, none⟩, .float .f32 x1), (⟨w.heap.size, 2, none⟩, .float .f32 x2), (⟨w.heap.size, 3, none⟩, .float .f32 x3), (⟨w.heap.size, 4, none⟩, .float .f32 x4), (⟨w.heap.size, 5, none⟩, .float .f32 x5), (⟨w.heap.size, 6, none⟩, .float .f32 x6), (⟨w.heap.size, 7, none⟩, .float .f32 x7), (⟨w.heap.size, 8, none⟩, .float .f32 x8), (⟨w.heap.size, 9, none⟩, .float .f32 x9), (⟨w1.heap.size, 0, none⟩, .float .f32 r0_0), (⟨w1.heap.size, 1, none⟩, .float .f32 r0_1), (⟨w1.heap.size, 2, none⟩, .float .f32 r0_2)]) (by simp [Held, go_sem, *])
  simp only [Held, and_true] at hk
  go_wp2_with fail
  refine (eqVector_any _ _ _ _ _ _ _ (Hq1_0.out.trans Hq0_0.out.symm) (Hq1_1.out.trans Hq0_1.out.symm) (Hq1_2.out.trans Hq0_2.out.symm)).mono ?_
  rintro e w9 ⟨rfl, hb⟩
  go_wp2
  go_ret
  refine ⟨rfl, ?_⟩
  (try have hB := hC.1.2)
  (repeat (first | assumption | (with_reducible exact Below.refl _ _) | (with_reducible refine Below.drewN ?_ _) | (with_reducible refine Below.drew ?_) | (with_reducible refine Below.allocS ?_ _) | ((with_reducible refine Below.setCell ?_ ?_ _); rotate_left; focus (first | omega | (simp; done) | (simp; omega))) | (with_reducible refine Below.step ?_ (by assumption))))

def rateQ (m1 m2 own v1 v2 t : Nat) : Nat := fbin .quo .f32 (fbin .add .f32 (fbin .mul .f32 (fbin .sub .f32 (cn .f32 m1) (cn .f32 m2)) (fbin .mul .f32 (cn .f32 v1) (cn .f32 v2))) (cn .f32 t)) (cn .f32 own)
set_option maxRecDepth 100000 in
set_option maxHeartbeats 4000000 in
theorem l04Rate_any (x0 x1 x2 u0 u1 u2 s0 s1 s2 p : Nat) (w : World) (hH : Held [(⟨p, 0, none⟩, .float .f32 x0), (⟨p, 1, none⟩, .float .f32 x1), (⟨p, 2, none⟩, .float .f32 x2)] w) : Calls Try.prog 86 #[.pointer (some ⟨p, 0, none⟩), .agg #[.float .f32 u0, .float .f32 u1, .float .f32 u2], .agg #[.float .f32 s0, .float .f32 s1, .float .f32 s2]] w (BF3 (rateQ x1 x2 x0 u1 u2 s0) (rateQ x2 x0 x1 u2 u0 s1) (rateQ x0 x1 x2 u0 u1 s2) w) := by
  have hk := hH
  simp only [Held, and_true] at hk
  have hp0 := hk.1.1
  have hp1 : p < w.heap.size + 1 := by omega
  have hp2 : p < w.heap.size + 1 + 1 := by omega
  have hp3 : p < w.heap.size + 1 + 1 + 1 := by omega
  have hp4 : p < w.heap.size + 1 + 1 + 1 + 1 := by omega
  go_enter Try.func86, Try.ntmps86
  go_wp2_with (first | (refine wpList_fbin rfl rfl rfl rfl rfl (fun r n hr => ?_)))
  refine bodyPost_ret (v := ?vv) ?hh rfl ?pp
  case hh => simp [results, Try.results86, go_sem, *]; rfl
  case pp =>
    refine ⟨_, _, _, rfl, ?_, ?_⟩
    · unfold rateQ
      simp only [Hid] at *
      refine ⟨?_, ?_, ?_⟩ <;> simp only [*]
    · (repeat (first | (with_reducible exact Below.refl _ _) | (with_reducible refine Below.drewN ?_ _) | (with_reducible refine Below.drew ?_) | (with_reducible refine Below.allocS ?_ _) | ((with_reducible refine Below.setCell ?_ ?_ _); rotate_left; focus (first | omega | (simp; done) | (simp; omega))) | (with_reducible refine Below.step ?_ (by assumption))))

set_option maxRecDepth 100000 in
set_option maxHeartbeats 4000000 in
theorem rate1_any (m1 m2 own v1 v2 t : Nat) (w : World) : Calls Try.prog 110 #[.float .f32 m1, .float .f32 m2, .float .f32 own, .float .f32 v1, .float .f32 v2, .float .f32 t] w (RF .f32 (rateQ m1 m2 own v1 v2 t) w) := by
  go_enter Try.func110, Try.ntmps110
  go_wp2_with (first | (refine wpList_fbin rfl rfl rfl rfl rfl (fun r n hr => ?_)))
  go_ret
  refine ⟨_, _, rfl, ?_, rfl⟩
  unfold rateQ
  simp only [Hid] at *
  simp only [*]

set_option maxRecDepth 100000 in
set_option maxHeartbeats 4000000 in
theorem rate_any (x0 x1 x2 u0 u1 u2 s0 s1 s2 p : Nat) (w : World) (hH : Held [(⟨p, 0, none⟩, .float .f32 x0), (⟨p, 1, none⟩, .float .f32 x1), (⟨p, 2, none⟩, .float .f32 x2)] w) : Calls Try.prog 88 #[.pointer (some ⟨p, 0, none⟩), .agg #[.float .f32 u0, .float .f32 u1, .float .f32 u2], .agg #[.float .f32 s0, .float .f32 s1, .float .f32 s2]] w (BF3 (rateQ x1 x2 x0 u1 u2 s0) (rateQ x2 x0 x1 u2 u0 s1) (rateQ x0 x1 x2 u0 u1 s2) w) := by
  have hk := hH
  simp only [Held, and_true] at hk
  have hp0 := hk.1.1
  have hp1 : p < w.heap.size + 1 := by omega
  have hp2 : p < w.heap.size + 1 + 1 := by omega
  have hp3 : p < w.heap.size + 1 + 1 + 1 := by omega
  have hp4 : p < w.heap.size + 1 + 1 + 1 + 1 := by omega
  go_enter Try.func88, Try.ntmps88
  go_wp2_with (first | (refine wpList_fbin rfl rfl rfl rfl rfl (fun r n hr => ?_)))
  refine region_calmA_tail 43 w (w.heap.size + 1 + 1 + 1 + 1) [(⟨p, 0, none⟩, .float .f32 x0), (⟨p, 1, none⟩, .float .f32 x1), (⟨p, 2, none⟩, .float .f32 x2), (⟨w.heap.size, 0, none⟩, .float .f32 u0), (⟨w.heap.size, 1, none⟩, .float .f32 u1), (⟨w.heap.size, 2, none⟩, .float .f32 u2), (⟨(w.heap.size + 1), 0, none⟩, .float .f32 s0), (⟨(w.heap.size + 1), 1, none⟩, .float .f32 s1), (⟨(w.heap.size + 1), 2, none⟩, .float .f32 s2), (⟨(w.heap.size + 1 + 1), 0, none⟩, .float .f32 0), (⟨(w.heap.size + 1 + 1), 1, none⟩, .float .f32 0), (⟨(w.heap.size + 1 + 1), 2, none⟩, .float .f32 0), (⟨(w.heap.size + 1 + 1 + 1), 0, none⟩, .float .f32 x0), (⟨(w.heap.size + 1 + 1 + 1), 1, none⟩, .float .f32 x1), (⟨(w.heap.size + 1 + 1 + 1), 2, none⟩, .float .f32 x2)] (fun f args v => ∃ r, v = .float .f32 r ∧ cn .f32 r = rateQ (argF args 0 0) (argF args 1 0) (argF args 2 0) (argF args 3 0) (argF args 4 0) (argF args 5 0)) [] (by kernel_rfl) (by kernel_rfl) (by kernel_rfl) ⟨⟨by simp [Held, go_sem, *], by (repeat (first | (with_reducible exact Below.refl _ _) | (with_reducible refine Below.drewN ?_ _) | (with_reducible refine Below.drew ?_) | (with_reducible refine Below.allocS ?_ _) | ((with_reducible refine Below.setCell ?_ ?_ _); rotate_left; focus (first | omega | (simp; done) | (simp; omega))) | (with_reducible refine Below.step ?_ (by assumption))))⟩, by (first | (simp; done) | (simp; omega) | omega)⟩ ?_
  simp only [List.take_succ_cons, List.take_zero, List.drop_succ_cons, List.drop_zero]
  repeat (first | (first | (refine calmA_plain rfl rfl ?_ (fun K hK w1 hC => ?_); (focus (intro _ _; simp [RA]; done)); have hC' := hC.1.1; simp only [Held, and_true] at hC'; go_wp2_with (first | (refine wpList_fbin rfl rfl rfl rfl rfl (fun r n hr => ?_)) | (refine wpList_widen rfl rfl Try.underlying34 Try.underlying22 rfl (fun r n hr => ?_))); refine ⟨rfl, (by first | exact Below.refl _ _ | exact below_drewN _), hK _ ?_⟩; clear hC hC' hK K w1) | (refine calmA_check rfl rfl rfl ?_ ?_; (focus (intro _ _; simp [RA]; done)))) | (refine calmA_call (f := 110) (args := _) rfl ?_ (by (intro w1; simp [execOp, resolve, invoke, go_sem]; with_reducible rfl)) (fun w1 hC => ?_) ?_; (focus (intro _ _; simp [RA]; done)); (focus (refine (rate1_any _ _ _ _ _ _ _).mono ?_; rintro e w2 ⟨r, n, he, hq, rfl⟩; exact ⟨_, he, ⟨_, rfl, hq⟩, below_drewN _⟩)); rintro v ⟨r, rfl, hq⟩; have HQ := Lib.hid hq; simp [argF] at HQ; clear hq))
  refine calmA_nil ?_
  intro w' hC hF
  have hC' := hC.1.1
  simp only [Held, and_true] at hC'
  go_wp2_with fail
  refine bodyPost_ret (v := ?vv) ?hh rfl ?pp
  case hh => simp [results, Try.results88, go_sem, *]; rfl
  case pp =>
    refine ⟨_, _, _, rfl, ?_, ?_⟩
    · unfold rateQ
      simp only [Hid] at *
      refine ⟨?_, ?_, ?_⟩ <;> simp only [*, rateQ]
    · (have hB := hC.1.2; (repeat (first | assumption | (with_reducible exact Below.refl _ _) | (with_reducible refine Below.drewN ?_ _) | (with_reducible refine Below.drew ?_) | (with_reducible refine Below.allocS ?_ _) | ((with_reducible refine Below.setCell ?_ ?_ _); rotate_left; focus (first | omega | (simp; done) | (simp; omega))) | (with_reducible refine Below.step ?_ (by assumption)))))

set_option maxRecDepth 100000 in
set_option maxHeartbeats 4000000 in
theorem specRateOfTop_any (x0 x1 x2 x3 x4 x5 x6 x7 x8 x9 s0 s1 s2 : Nat) (w : World) : Calls Try.prog 47 #[.agg #[.float .f32 x0, .float .f32 x1, .float .f32 x2, .float .f32 x3, .float .f32 x4, .float .f32 x5, .float .f32 x6, .float .f32 x7, .float .f32 x8, .float .f32 x9], .agg #[.float .f32 s0, .float .f32 s1, .float .f32 s2]] w (VB3 ((topB x0 x1 x2 x3 x4 x5 x6 x7 x8 x9 && fin3 s0 s1 s2) && fin3 (rateQ x1 x2 x0 x8 x9 s0) (rateQ x2 x0 x1 x9 x7 s1) (rateQ x0 x1 x2 x7 x8 s2)) (rateQ x1 x2 x0 x8 x9 s0) (rateQ x2 x0 x1 x9 x7 s1) (rateQ x0 x1 x2 x7 x8 s2) w) := by
  cases h1 : topB x0 x1 x2 x3 x4 x5 x6 x7 x8 x9 <;> cases h2 : fin3 s0 s1 s2
  all_goals
    go_enter Try.func47, Try.ntmps47
    go_wp2_with (first | (go_at_call 69; refine (l04Is_any x0 x1 x2 x3 x4 x5 x6 x7 x8 x9 _ _ ?_ ?_ ?_ ?_ ?_ ?_ ?_ ?_ ?_ ?_).mono ?_; (focus (simp [go_sem]; done)); (focus (simp [go_sem]; done)); (focus (simp [go_sem]; done)); (focus (simp [go_sem]; done)); (focus (simp [go_sem]; done)); (focus (simp [go_sem]; done)); (focus (simp [go_sem]; done)); (focus (simp [go_sem]; done)); (focus (simp [go_sem]; done)); (focus (simp [go_sem]; done)); rintro e w1 ⟨rfl, hb⟩; have hk := Held.below hb (l := [(⟨w.heap.size, 0, none⟩, .float .f32 x0), (⟨w.heap.size, 1, none⟩, .float .f32 x1), (⟨w.heap.size, 2, none⟩, .float .f32 x2), (⟨w.heap.size, 3, none⟩, .float .f32 x3), (⟨w.heap.size, 4, none⟩, .float .f32 x4), (⟨w.heap.size, 5, none⟩, .float .f32 x5), (⟨w.heap.size, 6, none⟩, .float .f32 x6), (⟨w.heap.size, 7, none⟩, .float .f32 x7), (⟨w.heap.size, 8, none⟩, .float .f32 x8), (⟨w.heap.size, 9, none⟩, .float .f32 x9), (⟨(w.heap.size + 1), 0, none⟩, .float .f32 s0), (⟨(w.heap.size + 1), 1, none⟩, .float .f32 s1), (⟨(w.heap.size + 1), 2, none⟩, .float .f32 s2), (⟨(w.heap.size + 1 + 1), 0, none⟩, .float .f32 0), (⟨(w.heap.size + 1 + 1), 1, none⟩, .float .f32 0), (⟨(w.heap.size + 1 + 1), 2, none⟩, .float .f32 0)]) (by simp [Held, go_sem, *]); simp only [Held, and_true] at hk) | (go_at_call 85; refine (l01VFinite_any _ _ _ _).mono ?_; rintro e w1 ⟨rfl, hb⟩; have hk := Held.below hb (l := [(⟨w.heap.size, 0, none⟩, .float .f32 x0), (⟨w.heap.size, 1, none⟩, .float .f32 x1), (⟨w.heap.size, 2, none⟩, .float .f32 x2), (⟨w.heap.size, 3, none⟩, .float .f32 x3), (⟨w.heap.size, 4, none⟩, .float .f32 x4), (⟨w.heap.size, 5, none⟩, .float .f32 x5), (⟨w.heap.size, 6, none⟩, .float .f32 x6), (⟨w.heap.size, 7, none⟩, .float .f32 x7), (⟨w.heap.size, 8, none⟩, .float .f32 x8), (⟨w.heap.size, 9, none⟩, .float .f32 x9), (⟨(w.heap.size + 1), 0, none⟩, .float .f32 s0), (⟨(w.heap.size + 1), 1, none⟩, .float .f32 s1), (⟨(w.heap.size + 1), 2, none⟩, .float .f32 s2), (⟨(w.heap.size + 1 + 1), 0, none⟩, .float .f32 0), (⟨(w.heap.size + 1 + 1), 1, none⟩, .float .f32 0), (⟨(w.heap.size + 1 + 1), 2, none⟩, .float .f32 0)]) (by simp [Held, go_sem, *]); simp only [Held, and_true] at hk) | (go_at_call 86; refine (l04Rate_any x0 x1 x2 _ _ _ _ _ _ _ _ ?_).mono ?_; (focus (simp [Held, *]; done)); rintro e w2 ⟨r0, r1, r2, rfl, hq, hb⟩; have HQ := Lib.hid hq; clear hq; have hk := Held.below hb (l := [(⟨w.heap.size, 0, none⟩, .float .f32 x0), (⟨w.heap.size, 1, none⟩, .float .f32 x1), (⟨w.heap.size, 2, none⟩, .float .f32 x2), (⟨w.heap.size, 3, none⟩, .float .f32 x3), (⟨w.heap.size, 4, none⟩, .float .f32 x4), (⟨w.heap.size, 5, none⟩, .float .f32 x5), (⟨w.heap.size, 6, none⟩, .float .f32 x6), (⟨w.heap.size, 7, none⟩, .float .f32 x7), (⟨w.heap.size, 8, none⟩, .float .f32 x8), (⟨w.heap.size, 9, none⟩, .float .f32 x9), (⟨(w.heap.size + 1), 0, none⟩, .float .f32 s0), (⟨(w.heap.size + 1), 1, none⟩, .float .f32 s1), (⟨(w.heap.size + 1), 2, none⟩, .float .f32 s2), (⟨(w.heap.size + 1 + 1), 0, none⟩, .float .f32 0), (⟨(w.heap.size + 1 + 1), 1, none⟩, .float .f32 0), (⟨(w.heap.size + 1 + 1), 2, none⟩, .float .f32 0)]) (by simp [Held, go_sem, *]); simp only [Held, and_true] at hk) | (go_at_call 83; refine (l04Vector_any _ _ _ _).mono ?_; rintro e w3 ⟨rfl, hb⟩; have hk := Held.below hb (l := [(⟨w.heap.size, 0, none⟩, .float .f32 x0), (⟨w.heap.size, 1, none⟩, .float .f32 x1), (⟨w.heap.size, 2, none⟩, .float .f32 x2), (⟨w.heap.size, 3, none⟩, .float .f32 x3), (⟨w.heap.size, 4, none⟩, .float .f32 x4), (⟨w.heap.size, 5, none⟩, .float .f32 x5), (⟨w.heap.size, 6, none⟩, .float .f32 x6), (⟨w.heap.size, 7, none⟩, .float .f32 x7), (⟨w.heap.size, 8, none⟩, .float .f32 x8), (⟨w.heap.size, 9, none⟩, .float .f32 x9), (⟨(w.heap.size + 1), 0, none⟩, .float .f32 s0), (⟨(w.heap.size + 1), 1, none⟩, .float .f32 s1), (⟨(w.heap.size + 1), 2, none⟩, .float .f32 s2), (⟨(w.heap.size + 1 + 1), 0, none⟩, .float .f32 0), (⟨(w.heap.size + 1 + 1), 1, none⟩, .float .f32 0), (⟨(w.heap.size + 1 + 1), 2, none⟩, .float .f32 0)]) (by simp [Held, go_sem, *]); simp only [Held, and_true] at hk))
    refine bodyPost_ret (v := ?_) (by first | (simp [results, Try.results47, go_sem, *]; rfl) | (simp [results, Try.results47, go_sem, *]; done)) rfl ?_
    first | ((refine vb3_of_told' HQ.out ?_ ?_); (focus (simp; done)); ((repeat (first | (with_reducible exact Below.refl _ _) | (with_reducible refine Below.drewN ?_ _) | (with_reducible refine Below.drew ?_) | (with_reducible refine Below.allocS ?_ _) | ((with_reducible refine Below.setCell ?_ ?_ _); rotate_left; focus (first | omega | (simp; done) | (simp; omega))) | (with_reducible refine Below.step ?_ (by assumption)))); done)) | ((refine vb3_none ?_ ?_); (focus (simp; done)); ((repeat (first | (with_reducible exact Below.refl _ _) | (with_reducible refine Below.drewN ?_ _) | (with_reducible refine Below.drew ?_) | (with_reducible refine Below.allocS ?_ _) | ((with_reducible refine Below.setCell ?_ ?_ _); rotate_left; focus (first | omega | (simp; done) | (simp; omega))) | (with_reducible refine Below.step ?_ (by assumption)))); done))

set_option maxRecDepth 100000 in
set_option maxHeartbeats 4000000 in
theorem implRateOfTop_any (x0 x1 x2 x3 x4 x5 x6 x7 x8 x9 s0 s1 s2 : Nat) (w : World) : Calls Try.prog 49 #[.agg #[.float .f32 x0, .float .f32 x1, .float .f32 x2, .float .f32 x3, .float .f32 x4, .float .f32 x5, .float .f32 x6, .float .f32 x7, .float .f32 x8, .float .f32 x9], .agg #[.float .f32 s0, .float .f32 s1, .float .f32 s2]] w (VB3 ((topB x0 x1 x2 x3 x4 x5 x6 x7 x8 x9 && fin3 s0 s1 s2) && fin3 (rateQ x1 x2 x0 x8 x9 s0) (rateQ x2 x0 x1 x9 x7 s1) (rateQ x0 x1 x2 x7 x8 s2)) (rateQ x1 x2 x0 x8 x9 s0) (rateQ x2 x0 x1 x9 x7 s1) (rateQ x0 x1 x2 x7 x8 s2) w) := by
  cases h1 : topB x0 x1 x2 x3 x4 x5 x6 x7 x8 x9 <;> cases h2 : fin3 s0 s1 s2
  all_goals
    go_enter Try.func49, Try.ntmps49
    go_wp2_with (first | (go_at_call 71; refine (implValidTop_any x0 x1 x2 x3 x4 x5 x6 x7 x8 x9 _).mono ?_; rintro e w1 ⟨rfl, hb⟩; have hk := Held.below hb (l := [(⟨w.heap.size, 0, none⟩, .float .f32 x0), (⟨w.heap.size, 1, none⟩, .float .f32 x1), (⟨w.heap.size, 2, none⟩, .float .f32 x2), (⟨w.heap.size, 3, none⟩, .float .f32 x3), (⟨w.heap.size, 4, none⟩, .float .f32 x4), (⟨w.heap.size, 5, none⟩, .float .f32 x5), (⟨w.heap.size, 6, none⟩, .float .f32 x6), (⟨w.heap.size, 7, none⟩, .float .f32 x7), (⟨w.heap.size, 8, none⟩, .float .f32 x8), (⟨w.heap.size, 9, none⟩, .float .f32 x9), (⟨(w.heap.size + 1), 0, none⟩, .float .f32 s0), (⟨(w.heap.size + 1), 1, none⟩, .float .f32 s1), (⟨(w.heap.size + 1), 2, none⟩, .float .f32 s2), (⟨(w.heap.size + 1 + 1), 0, none⟩, .float .f32 0), (⟨(w.heap.size + 1 + 1), 1, none⟩, .float .f32 0), (⟨(w.heap.size + 1 + 1), 2, none⟩, .float .f32 0)]) (by simp [Held, go_sem, *]); simp only [Held, and_true] at hk) | (go_at_call 87; refine (finiteVector_any _ _ _ _).mono ?_; rintro e w1 ⟨rfl, hb⟩; have hk := Held.below hb (l := [(⟨w.heap.size, 0, none⟩, .float .f32 x0), (⟨w.heap.size, 1, none⟩, .float .f32 x1), (⟨w.heap.size, 2, none⟩, .float .f32 x2), (⟨w.heap.size, 3, none⟩, .float .f32 x3), (⟨w.heap.size, 4, none⟩, .float .f32 x4), (⟨w.heap.size, 5, none⟩, .float .f32 x5), (⟨w.heap.size, 6, none⟩, .float .f32 x6), (⟨w.heap.size, 7, none⟩, .float .f32 x7), (⟨w.heap.size, 8, none⟩, .float .f32 x8), (⟨w.heap.size, 9, none⟩, .float .f32 x9), (⟨(w.heap.size + 1), 0, none⟩, .float .f32 s0), (⟨(w.heap.size + 1), 1, none⟩, .float .f32 s1), (⟨(w.heap.size + 1), 2, none⟩, .float .f32 s2), (⟨(w.heap.size + 1 + 1), 0, none⟩, .float .f32 0), (⟨(w.heap.size + 1 + 1), 1, none⟩, .float .f32 0), (⟨(w.heap.size + 1 + 1), 2, none⟩, .float .f32 0)]) (by simp [Held, go_sem, *]); simp only [Held, and_true] at hk) | (go_at_call 88; refine (rate_any x0 x1 x2 _ _ _ _ _ _ _ _ ?_).mono ?_; (focus (simp [Held, *]; done)); rintro e w2 ⟨r0, r1, r2, rfl, hq, hb⟩; have HQ := Lib.hid hq; clear hq; have hk := Held.below hb (l := [(⟨w.heap.size, 0, none⟩, .float .f32 x0), (⟨w.heap.size, 1, none⟩, .float .f32 x1), (⟨w.heap.size, 2, none⟩, .float .f32 x2), (⟨w.heap.size, 3, none⟩, .float .f32 x3), (⟨w.heap.size, 4, none⟩, .float .f32 x4), (⟨w.heap.size, 5, none⟩, .float .f32 x5), (⟨w.heap.size, 6, none⟩, .float .f32 x6), (⟨w.heap.size, 7, none⟩, .float .f32 x7), (⟨w.heap.size, 8, none⟩, .float .f32 x8), (⟨w.heap.size, 9, none⟩, .float .f32 x9), (⟨(w.heap.size + 1), 0, none⟩, .float .f32 s0), (⟨(w.heap.size + 1), 1, none⟩, .float .f32 s1), (⟨(w.heap.size + 1), 2, none⟩, .float .f32 s2), (⟨(w.heap.size + 1 + 1), 0, none⟩, .float .f32 0), (⟨(w.heap.size + 1 + 1), 1, none⟩, .float .f32 0), (⟨(w.heap.size + 1 + 1), 2, none⟩, .float .f32 0)]) (by simp [Held, go_sem, *]); simp only [Held, and_true] at hk) | (go_at_call 84; refine (toldVector_any _ _ _ _).mono ?_; rintro e w3 ⟨rfl, hb⟩; have hk := Held.below hb (l := [(⟨w.heap.size, 0, none⟩, .float .f32 x0), (⟨w.heap.size, 1, none⟩, .float .f32 x1), (⟨w.heap.size, 2, none⟩, .float .f32 x2), (⟨w.heap.size, 3, none⟩, .float .f32 x3), (⟨w.heap.size, 4, none⟩, .float .f32 x4), (⟨w.heap.size, 5, none⟩, .float .f32 x5), (⟨w.heap.size, 6, none⟩, .float .f32 x6), (⟨w.heap.size, 7, none⟩, .float .f32 x7), (⟨w.heap.size, 8, none⟩, .float .f32 x8), (⟨w.heap.size, 9, none⟩, .float .f32 x9), (⟨(w.heap.size + 1), 0, none⟩, .float .f32 s0), (⟨(w.heap.size + 1), 1, none⟩, .float .f32 s1), (⟨(w.heap.size + 1), 2, none⟩, .float .f32 s2), (⟨(w.heap.size + 1 + 1), 0, none⟩, .float .f32 0), (⟨(w.heap.size + 1 + 1), 1, none⟩, .float .f32 0), (⟨(w.heap.size + 1 + 1), 2, none⟩, .float .f32 0)]) (by simp [Held, go_sem, *]); simp only [Held, and_true] at hk))
    refine bodyPost_ret (v := ?_) (by first | (simp [results, Try.results49, go_sem, *]; rfl) | (simp [results, Try.results49, go_sem, *]; done)) rfl ?_
    first | ((refine vb3_of_told' HQ.out ?_ ?_); (focus (simp; done)); ((repeat (first | (with_reducible exact Below.refl _ _) | (with_reducible refine Below.drewN ?_ _) | (with_reducible refine Below.drew ?_) | (with_reducible refine Below.allocS ?_ _) | ((with_reducible refine Below.setCell ?_ ?_ _); rotate_left; focus (first | omega | (simp; done) | (simp; omega))) | (with_reducible refine Below.step ?_ (by assumption)))); done)) | ((refine vb3_none ?_ ?_); (focus (simp; done)); ((repeat (first | (with_reducible exact Below.refl _ _) | (with_reducible refine Below.drewN ?_ _) | (with_reducible refine Below.drew ?_) | (with_reducible refine Below.allocS ?_ _) | ((with_reducible refine Below.setCell ?_ ?_ _); rotate_left; focus (first | omega | (simp; done) | (simp; omega))) | (with_reducible refine Below.step ?_ (by assumption)))); done))

def TVRateOfTop (x0 x1 x2 x3 x4 x5 x6 x7 x8 x9 y0 y1 y2 : Nat) (v : Value) : Prop := ∃ r0 r1 r2, v = .tuple #[.agg #[.float .f32 r0, .float .f32 r1, .float .f32 r2], .bool ((topB x0 x1 x2 x3 x4 x5 x6 x7 x8 x9 && fin3 y0 y1 y2) && fin3 (rateQ x1 x2 x0 x8 x9 y0) (rateQ x2 x0 x1 x9 x7 y1) (rateQ x0 x1 x2 x7 x8 y2))] ∧ (cn .f32 r0 = condF ((topB x0 x1 x2 x3 x4 x5 x6 x7 x8 x9 && fin3 y0 y1 y2) && fin3 (rateQ x1 x2 x0 x8 x9 y0) (rateQ x2 x0 x1 x9 x7 y1) (rateQ x0 x1 x2 x7 x8 y2)) (rateQ x1 x2 x0 x8 x9 y0) ∧ cn .f32 r1 = condF ((topB x0 x1 x2 x3 x4 x5 x6 x7 x8 x9 && fin3 y0 y1 y2) && fin3 (rateQ x1 x2 x0 x8 x9 y0) (rateQ x2 x0 x1 x9 x7 y1) (rateQ x0 x1 x2 x7 x8 y2)) (rateQ x2 x0 x1 x9 x7 y1) ∧ cn .f32 r2 = condF ((topB x0 x1 x2 x3 x4 x5 x6 x7 x8 x9 && fin3 y0 y1 y2) && fin3 (rateQ x1 x2 x0 x8 x9 y0) (rateQ x2 x0 x1 x9 x7 y1) (rateQ x0 x1 x2 x7 x8 y2)) (rateQ x0 x1 x2 x7 x8 y2))
theorem tv_RateOfTop {x0 x1 x2 x3 x4 x5 x6 x7 x8 x9 y0 y1 y2 : Nat} {w w' : World} {e : Ending} (h : VB3 ((topB x0 x1 x2 x3 x4 x5 x6 x7 x8 x9 && fin3 y0 y1 y2) && fin3 (rateQ x1 x2 x0 x8 x9 y0) (rateQ x2 x0 x1 x9 x7 y1) (rateQ x0 x1 x2 x7 x8 y2)) (rateQ x1 x2 x0 x8 x9 y0) (rateQ x2 x0 x1 x9 x7 y1) (rateQ x0 x1 x2 x7 x8 y2) w e w') : ∃ v, e = .returned v ∧ TVRateOfTop x0 x1 x2 x3 x4 x5 x6 x7 x8 x9 y0 y1 y2 v ∧ Below w.heap.size w w' := by
  obtain ⟨r0, r1, r2, he, hq, hb⟩ := h
  exact ⟨_, he, ⟨r0, r1, r2, rfl, hq⟩, hb⟩


set_option maxRecDepth 100000 in
set_option maxHeartbeats 4000000 in
theorem lawRateOfTop_walk (x0 x1 x2 x3 x4 x5 x6 x7 x8 x9 y0 y1 y2 : Nat) (_ : x0 < 4294967296) (_ : x1 < 4294967296) (_ : x2 < 4294967296) (_ : x3 < 4294967296) (_ : x4 < 4294967296) (_ : x5 < 4294967296) (_ : x6 < 4294967296) (_ : x7 < 4294967296) (_ : x8 < 4294967296) (_ : x9 < 4294967296) (_ : y0 < 4294967296) (_ : y1 < 4294967296) (_ : y2 < 4294967296) (w : World) : Calls Try.prog 13 #[.agg #[.float .f32 x0, .float .f32 x1, .float .f32 x2, .float .f32 x3, .float .f32 x4, .float .f32 x5, .float .f32 x6, .float .f32 x7, .float .f32 x8, .float .f32 x9], .agg #[.float .f32 y0, .float .f32 y1, .float .f32 y2]] w fun e w' => e = .returned (.bool true) ∧ Below w.heap.size w w' := by
  go_enter Try.func13, Try.ntmps13
  go_wp2_with fail
  refine region_calmA w (w.heap.size + 1 + 1) [(⟨w.heap.size, 0, none⟩, .float .f32 x0), (⟨w.heap.size, 1, none⟩, .float .f32 x1), (⟨w.heap.size, 2, none⟩, .float .f32 x2), (⟨w.heap.size, 3, none⟩, .float .f32 x3), (⟨w.heap.size, 4, none⟩, .float .f32 x4), (⟨w.heap.size, 5, none⟩, .float .f32 x5), (⟨w.heap.size, 6, none⟩, .float .f32 x6), (⟨w.heap.size, 7, none⟩, .float .f32 x7), (⟨w.heap.size, 8, none⟩, .float .f32 x8), (⟨w.heap.size, 9, none⟩, .float .f32 x9), (⟨(w.heap.size + 1), 0, none⟩, .float .f32 y0), (⟨(w.heap.size + 1), 1, none⟩, .float .f32 y1), (⟨(w.heap.size + 1), 2, none⟩, .float .f32 y2)] (fun f args v => if f = 47 then TVRateOfTop x0 x1 x2 x3 x4 x5 x6 x7 x8 x9 y0 y1 y2 v else v = args.getD 0 undef) [(8, .new 5 3), (9, .put 5 15)] (by kernel_rfl) (by kernel_rfl) (by kernel_rfl) ⟨⟨by simp [Held, go_sem, *], by (repeat (first | assumption | (with_reducible exact Below.refl _ _) | (with_reducible refine Below.drewN ?_ _) | (with_reducible refine Below.drew ?_) | (with_reducible refine Below.allocS ?_ _) | ((with_reducible refine Below.setCell ?_ ?_ _); rotate_left; focus (first | omega | (simp; done) | (simp; omega))) | (with_reducible refine Below.step ?_ (by assumption))))⟩, by (first | (simp; done) | (simp; omega) | omega)⟩ ?_
  repeat (first | (refine calmA_plain rfl rfl ?_ (fun K hK w1 hC => ?_); (focus (intro _ _; simp [RA]; done)); have hC' := hC.1.1; simp only [Held, and_true] at hC'; go_wp2_with (first | (refine wpList_fbin rfl rfl rfl rfl rfl (fun r n hr => ?_)) | (refine wpList_widen rfl rfl Try.underlying34 Try.underlying22 rfl (fun r n hr => ?_))); refine ⟨rfl, (by first | exact Below.refl _ _ | exact below_drewN _), hK _ ?_⟩; clear hC hC' hK K w1) | (refine calmA_check rfl rfl rfl ?_ ?_; (focus (intro _ _; simp [RA]; done))))
  refine calmA_call (f := 23) (args := _) rfl ?_ (by (intro w1; simp [execOp, resolve, invoke, go_sem]; with_reducible rfl)) (fun w1 hC => ?_) ?_
  · (intro _ _; simp [RA]; done)
  · refine (toTop_any _ _ _ _ _ _ _ _ _ _ _).mono ?_
    rintro e w2 ⟨rfl, hb⟩
    exact ⟨_, rfl, by simp, hb⟩
  rintro v hv
  simp at hv
  subst hv
  repeat (first | (refine calmA_plain rfl rfl ?_ (fun K hK w1 hC => ?_); (focus (intro _ _; simp [RA]; done)); have hC' := hC.1.1; simp only [Held, and_true] at hC'; go_wp2_with (first | (refine wpList_fbin rfl rfl rfl rfl rfl (fun r n hr => ?_)) | (refine wpList_widen rfl rfl Try.underlying34 Try.underlying22 rfl (fun r n hr => ?_))); refine ⟨rfl, (by first | exact Below.refl _ _ | exact below_drewN _), hK _ ?_⟩; clear hC hC' hK K w1) | (refine calmA_check rfl rfl rfl ?_ ?_; (focus (intro _ _; simp [RA]; done))))
  refine calmA_call (f := 48) (args := _) rfl ?_ (by (intro w1; simp [execOp, resolve, invoke, go_sem]; with_reducible rfl)) (fun w1 hC => ?_) ?_
  · (intro _ _; simp [RA]; done)
  · refine (toVector_any _ _ _ _).mono ?_
    rintro e w2 ⟨rfl, hb⟩
    exact ⟨_, rfl, by simp, hb⟩
  rintro v hv
  simp at hv
  subst hv
  repeat (first | (refine calmA_plain rfl rfl ?_ (fun K hK w1 hC => ?_); (focus (intro _ _; simp [RA]; done)); have hC' := hC.1.1; simp only [Held, and_true] at hC'; go_wp2_with (first | (refine wpList_fbin rfl rfl rfl rfl rfl (fun r n hr => ?_)) | (refine wpList_widen rfl rfl Try.underlying34 Try.underlying22 rfl (fun r n hr => ?_))); refine ⟨rfl, (by first | exact Below.refl _ _ | exact below_drewN _), hK _ ?_⟩; clear hC hC' hK K w1) | (refine calmA_check rfl rfl rfl ?_ ?_; (focus (intro _ _; simp [RA]; done))))
  refine calmA_call (f := 47) (args := _) rfl ?_ (by (intro w1; simp [execOp, resolve, invoke, go_sem]; with_reducible rfl)) (fun w1 hC => ?_) ?_
  · (intro _ _; simp [RA]; done)
  · refine (specRateOfTop_any x0 x1 x2 x3 x4 x5 x6 x7 x8 x9 y0 y1 y2 _).mono ?_
    rintro e w2 hp
    obtain ⟨v, he, hT, hb⟩ := tv_RateOfTop hp
    exact ⟨v, he, by simp; exact hT, hb⟩
  rintro v hv
  simp at hv
  unfold TVRateOfTop at hv
  obtain ⟨r0_0, r0_1, r0_2, rfl, ⟨q0_0, q0_1, q0_2⟩⟩ := hv
  have Hq0_0 := Lib.hid q0_0
  clear q0_0
  have Hq0_1 := Lib.hid q0_1
  clear q0_1
  have Hq0_2 := Lib.hid q0_2
  clear q0_2
  repeat (first | (refine calmA_plain rfl rfl ?_ (fun K hK w1 hC => ?_); (focus (intro _ _; simp [RA]; done)); have hC' := hC.1.1; simp only [Held, and_true] at hC'; go_wp2_with (first | (refine wpList_fbin rfl rfl rfl rfl rfl (fun r n hr => ?_)) | (refine wpList_widen rfl rfl Try.underlying34 Try.underlying22 rfl (fun r n hr => ?_))); refine ⟨rfl, (by first | exact Below.refl _ _ | exact below_drewN _), hK _ ?_⟩; clear hC hC' hK K w1) | (refine calmA_check rfl rfl rfl ?_ ?_; (focus (intro _ _; simp [RA]; done))))
  refine calmA_alloc (n := 3) (zs := #[.float .f32 0, .float .f32 0, .float .f32 0]) (t := 43) rfl rfl ?_ ?_ ?_ ?_ (fun b hb => ?_)
  · simp
  · intro a w h; simp [RA]; exact h
  · intro w; simp [execOp, go_sem]; done
  · rfl
  refine calmA_store (ia := 8) (n := 3) rfl rfl rfl rfl hb rfl ?_ ?_ ?_ ?_ ?_ ?_ ?_ ?_ ?_ ?_
  · kernel_rfl
  · intro a w h; simp [RA] at h; exact h
  · rfl
  · rfl
  · simp [Value.oneCell']
  · intro a w h; simp [RA]; exact h
  · (first | (simp; done) | (simp; omega) | (simp [*]; done) | (simp [*]; omega))
  · (first | omega | (simp [*]; done) | (simp [*]; omega))
  · rfl
  repeat (first | (refine calmA_plain rfl rfl ?_ (fun K hK w1 hC => ?_); (focus (intro _ _; simp [RA]; done)); have hC' := hC.1.1; simp only [Held, and_true] at hC'; go_wp2_with (first | (refine wpList_fbin rfl rfl rfl rfl rfl (fun r n hr => ?_)) | (refine wpList_widen rfl rfl Try.underlying34 Try.underlying22 rfl (fun r n hr => ?_))); refine ⟨rfl, (by first | exact Below.refl _ _ | exact below_drewN _), hK _ ?_⟩; clear hC hC' hK K w1) | (refine calmA_check rfl rfl rfl ?_ ?_; (focus (intro _ _; simp [RA]; done))))
  refine calmA_nil ?_
  intro w' hC hF
  have hC' := hC.1.1
  simp only [Held, and_true] at hC'
  obtain ⟨b', vs', e1, e2, hN, hS⟩ := RA_get hF (i := 9) (f := .put 5 15) (by simp) (by simp)
  simp [Act.put, Act.eval] at e1 e2
  subst e1 e2
  simp [Held, cellsAt] at hS
  have hk0 := hC'
  have hw0 := hC.1.2
  go_wp2_with fail
  refine region_calmA w (w'.heap.size) [(⟨w.heap.size, 0, none⟩, .float .f32 x0), (⟨w.heap.size, 1, none⟩, .float .f32 x1), (⟨w.heap.size, 2, none⟩, .float .f32 x2), (⟨w.heap.size, 3, none⟩, .float .f32 x3), (⟨w.heap.size, 4, none⟩, .float .f32 x4), (⟨w.heap.size, 5, none⟩, .float .f32 x5), (⟨w.heap.size, 6, none⟩, .float .f32 x6), (⟨w.heap.size, 7, none⟩, .float .f32 x7), (⟨w.heap.size, 8, none⟩, .float .f32 x8), (⟨w.heap.size, 9, none⟩, .float .f32 x9), (⟨(w.heap.size + 1), 0, none⟩, .float .f32 y0), (⟨(w.heap.size + 1), 1, none⟩, .float .f32 y1), (⟨(w.heap.size + 1), 2, none⟩, .float .f32 y2), (⟨b, 0, none⟩, .float .f32 r0_0), (⟨b, 1, none⟩, .float .f32 r0_1), (⟨b, 2, none⟩, .float .f32 r0_2)] (fun f args v => if f = 49 then TVRateOfTop x0 x1 x2 x3 x4 x5 x6 x7 x8 x9 y0 y1 y2 v else v = args.getD 0 undef) [(8, .new 7 3), (9, .put 7 23)] (by kernel_rfl) (by kernel_rfl) (by kernel_rfl) ⟨⟨by simp [Held, go_sem, *], by (repeat (first | assumption | (with_reducible exact Below.refl _ _) | (with_reducible refine Below.drewN ?_ _) | (with_reducible refine Below.drew ?_) | (with_reducible refine Below.allocS ?_ _) | ((with_reducible refine Below.setCell ?_ ?_ _); rotate_left; focus (first | omega | (simp; done) | (simp; omega))) | (with_reducible refine Below.step ?_ (by assumption))))⟩, by (first | (simp; done) | (simp; omega) | omega)⟩ ?_
  repeat (first | (refine calmA_plain rfl rfl ?_ (fun K hK w1 hC => ?_); (focus (intro _ _; simp [RA]; done)); have hC' := hC.1.1; simp only [Held, and_true] at hC'; go_wp2_with (first | (refine wpList_fbin rfl rfl rfl rfl rfl (fun r n hr => ?_)) | (refine wpList_widen rfl rfl Try.underlying34 Try.underlying22 rfl (fun r n hr => ?_))); refine ⟨rfl, (by first | exact Below.refl _ _ | exact below_drewN _), hK _ ?_⟩; clear hC hC' hK K w1) | (refine calmA_check rfl rfl rfl ?_ ?_; (focus (intro _ _; simp [RA]; done))))
  refine calmA_call (f := 23) (args := _) rfl ?_ (by (intro w1; simp [execOp, resolve, invoke, go_sem]; with_reducible rfl)) (fun w1 hC => ?_) ?_
  · (intro _ _; simp [RA]; done)
  · refine (toTop_any _ _ _ _ _ _ _ _ _ _ _).mono ?_
    rintro e w2 ⟨rfl, hb⟩
    exact ⟨_, rfl, by simp, hb⟩
  rintro v hv
  simp at hv
  subst hv
  repeat (first | (refine calmA_plain rfl rfl ?_ (fun K hK w1 hC => ?_); (focus (intro _ _; simp [RA]; done)); have hC' := hC.1.1; simp only [Held, and_true] at hC'; go_wp2_with (first | (refine wpList_fbin rfl rfl rfl rfl rfl (fun r n hr => ?_)) | (refine wpList_widen rfl rfl Try.underlying34 Try.underlying22 rfl (fun r n hr => ?_))); refine ⟨rfl, (by first | exact Below.refl _ _ | exact below_drewN _), hK _ ?_⟩; clear hC hC' hK K w1) | (refine calmA_check rfl rfl rfl ?_ ?_; (focus (intro _ _; simp [RA]; done))))
  refine calmA_call (f := 48) (args := _) rfl ?_ (by (intro w1; simp [execOp, resolve, invoke, go_sem]; with_reducible rfl)) (fun w1 hC => ?_) ?_
  · (intro _ _; simp [RA]; done)
  · refine (toVector_any _ _ _ _).mono ?_
    rintro e w2 ⟨rfl, hb⟩
    exact ⟨_, rfl, by simp, hb⟩
  rintro v hv
  simp at hv
  subst hv
  repeat (first | (refine calmA_plain rfl rfl ?_ (fun K hK w1 hC => ?_); (focus (intro _ _; simp [RA]; done)); have hC' := hC.1.1; simp only [Held, and_true] at hC'; go_wp2_with (first | (refine wpList_fbin rfl rfl rfl rfl rfl (fun r n hr => ?_)) | (refine wpList_widen rfl rfl Try.underlying34 Try.underlying22 rfl (fun r n hr => ?_))); refine ⟨rfl, (by first | exact Below.refl _ _ | exact below_drewN _), hK _ ?_⟩; clear hC hC' hK K w1) | (refine calmA_check rfl rfl rfl ?_ ?_; (focus (intro _ _; simp [RA]; done))))
  refine calmA_call (f := 49) (args := _) rfl ?_ (by (intro w1; simp [execOp, resolve, invoke, go_sem]; with_reducible rfl)) (fun w1 hC => ?_) ?_
  · (intro _ _; simp [RA]; done)
  · refine (implRateOfTop_any x0 x1 x2 x3 x4 x5 x6 x7 x8 x9 y0 y1 y2 _).mono ?_
    rintro e w2 hp
    obtain ⟨v, he, hT, hb⟩ := tv_RateOfTop hp
    exact ⟨v, he, by simp; exact hT, hb⟩
  rintro v hv
  simp at hv
  unfold TVRateOfTop at hv
  obtain ⟨r1_0, r1_1, r1_2, rfl, ⟨q1_0, q1_1, q1_2⟩⟩ := hv
  have Hq1_0 := Lib.hid q1_0
  clear q1_0
  have Hq1_1 := Lib.hid q1_1
  clear q1_1
  have Hq1_2 := Lib.hid q1_2
  clear q1_2
  repeat (first | (refine calmA_plain rfl rfl ?_ (fun K hK w1 hC => ?_); (focus (intro _ _; simp [RA]; done)); have hC' := hC.1.1; simp only [Held, and_true] at hC'; go_wp2_with (first | (refine wpList_fbin rfl rfl rfl rfl rfl (fun r n hr => ?_)) | (refine wpList_widen rfl rfl Try.underlying34 Try.underlying22 rfl (fun r n hr => ?_))); refine ⟨rfl, (by first | exact Below.refl _ _ | exact below_drewN _), hK _ ?_⟩; clear hC hC' hK K w1) | (refine calmA_check rfl rfl rfl ?_ ?_; (focus (intro _ _; simp [RA]; done))))
  refine calmA_alloc (n := 3) (zs := #[.float .f32 0, .float .f32 0, .float .f32 0]) (t := 43) rfl rfl ?_ ?_ ?_ ?_ (fun b hb => ?_)
  · simp
  · intro a w h; simp [RA]; exact h
  · intro w; simp [execOp, go_sem]; done
  · rfl
  refine calmA_store (ia := 8) (n := 3) rfl rfl rfl rfl hb rfl ?_ ?_ ?_ ?_ ?_ ?_ ?_ ?_ ?_ ?_
  · kernel_rfl
  · intro a w h; simp [RA] at h; exact h
  · rfl
  · rfl
  · simp [Value.oneCell']
  · intro a w h; simp [RA]; exact h
  · (first | (simp; done) | (simp; omega) | (simp [*]; done) | (simp [*]; omega))
  · (first | omega | (simp [*]; done) | (simp [*]; omega))
  · rfl
  repeat (first | (refine calmA_plain rfl rfl ?_ (fun K hK w1 hC => ?_); (focus (intro _ _; simp [RA]; done)); have hC' := hC.1.1; simp only [Held, and_true] at hC'; go_wp2_with (first | (refine wpList_fbin rfl rfl rfl rfl rfl (fun r n hr => ?_)) | (refine wpList_widen rfl rfl Try.underlying34 Try.underlying22 rfl (fun r n hr => ?_))); refine ⟨rfl, (by first | exact Below.refl _ _ | exact below_drewN _), hK _ ?_⟩; clear hC hC' hK K w1) | (refine calmA_check rfl rfl rfl ?_ ?_; (focus (intro _ _; simp [RA]; done))))
  refine calmA_nil ?_
  intro w' hC hF
  have hC' := hC.1.1
  simp only [Held, and_true] at hC'
  obtain ⟨b', vs', e1, e2, hN, hS⟩ := RA_get hF (i := 9) (f := .put 7 23) (by simp) (by simp)
  simp [Act.put, Act.eval] at e1 e2
  subst e1 e2
  simp [Held, cellsAt] at hS
  go_wp2_with fail
  refine (eqVector_any _ _ _ _ _ _ _ (Hq1_0.out.trans Hq0_0.out.symm) (Hq1_1.out.trans Hq0_1.out.symm) (Hq1_2.out.trans Hq0_2.out.symm)).mono ?_
  rintro e w9 ⟨rfl, hb⟩
  go_wp2
  go_ret
  refine ⟨rfl, ?_⟩
  (try have hB := hC.1.2)
  (repeat (first | assumption | (with_reducible exact Below.refl _ _) | (with_reducible refine Below.drewN ?_ _) | (with_reducible refine Below.drew ?_) | (with_reducible refine Below.allocS ?_ _) | ((with_reducible refine Below.setCell ?_ ?_ _); rotate_left; focus (first | omega | (simp; done) | (simp; omega))) | (with_reducible refine Below.step ?_ (by assumption))))

def innerV (a0 a1 a2 b0 b1 b2 : Nat) : Nat := fbin .add .f32 (fbin .add .f32 (mulC a0 b0) (mulC a1 b1)) (mulC a2 b2)
def enQ (x0 x1 x2 x7 x8 x9 : Nat) : Nat := fbin .mul .f32 (cn .f32 1056964608) (fbin .add .f32 (fbin .add .f32 (fbin .mul .f32 (mulC x0 x7) (cn .f32 x7)) (fbin .mul .f32 (mulC x1 x8) (cn .f32 x8))) (fbin .mul .f32 (mulC x2 x9) (cn .f32 x9)))
set_option maxRecDepth 100000 in
set_option maxHeartbeats 4000000 in
theorem l01Inner_any (a0 a1 a2 b0 b1 b2 : Nat) (w : World) : Calls Try.prog 75 #[.agg #[.float .f32 a0, .float .f32 a1, .float .f32 a2], .agg #[.float .f32 b0, .float .f32 b1, .float .f32 b2]] w (BF .f32 (innerV a0 a1 a2 b0 b1 b2) w) := by
  go_enter Try.func75, Try.ntmps75
  go_wp2_with (first | (refine wpList_fbin rfl rfl rfl rfl rfl (fun r n hr => ?_)))
  go_ret
  refine ⟨_, rfl, ?_, ?_⟩
  · unfold innerV mulC
    simp only [Hid] at *
    simp only [*]
  · (repeat (first | (with_reducible exact Below.refl _ _) | (with_reducible refine Below.drewN ?_ _) | (with_reducible refine Below.drew ?_) | (with_reducible refine Below.allocS ?_ _) | ((with_reducible refine Below.setCell ?_ ?_ _); rotate_left; focus (first | omega | (simp; done) | (simp; omega))) | (with_reducible refine Below.step ?_ (by assumption))))

set_option maxRecDepth 100000 in
set_option maxHeartbeats 4000000 in
theorem InnerOf_any (a0 a1 a2 b0 b1 b2 : Nat) (w : World) : Calls Try.prog 77 #[.agg #[.float .f32 a0, .float .f32 a1, .float .f32 a2], .agg #[.float .f32 b0, .float .f32 b1, .float .f32 b2]] w (BF .f32 (innerV a0 a1 a2 b0 b1 b2) w) := by
  go_enter Try.func77, Try.ntmps77
  go_wp2_with (first | (refine wpList_fbin rfl rfl rfl rfl rfl (fun r n hr => ?_)))
  go_ret
  refine ⟨_, rfl, ?_, ?_⟩
  · unfold innerV mulC
    simp only [Hid] at *
    simp only [*]
  · (repeat (first | (with_reducible exact Below.refl _ _) | (with_reducible refine Below.drewN ?_ _) | (with_reducible refine Below.drew ?_) | (with_reducible refine Below.allocS ?_ _) | ((with_reducible refine Below.setCell ?_ ?_ _); rotate_left; focus (first | omega | (simp; done) | (simp; omega))) | (with_reducible refine Below.step ?_ (by assumption))))

set_option maxRecDepth 100000 in
set_option maxHeartbeats 4000000 in
theorem specEnergyOfTop_any (x0 x1 x2 x3 x4 x5 x6 x7 x8 x9 : Nat) (w : World) : Calls Try.prog 35 #[.agg #[.float .f32 x0, .float .f32 x1, .float .f32 x2, .float .f32 x3, .float .f32 x4, .float .f32 x5, .float .f32 x6, .float .f32 x7, .float .f32 x8, .float .f32 x9]] w (PF (condF (topB x0 x1 x2 x3 x4 x5 x6 x7 x8 x9 && finB .f32 (enQ x0 x1 x2 x7 x8 x9)) (enQ x0 x1 x2 x7 x8 x9)) (topB x0 x1 x2 x3 x4 x5 x6 x7 x8 x9 && finB .f32 (enQ x0 x1 x2 x7 x8 x9)) w) := by
  have hh : Hid (∀ x, fbin .quo .f32 x (cn .f32 1073741824) = fbin .mul .f32 (cn .f32 1056964608) x) := half_cn
  cases h1 : topB x0 x1 x2 x3 x4 x5 x6 x7 x8 x9
  · go_enter Try.func35, Try.ntmps35
    go_wp2_with (first | (go_at_call 69; refine (l04Is_any x0 x1 x2 x3 x4 x5 x6 x7 x8 x9 _ _ ?_ ?_ ?_ ?_ ?_ ?_ ?_ ?_ ?_ ?_).mono ?_; (focus (simp [go_sem]; done)); (focus (simp [go_sem]; done)); (focus (simp [go_sem]; done)); (focus (simp [go_sem]; done)); (focus (simp [go_sem]; done)); (focus (simp [go_sem]; done)); (focus (simp [go_sem]; done)); (focus (simp [go_sem]; done)); (focus (simp [go_sem]; done)); (focus (simp [go_sem]; done)); rintro e w1 ⟨rfl, hb⟩; have hk := Held.below hb (l := [(⟨w.heap.size, 0, none⟩, .float .f32 x0), (⟨w.heap.size, 1, none⟩, .float .f32 x1), (⟨w.heap.size, 2, none⟩, .float .f32 x2), (⟨w.heap.size, 3, none⟩, .float .f32 x3), (⟨w.heap.size, 4, none⟩, .float .f32 x4), (⟨w.heap.size, 5, none⟩, .float .f32 x5), (⟨w.heap.size, 6, none⟩, .float .f32 x6), (⟨w.heap.size, 7, none⟩, .float .f32 x7), (⟨w.heap.size, 8, none⟩, .float .f32 x8), (⟨w.heap.size, 9, none⟩, .float .f32 x9)]) (by simp [Held, go_sem, *]); simp only [Held, and_true] at hk))
    go_ret2
    refine pf_none (by simp) ?_
    (repeat (first | (with_reducible exact Below.refl _ _) | (with_reducible refine Below.drewN ?_ _) | (with_reducible refine Below.drew ?_) | (with_reducible refine Below.allocS ?_ _) | ((with_reducible refine Below.setCell ?_ ?_ _); rotate_left; focus (first | omega | (simp; done) | (simp; omega))) | (with_reducible refine Below.step ?_ (by assumption))))
  · go_enter Try.func35, Try.ntmps35
    go_wp2_with (first | (go_at_call 69; refine (l04Is_any x0 x1 x2 x3 x4 x5 x6 x7 x8 x9 _ _ ?_ ?_ ?_ ?_ ?_ ?_ ?_ ?_ ?_ ?_).mono ?_; (focus (simp [go_sem]; done)); (focus (simp [go_sem]; done)); (focus (simp [go_sem]; done)); (focus (simp [go_sem]; done)); (focus (simp [go_sem]; done)); (focus (simp [go_sem]; done)); (focus (simp [go_sem]; done)); (focus (simp [go_sem]; done)); (focus (simp [go_sem]; done)); (focus (simp [go_sem]; done)); rintro e w1 ⟨rfl, hb⟩; have hk := Held.below hb (l := [(⟨w.heap.size, 0, none⟩, .float .f32 x0), (⟨w.heap.size, 1, none⟩, .float .f32 x1), (⟨w.heap.size, 2, none⟩, .float .f32 x2), (⟨w.heap.size, 3, none⟩, .float .f32 x3), (⟨w.heap.size, 4, none⟩, .float .f32 x4), (⟨w.heap.size, 5, none⟩, .float .f32 x5), (⟨w.heap.size, 6, none⟩, .float .f32 x6), (⟨w.heap.size, 7, none⟩, .float .f32 x7), (⟨w.heap.size, 8, none⟩, .float .f32 x8), (⟨w.heap.size, 9, none⟩, .float .f32 x9)]) (by simp [Held, go_sem, *]); simp only [Held, and_true] at hk))
    refine region_calmA w (w1.heap.size) [(⟨w.heap.size, 0, none⟩, .float .f32 x0), (⟨w.heap.size, 1, none⟩, .float .f32 x1), (⟨w.heap.size, 2, none⟩, .float .f32 x2), (⟨w.heap.size, 3, none⟩, .float .f32 x3), (⟨w.heap.size, 4, none⟩, .float .f32 x4), (⟨w.heap.size, 5, none⟩, .float .f32 x5), (⟨w.heap.size, 6, none⟩, .float .f32 x6), (⟨w.heap.size, 7, none⟩, .float .f32 x7), (⟨w.heap.size, 8, none⟩, .float .f32 x8), (⟨w.heap.size, 9, none⟩, .float .f32 x9)] (fun f args v => if f = 76 then (∃ r0 r1 r2, v = .agg #[.float .f32 r0, .float .f32 r1, .float .f32 r2] ∧ (cn .f32 r0 = mulC x0 x7 ∧ cn .f32 r1 = mulC x1 x8 ∧ cn .f32 r2 = mulC x2 x9)) else if f = 75 then (∃ r, v = .float .f32 r ∧ cn .f32 r = innerV (argF args 0 0) (argF args 0 1) (argF args 0 2) (argF args 1 0) (argF args 1 1) (argF args 1 2)) else v = .tuple #[.float .f32 (toldF (argF args 0 0)), .bool (finB .f32 (argF args 0 0))]) [] (by kernel_rfl) (by kernel_rfl) (by kernel_rfl) ⟨⟨by simp [Held, go_sem, *], by (repeat (first | (with_reducible exact Below.refl _ _) | (with_reducible refine Below.drewN ?_ _) | (with_reducible refine Below.drew ?_) | (with_reducible refine Below.allocS ?_ _) | ((with_reducible refine Below.setCell ?_ ?_ _); rotate_left; focus (first | omega | (simp; done) | (simp; omega))) | (with_reducible refine Below.step ?_ (by assumption))))⟩, by (first | (simp; done) | (simp; omega) | omega)⟩ ?_
    repeat (first | (first | (refine calmA_plain rfl rfl ?_ (fun K hK w1 hC => ?_); (focus (intro _ _; simp [RA]; done)); have hC' := hC.1.1; simp only [Held, and_true] at hC'; go_wp2_with (first | (refine wpList_fbin rfl rfl rfl rfl rfl (fun r n hr => ?_)) | (refine wpList_widen rfl rfl Try.underlying34 Try.underlying22 rfl (fun r n hr => ?_))); refine ⟨rfl, (by first | exact Below.refl _ _ | exact below_drewN _), hK _ ?_⟩; clear hC hC' hK K w1) | (refine calmA_check rfl rfl rfl ?_ ?_; (focus (intro _ _; simp [RA]; done)))) | (refine calmA_call (f := 76) (args := _) rfl ?_ (by (intro w1; simp [execOp, resolve, invoke, go_sem]; with_reducible rfl)) (fun w1 hC => ?_) ?_; (focus (intro _ _; simp [RA]; done)); (focus (have hC' := hC.1.1; simp only [Held, and_true] at hC'; refine (l04Inner_any x0 x1 x2 x3 x4 x5 x6 x7 x8 x9 _ _ ?_).mono ?_; (focus (simp [Held, *]; done)); rintro e w2 ⟨r0, r1, r2, he, hq, hb⟩; exact ⟨_, he, by simp; exact ⟨_, _, _, ⟨rfl, rfl, rfl⟩, hq⟩, hb⟩)); rintro v hv; simp at hv; obtain ⟨r0, r1, r2, rfl, hq⟩ := hv; have HQ := Lib.hid hq; clear hq) | (refine calmA_call (f := 75) (args := _) rfl ?_ (by (intro w1; simp [execOp, resolve, invoke, go_sem]; with_reducible rfl)) (fun w1 hC => ?_) ?_; (focus (intro _ _; simp [RA]; done)); (focus (refine (l01Inner_any _ _ _ _ _ _ _).mono ?_; rintro e w2 ⟨r, he, hq, hb⟩; exact ⟨_, he, by simp [argF]; exact hq, hb⟩)); rintro v hv; simp at hv; obtain ⟨r, rfl, hq⟩ := hv; have HI := Lib.hid hq; simp [argF] at HI; clear hq) | (refine calmA_call (f := 70) (args := _) rfl ?_ (by (intro w1; simp [execOp, resolve, invoke, go_sem]; with_reducible rfl)) (fun w1 hC => ?_) ?_; (focus (intro _ _; simp [RA]; done)); (focus (refine (l02Number_any _ _).mono ?_; rintro e w2 ⟨n, he, rfl⟩; exact ⟨_, he, by simp [argF], below_drewN _⟩)); rintro v hv; simp [argF] at hv; subst hv))
    refine calmA_nil ?_
    intro w' hC hF
    have hC' := hC.1.1
    simp only [Held, and_true] at hC'
    go_wp2_with fail
    go_ret2
    refine pf_told (Q := enQ x0 x1 x2 x7 x8 x9) ?_ (by simp) ?_
    · unfold enQ mulC
      unfold innerV mulC at HI
      simp only [Hid] at *
      simp only [*]
      try simp only [mulC]
    · (have hB := hC.1.2; (repeat (first | assumption | (with_reducible exact Below.refl _ _) | (with_reducible refine Below.drewN ?_ _) | (with_reducible refine Below.drew ?_) | (with_reducible refine Below.allocS ?_ _) | ((with_reducible refine Below.setCell ?_ ?_ _); rotate_left; focus (first | omega | (simp; done) | (simp; omega))) | (with_reducible refine Below.step ?_ (by assumption)))))

set_option maxRecDepth 100000 in
set_option maxHeartbeats 4000000 in
theorem implEnergyOfTop_any (x0 x1 x2 x3 x4 x5 x6 x7 x8 x9 : Nat) (w : World) : Calls Try.prog 36 #[.agg #[.float .f32 x0, .float .f32 x1, .float .f32 x2, .float .f32 x3, .float .f32 x4, .float .f32 x5, .float .f32 x6, .float .f32 x7, .float .f32 x8, .float .f32 x9]] w (PF (condF (topB x0 x1 x2 x3 x4 x5 x6 x7 x8 x9 && finB .f32 (enQ x0 x1 x2 x7 x8 x9)) (enQ x0 x1 x2 x7 x8 x9)) (topB x0 x1 x2 x3 x4 x5 x6 x7 x8 x9 && finB .f32 (enQ x0 x1 x2 x7 x8 x9)) w) := by
  have hh : Hid (∀ x, fbin .quo .f32 x (cn .f32 1073741824) = fbin .mul .f32 (cn .f32 1056964608) x) := half_cn
  cases h1 : topB x0 x1 x2 x3 x4 x5 x6 x7 x8 x9
  · go_enter Try.func36, Try.ntmps36
    go_wp2_with (first | (go_at_call 71; refine (implValidTop_any x0 x1 x2 x3 x4 x5 x6 x7 x8 x9 _).mono ?_; rintro e w1 ⟨rfl, hb⟩; have hk := Held.below hb (l := [(⟨w.heap.size, 0, none⟩, .float .f32 x0), (⟨w.heap.size, 1, none⟩, .float .f32 x1), (⟨w.heap.size, 2, none⟩, .float .f32 x2), (⟨w.heap.size, 3, none⟩, .float .f32 x3), (⟨w.heap.size, 4, none⟩, .float .f32 x4), (⟨w.heap.size, 5, none⟩, .float .f32 x5), (⟨w.heap.size, 6, none⟩, .float .f32 x6), (⟨w.heap.size, 7, none⟩, .float .f32 x7), (⟨w.heap.size, 8, none⟩, .float .f32 x8), (⟨w.heap.size, 9, none⟩, .float .f32 x9)]) (by simp [Held, go_sem, *]); simp only [Held, and_true] at hk))
    go_ret2
    refine pf_none (by simp) ?_
    (repeat (first | (with_reducible exact Below.refl _ _) | (with_reducible refine Below.drewN ?_ _) | (with_reducible refine Below.drew ?_) | (with_reducible refine Below.allocS ?_ _) | ((with_reducible refine Below.setCell ?_ ?_ _); rotate_left; focus (first | omega | (simp; done) | (simp; omega))) | (with_reducible refine Below.step ?_ (by assumption))))
  · go_enter Try.func36, Try.ntmps36
    go_wp2_with (first | (go_at_call 71; refine (implValidTop_any x0 x1 x2 x3 x4 x5 x6 x7 x8 x9 _).mono ?_; rintro e w1 ⟨rfl, hb⟩; have hk := Held.below hb (l := [(⟨w.heap.size, 0, none⟩, .float .f32 x0), (⟨w.heap.size, 1, none⟩, .float .f32 x1), (⟨w.heap.size, 2, none⟩, .float .f32 x2), (⟨w.heap.size, 3, none⟩, .float .f32 x3), (⟨w.heap.size, 4, none⟩, .float .f32 x4), (⟨w.heap.size, 5, none⟩, .float .f32 x5), (⟨w.heap.size, 6, none⟩, .float .f32 x6), (⟨w.heap.size, 7, none⟩, .float .f32 x7), (⟨w.heap.size, 8, none⟩, .float .f32 x8), (⟨w.heap.size, 9, none⟩, .float .f32 x9)]) (by simp [Held, go_sem, *]); simp only [Held, and_true] at hk))
    refine region_calmA w (w1.heap.size) [(⟨w.heap.size, 0, none⟩, .float .f32 x0), (⟨w.heap.size, 1, none⟩, .float .f32 x1), (⟨w.heap.size, 2, none⟩, .float .f32 x2), (⟨w.heap.size, 3, none⟩, .float .f32 x3), (⟨w.heap.size, 4, none⟩, .float .f32 x4), (⟨w.heap.size, 5, none⟩, .float .f32 x5), (⟨w.heap.size, 6, none⟩, .float .f32 x6), (⟨w.heap.size, 7, none⟩, .float .f32 x7), (⟨w.heap.size, 8, none⟩, .float .f32 x8), (⟨w.heap.size, 9, none⟩, .float .f32 x9)] (fun f args v => if f = 78 then (∃ r0 r1 r2, v = .agg #[.float .f32 r0, .float .f32 r1, .float .f32 r2] ∧ (cn .f32 r0 = mulC x0 x7 ∧ cn .f32 r1 = mulC x1 x8 ∧ cn .f32 r2 = mulC x2 x9)) else if f = 77 then (∃ r, v = .float .f32 r ∧ cn .f32 r = innerV (argF args 0 0) (argF args 0 1) (argF args 0 2) (argF args 1 0) (argF args 1 1) (argF args 1 2)) else v = .tuple #[.float .f32 (toldF (argF args 0 0)), .bool (finB .f32 (argF args 0 0))]) [] (by kernel_rfl) (by kernel_rfl) (by kernel_rfl) ⟨⟨by simp [Held, go_sem, *], by (repeat (first | (with_reducible exact Below.refl _ _) | (with_reducible refine Below.drewN ?_ _) | (with_reducible refine Below.drew ?_) | (with_reducible refine Below.allocS ?_ _) | ((with_reducible refine Below.setCell ?_ ?_ _); rotate_left; focus (first | omega | (simp; done) | (simp; omega))) | (with_reducible refine Below.step ?_ (by assumption))))⟩, by (first | (simp; done) | (simp; omega) | omega)⟩ ?_
    repeat (first | (first | (refine calmA_plain rfl rfl ?_ (fun K hK w1 hC => ?_); (focus (intro _ _; simp [RA]; done)); have hC' := hC.1.1; simp only [Held, and_true] at hC'; go_wp2_with (first | (refine wpList_fbin rfl rfl rfl rfl rfl (fun r n hr => ?_)) | (refine wpList_widen rfl rfl Try.underlying34 Try.underlying22 rfl (fun r n hr => ?_))); refine ⟨rfl, (by first | exact Below.refl _ _ | exact below_drewN _), hK _ ?_⟩; clear hC hC' hK K w1) | (refine calmA_check rfl rfl rfl ?_ ?_; (focus (intro _ _; simp [RA]; done)))) | (refine calmA_call (f := 78) (args := _) rfl ?_ (by (intro w1; simp [execOp, resolve, invoke, go_sem]; with_reducible rfl)) (fun w1 hC => ?_) ?_; (focus (intro _ _; simp [RA]; done)); (focus (have hC' := hC.1.1; simp only [Held, and_true] at hC'; refine (inside_any x0 x1 x2 x3 x4 x5 x6 x7 x8 x9 _ _ ?_).mono ?_; (focus (simp [Held, *]; done)); rintro e w2 ⟨r0, r1, r2, he, hq, hb⟩; exact ⟨_, he, by simp; exact ⟨_, _, _, ⟨rfl, rfl, rfl⟩, hq⟩, hb⟩)); rintro v hv; simp at hv; obtain ⟨r0, r1, r2, rfl, hq⟩ := hv; have HQ := Lib.hid hq; clear hq) | (refine calmA_call (f := 77) (args := _) rfl ?_ (by (intro w1; simp [execOp, resolve, invoke, go_sem]; with_reducible rfl)) (fun w1 hC => ?_) ?_; (focus (intro _ _; simp [RA]; done)); (focus (refine (InnerOf_any _ _ _ _ _ _ _).mono ?_; rintro e w2 ⟨r, he, hq, hb⟩; exact ⟨_, he, by simp [argF]; exact hq, hb⟩)); rintro v hv; simp at hv; obtain ⟨r, rfl, hq⟩ := hv; have HI := Lib.hid hq; simp [argF] at HI; clear hq) | (refine calmA_call (f := 59) (args := _) rfl ?_ (by (intro w1; simp [execOp, resolve, invoke, go_sem]; with_reducible rfl)) (fun w1 hC => ?_) ?_; (focus (intro _ _; simp [RA]; done)); (focus (refine (toldNumber_any _ _).mono ?_; rintro e w2 ⟨n, he, rfl⟩; exact ⟨_, he, by simp [argF], below_drewN _⟩)); rintro v hv; simp [argF] at hv; subst hv))
    refine calmA_nil ?_
    intro w' hC hF
    have hC' := hC.1.1
    simp only [Held, and_true] at hC'
    go_wp2_with fail
    go_ret2
    refine pf_told (Q := enQ x0 x1 x2 x7 x8 x9) ?_ (by simp) ?_
    · unfold enQ mulC
      unfold innerV mulC at HI
      simp only [Hid] at *
      simp only [*]
      try simp only [mulC]
    · (have hB := hC.1.2; (repeat (first | assumption | (with_reducible exact Below.refl _ _) | (with_reducible refine Below.drewN ?_ _) | (with_reducible refine Below.drew ?_) | (with_reducible refine Below.allocS ?_ _) | ((with_reducible refine Below.setCell ?_ ?_ _); rotate_left; focus (first | omega | (simp; done) | (simp; omega))) | (with_reducible refine Below.step ?_ (by assumption)))))

set_option maxRecDepth 100000 in
set_option maxHeartbeats 4000000 in
theorem lawEnergyOfTop_walk (x0 x1 x2 x3 x4 x5 x6 x7 x8 x9 : Nat) (_ : x0 < 4294967296) (_ : x1 < 4294967296) (_ : x2 < 4294967296) (_ : x3 < 4294967296) (_ : x4 < 4294967296) (_ : x5 < 4294967296) (_ : x6 < 4294967296) (_ : x7 < 4294967296) (_ : x8 < 4294967296) (_ : x9 < 4294967296) (w : World) : Calls Try.prog 9 #[.agg #[.float .f32 x0, .float .f32 x1, .float .f32 x2, .float .f32 x3, .float .f32 x4, .float .f32 x5, .float .f32 x6, .float .f32 x7, .float .f32 x8, .float .f32 x9]] w fun e w' => e = .returned (.bool true) ∧ Below w.heap.size w w' := by
  go_enter Try.func9, Try.ntmps9
  go_wp2_with fail
  refine (toTop_any x0 x1 x2 x3 x4 x5 x6 x7 x8 x9 _).mono ?_
  rintro e w0 ⟨rfl, hb⟩
  have hk := Held.below hb (l := [(⟨w.heap.size, 0, none⟩, .float .f32 x0), (⟨w.heap.size, 1, none⟩, .float .f32 x1), (⟨w.heap.size, 2, none⟩, .float .f32 x2), (⟨w.heap.size, 3, none⟩, .float .f32 x3), (⟨w.heap.size, 4, none⟩, .float .f32 x4), (⟨w.heap.size, 5, none⟩, .float .f32 x5), (⟨w.heap.size, 6, none⟩, .float .f32 x6), (⟨w.heap.size, 7, none⟩, .float .f32 x7), (⟨w.heap.size, 8, none⟩, .float .f32 x8), (⟨w.heap.size, 9, none⟩, .float .f32 x9)]) (by simp [Held, go_sem, *])
  simp only [Held, and_true] at hk
  go_wp2_with fail
  refine (specEnergyOfTop_any x0 x1 x2 x3 x4 x5 x6 x7 x8 x9 _).mono ?_
  rintro e w1 ⟨r0_0, rfl, q0_0, hb⟩
  have Hq0_0 := Lib.hid q0_0
  clear q0_0
  have hk := Held.below hb (l := [(⟨w.heap.size, 0, none⟩, .float .f32 x0), (⟨w.heap.size, 1, none⟩, .float .f32 x1), (⟨w.heap.size, 2, none⟩, .float .f32 x2), (⟨w.heap.size, 3, none⟩, .float .f32 x3), (⟨w.heap.size, 4, none⟩, .float .f32 x4), (⟨w.heap.size, 5, none⟩, .float .f32 x5), (⟨w.heap.size, 6, none⟩, .float .f32 x6), (⟨w.heap.size, 7, none⟩, .float .f32 x7), (⟨w.heap.size, 8, none⟩, .float .f32 x8), (⟨w.heap.size, 9, none⟩, .float .f32 x9)]) (by simp [Held, go_sem, *])
  simp only [Held, and_true] at hk
  go_wp2_with fail
  refine (toTop_any x0 x1 x2 x3 x4 x5 x6 x7 x8 x9 _).mono ?_
  rintro e w2 ⟨rfl, hb⟩
  have hk := Held.below hb (l := [(⟨w.heap.size, 0, none⟩, .float .f32 x0), (⟨w.heap.size, 1, none⟩, .float .f32 x1), (⟨w.heap.size, 2, none⟩, .float .f32 x2), (⟨w.heap.size, 3, none⟩, .float .f32 x3), (⟨w.heap.size, 4, none⟩, .float .f32 x4), (⟨w.heap.size, 5, none⟩, .float .f32 x5), (⟨w.heap.size, 6, none⟩, .float .f32 x6), (⟨w.heap.size, 7, none⟩, .float .f32 x7), (⟨w.heap.size, 8, none⟩, .float .f32 x8), (⟨w.heap.size, 9, none⟩, .float .f32 x9)]) (by simp [Held, go_sem, *])
  simp only [Held, and_true] at hk
  go_wp2_with fail
  refine (implEnergyOfTop_any x0 x1 x2 x3 x4 x5 x6 x7 x8 x9 _).mono ?_
  rintro e w3 ⟨r1_0, rfl, q1_0, hb⟩
  have Hq1_0 := Lib.hid q1_0
  clear q1_0
  have hk := Held.below hb (l := [(⟨w.heap.size, 0, none⟩, .float .f32 x0), (⟨w.heap.size, 1, none⟩, .float .f32 x1), (⟨w.heap.size, 2, none⟩, .float .f32 x2), (⟨w.heap.size, 3, none⟩, .float .f32 x3), (⟨w.heap.size, 4, none⟩, .float .f32 x4), (⟨w.heap.size, 5, none⟩, .float .f32 x5), (⟨w.heap.size, 6, none⟩, .float .f32 x6), (⟨w.heap.size, 7, none⟩, .float .f32 x7), (⟨w.heap.size, 8, none⟩, .float .f32 x8), (⟨w.heap.size, 9, none⟩, .float .f32 x9)]) (by simp [Held, go_sem, *])
  simp only [Held, and_true] at hk
  go_wp2_with (first | (refine wpList_widen rfl rfl Try.underlying34 Try.underlying22 rfl (fun r n hr => ?_)) | (go_at_call 21; refine (sameFloat_any _ _ _ (widen_same (Hid.out (by assumption)) (Hid.out (by assumption)) (Hq1_0.out.trans Hq0_0.out.symm))).mono ?_; rintro e w' ⟨n, rfl, rfl⟩))
  go_ret
  refine ⟨rfl, ?_⟩
  (try have hB := hC.1.2)
  (repeat (first | assumption | (with_reducible exact Below.refl _ _) | (with_reducible refine Below.drewN ?_ _) | (with_reducible refine Below.drew ?_) | (with_reducible refine Below.allocS ?_ _) | ((with_reducible refine Below.setCell ?_ ?_ _); rotate_left; focus (first | omega | (simp; done) | (simp; omega))) | (with_reducible refine Below.step ?_ (by assumption))))

end Go.Proofs.Ytciamnnfnbmjpaa
