/-
  The walks of swings' places.
-/
import Derived.Test.YtjfmcmdhkmcpiaaWq
set_option linter.unusedVariables false
set_option linter.unusedSimpArgs false
namespace Go.Proofs.Ytjfmcmdhkmcpiaa
open Go.RowKit

def placeX (x0 s0 : Nat) : Nat := fbin .mul .f32 (cn .f32 x0) (sineQ (cn .f32 s0))
def placeZ (x0 s0 : Nat) : Nat := fneg .f32 (fbin .mul .f32 (cn .f32 x0) (sineQ (fbin .add .f32 (cn .f32 s0) (cn .f32 1048576000))))
set_option maxRecDepth 100000 in
set_option maxHeartbeats 8000000 in
theorem specPlaceOfSwing_any (x0 x1 x2 x3 x4 s0 s1 s2 : Nat) (w : World) : Calls Try.prog 24 #[.agg #[.float .f32 x0, .float .f32 x1, .float .f32 x2, .float .f32 x3, .float .f32 x4], .agg #[.float .f32 s0, .float .f32 s1, .float .f32 s2]] w (VB3 ((pendB x0 x1 x2 x3 x4 && fin3 s0 s1 s2) && fin3 (placeX x0 s0) 0 (placeZ x0 s0)) (placeX x0 s0) 0 (placeZ x0 s0) w) := by
  cases h1 : (pendB x0 x1 x2 x3 x4 && fin3 s0 s1 s2)
  · go_enter Try.func24, Try.ntmps24
    go_wp2_with (first | (go_at_call 65; refine (l02Both_any x0 x1 x2 x3 x4 s0 s1 s2 _ _ _ ?_ ?_).mono ?_; (focus (simp [Held, go_sem]; done)); (focus (simp [Held, go_sem]; done)); rintro e w' ⟨n, rfl, rfl⟩))
    refine bodyPost_ret (v := ?_) (by first | (simp [results, Try.results24, go_sem, *]; rfl) | (simp [results, Try.results24, go_sem, *]; done)) rfl ?_
    refine vb3_none (by simp) ?_
    (repeat (first | assumption | (with_reducible exact Below.refl _ _) | (with_reducible refine Below.drewN ?_ _) | (with_reducible refine Below.drew ?_) | (with_reducible refine Below.allocS ?_ _) | ((with_reducible refine Below.setCell ?_ ?_ _); rotate_left; focus (first | omega | (simp; done) | (simp; omega))) | (with_reducible refine Below.step ?_ (by assumption))))
  · go_enter Try.func24, Try.ntmps24
    go_wp2_with (first | (go_at_call 65; refine (l02Both_any x0 x1 x2 x3 x4 s0 s1 s2 _ _ _ ?_ ?_).mono ?_; (focus (simp [Held, go_sem]; done)); (focus (simp [Held, go_sem]; done)); rintro e w' ⟨n, rfl, rfl⟩))
    refine region_calmA w (w.heap.size + 1 + 1 + 1) [(⟨w.heap.size, 0, none⟩, .float .f32 x0), (⟨w.heap.size, 1, none⟩, .float .f32 x1), (⟨w.heap.size, 2, none⟩, .float .f32 x2), (⟨w.heap.size, 3, none⟩, .float .f32 x3), (⟨w.heap.size, 4, none⟩, .float .f32 x4), (⟨(w.heap.size + 1), 0, none⟩, .float .f32 s0), (⟨(w.heap.size + 1), 1, none⟩, .float .f32 s1), (⟨(w.heap.size + 1), 2, none⟩, .float .f32 s2), (⟨(w.heap.size + 1 + 1), 0, none⟩, .float .f32 0), (⟨(w.heap.size + 1 + 1), 1, none⟩, .float .f32 0), (⟨(w.heap.size + 1 + 1), 2, none⟩, .float .f32 0)] (fun f args v => ∃ r, v = .float .f32 r ∧ cn .f32 r = sineQ (cn .f32 (argF args 0 0))) [(15, .new 6 3), (16, .put 6 24)] (by kernel_rfl) (by kernel_rfl) (by kernel_rfl) ⟨⟨by simp [Held, go_sem, *], by (repeat (first | (with_reducible exact Below.refl _ _) | (with_reducible refine Below.drewN ?_ _) | (with_reducible refine Below.drew ?_) | (with_reducible refine Below.allocS ?_ _) | ((with_reducible refine Below.setCell ?_ ?_ _); rotate_left; focus (first | omega | (simp; done) | (simp; omega))) | (with_reducible refine Below.step ?_ (by assumption))))⟩, by (first | (simp; done) | (simp; omega) | omega)⟩ ?_
    repeat (first | (first | (refine calmA_plain rfl rfl ?_ (fun K hK w1 hC => ?_); (focus (intro _ _; simp [RA]; done)); have hC' := hC.1.1; simp only [Held, and_true] at hC'; go_wp2_with (first | (refine wpList_fbin rfl rfl rfl rfl rfl (fun r n hr => ?_)) | (refine wpList_widen rfl rfl Try.underlying30 Try.underlying22 rfl (fun r n hr => ?_))); refine ⟨rfl, (by first | exact Below.refl _ _ | exact below_drewN _), hK _ ?_⟩; clear hC hC' hK K w1) | (refine calmA_check rfl rfl rfl ?_ ?_; (focus (intro _ _; simp [RA]; done)))) | (refine calmA_call (f := 66) (args := _) rfl ?_ (by (intro w1; simp [execOp, resolve, invoke, go_sem]; with_reducible rfl)) (fun w1 hC => ?_) ?_; (focus (intro _ _; simp [RA]; done)); (focus (refine (l01Sine_any _ _).mono ?_; rintro e w2 ⟨r, n, he, hq, rfl⟩; exact ⟨_, he, ⟨_, rfl, hq⟩, below_drewN _⟩)); rintro v ⟨r, rfl, hq⟩; have HQ := Lib.hid hq; simp [argF] at HQ; clear hq))
    refine calmA_alloc (n := 3) (zs := #[.float .f32 0, .float .f32 0, .float .f32 0]) (t := 39) rfl rfl ?_ ?_ ?_ ?_ (fun b hb => ?_)
    · simp
    · intro a w h; simp [RA]; exact h
    · intro w; simp [execOp, go_sem]; done
    · rfl
    refine calmA_store (ia := 15) (n := 3) rfl rfl rfl rfl hb rfl ?_ ?_ ?_ ?_ ?_ ?_ ?_ ?_ ?_ ?_
    · kernel_rfl
    · intro a w h; simp [RA] at h; exact h
    · rfl
    · rfl
    · simp [Value.oneCell']
    · intro a w h; simp [RA]; exact h
    · (first | (simp; done) | (simp; omega) | (simp [*]; done) | (simp [*]; omega))
    · (first | omega | (simp [*]; done) | (simp [*]; omega))
    · rfl
    refine calmA_nil ?_
    intro w' hC hF
    have hC' := hC.1.1
    simp only [Held, and_true] at hC'
    obtain ⟨b', vs', e1, e2, hN, hS⟩ := RA_get hF (i := 16) (f := .put 6 24) (by simp) (by simp)
    simp [Act.put, Act.eval] at e1 e2
    subst e1 e2
    obtain ⟨y0, y2, hY, hy_y0, hy_y2⟩ : ∃ y0 y2, Held [(⟨b, 0, none⟩, .float .f32 y0), (⟨b, 1, none⟩, .float .f32 0), (⟨b, 2, none⟩, .float .f32 y2)] w' ∧ cn .f32 y0 = placeX x0 s0 ∧ cn .f32 y2 = placeZ x0 s0 := ⟨_, _, hS, by (try unfold placeX); (try unfold placeZ); simp only [Hid] at *; simp only [cn_neg, *], by (try unfold placeX); (try unfold placeZ); simp only [Hid] at *; simp only [cn_neg, *]⟩
    clear hS
    simp only [Held, and_true] at hY
    have HY_y0 := Lib.hid hy_y0
    clear hy_y0
    have HY_y2 := Lib.hid hy_y2
    clear hy_y2
    have HY : cn .f32 y0 = placeX x0 s0 ∧ cn .f32 0 = 0 ∧ cn .f32 y2 = placeZ x0 s0 := ⟨HY_y0.out, cn_zero, HY_y2.out⟩
    have HY' := Lib.hid HY
    clear HY
    go_wp2_with (first | (go_at_call 70; refine (l01VFinite_any y0 0 y2 _).mono ?_; rintro e w1 ⟨rfl, hb⟩; have hk := Held.below hb (l := [(⟨w.heap.size, 0, none⟩, .float .f32 x0), (⟨w.heap.size, 1, none⟩, .float .f32 x1), (⟨w.heap.size, 2, none⟩, .float .f32 x2), (⟨w.heap.size, 3, none⟩, .float .f32 x3), (⟨w.heap.size, 4, none⟩, .float .f32 x4), (⟨(w.heap.size + 1), 0, none⟩, .float .f32 s0), (⟨(w.heap.size + 1), 1, none⟩, .float .f32 s1), (⟨(w.heap.size + 1), 2, none⟩, .float .f32 s2), (⟨(w.heap.size + 1 + 1), 0, none⟩, .float .f32 0), (⟨(w.heap.size + 1 + 1), 1, none⟩, .float .f32 0), (⟨(w.heap.size + 1 + 1), 2, none⟩, .float .f32 0), (⟨b, 0, none⟩, .float .f32 y0), (⟨b, 1, none⟩, .float .f32 0), (⟨b, 2, none⟩, .float .f32 y2)]) (by simp [Held, go_sem, *]); simp only [Held, and_true] at hk))
    all_goals
      refine bodyPost_ret (v := ?_) (by first | (simp [results, Try.results24, go_sem, *]; rfl) | (simp [results, Try.results24, go_sem, *]; done)) rfl ?_
      first
        | ((refine vb3_told HY'.out ?_ ‹(!fin3 _ _ _) = false› ?_); (focus (simp; done)); ((have hB := hC.1.2; (repeat (first | assumption | (with_reducible exact Below.refl _ _) | (with_reducible refine Below.drewN ?_ _) | (with_reducible refine Below.drew ?_) | (with_reducible refine Below.allocS ?_ _) | ((with_reducible refine Below.setCell ?_ ?_ _); rotate_left; focus (first | omega | (simp; done) | (simp; omega))) | (with_reducible refine Below.step ?_ (by assumption))))); done))
        | ((refine vb3_bad HY'.out ?_ ‹(!fin3 _ _ _) = true› ?_); (focus (simp; done)); ((have hB := hC.1.2; (repeat (first | assumption | (with_reducible exact Below.refl _ _) | (with_reducible refine Below.drewN ?_ _) | (with_reducible refine Below.drew ?_) | (with_reducible refine Below.allocS ?_ _) | ((with_reducible refine Below.setCell ?_ ?_ _); rotate_left; focus (first | omega | (simp; done) | (simp; omega))) | (with_reducible refine Below.step ?_ (by assumption))))); done))

set_option maxRecDepth 100000 in
set_option maxHeartbeats 8000000 in
theorem implPlaceOfSwing_any (x0 x1 x2 x3 x4 s0 s1 s2 : Nat) (w : World) : Calls Try.prog 25 #[.agg #[.float .f32 x0, .float .f32 x1, .float .f32 x2, .float .f32 x3, .float .f32 x4], .agg #[.float .f32 s0, .float .f32 s1, .float .f32 s2]] w (VB3 ((pendB x0 x1 x2 x3 x4 && fin3 s0 s1 s2) && fin3 (placeX x0 s0) 0 (placeZ x0 s0)) (placeX x0 s0) 0 (placeZ x0 s0) w) := by
  obtain h1 | ⟨h1, h2⟩ | ⟨h1, h2⟩ : pendB x0 x1 x2 x3 x4 = false ∨ (pendB x0 x1 x2 x3 x4 = true ∧ fin3 s0 s1 s2 = false) ∨ (pendB x0 x1 x2 x3 x4 = true ∧ fin3 s0 s1 s2 = true) := by
    cases pendB x0 x1 x2 x3 x4 <;> cases fin3 s0 s1 s2 <;> simp
  · go_enter Try.func25, Try.ntmps25
    go_wp2_with (first | (go_at_call 71; refine (implValidPendulum_any x0 x1 x2 x3 x4 _).mono ?_; rintro e w1 ⟨rfl, hb⟩; have hk := Held.below hb (l := [(⟨w.heap.size, 0, none⟩, .float .f32 x0), (⟨w.heap.size, 1, none⟩, .float .f32 x1), (⟨w.heap.size, 2, none⟩, .float .f32 x2), (⟨w.heap.size, 3, none⟩, .float .f32 x3), (⟨w.heap.size, 4, none⟩, .float .f32 x4), (⟨(w.heap.size + 1), 0, none⟩, .float .f32 s0), (⟨(w.heap.size + 1), 1, none⟩, .float .f32 s1), (⟨(w.heap.size + 1), 2, none⟩, .float .f32 s2), (⟨(w.heap.size + 1 + 1), 0, none⟩, .float .f32 0), (⟨(w.heap.size + 1 + 1), 1, none⟩, .float .f32 0), (⟨(w.heap.size + 1 + 1), 2, none⟩, .float .f32 0)]) (by simp [Held, go_sem, *]); simp only [Held, and_true] at hk) | (go_at_call 72; refine (implValidSwing_any s0 s1 s2 _).mono ?_; rintro e w2 ⟨rfl, hb⟩; have hk := Held.below hb (l := [(⟨w.heap.size, 0, none⟩, .float .f32 x0), (⟨w.heap.size, 1, none⟩, .float .f32 x1), (⟨w.heap.size, 2, none⟩, .float .f32 x2), (⟨w.heap.size, 3, none⟩, .float .f32 x3), (⟨w.heap.size, 4, none⟩, .float .f32 x4), (⟨(w.heap.size + 1), 0, none⟩, .float .f32 s0), (⟨(w.heap.size + 1), 1, none⟩, .float .f32 s1), (⟨(w.heap.size + 1), 2, none⟩, .float .f32 s2), (⟨(w.heap.size + 1 + 1), 0, none⟩, .float .f32 0), (⟨(w.heap.size + 1 + 1), 1, none⟩, .float .f32 0), (⟨(w.heap.size + 1 + 1), 2, none⟩, .float .f32 0)]) (by simp [Held, go_sem, *]); simp only [Held, and_true] at hk))
    refine bodyPost_ret (v := ?_) (by first | (simp [results, Try.results25, go_sem, *]; rfl) | (simp [results, Try.results25, go_sem, *]; done)) rfl ?_
    refine vb3_none (by simp [h1]) ?_
    (repeat (first | assumption | (with_reducible exact Below.refl _ _) | (with_reducible refine Below.drewN ?_ _) | (with_reducible refine Below.drew ?_) | (with_reducible refine Below.allocS ?_ _) | ((with_reducible refine Below.setCell ?_ ?_ _); rotate_left; focus (first | omega | (simp; done) | (simp; omega))) | (with_reducible refine Below.step ?_ (by assumption))))
  · go_enter Try.func25, Try.ntmps25
    go_wp2_with (first | (go_at_call 71; refine (implValidPendulum_any x0 x1 x2 x3 x4 _).mono ?_; rintro e w1 ⟨rfl, hb⟩; have hk := Held.below hb (l := [(⟨w.heap.size, 0, none⟩, .float .f32 x0), (⟨w.heap.size, 1, none⟩, .float .f32 x1), (⟨w.heap.size, 2, none⟩, .float .f32 x2), (⟨w.heap.size, 3, none⟩, .float .f32 x3), (⟨w.heap.size, 4, none⟩, .float .f32 x4), (⟨(w.heap.size + 1), 0, none⟩, .float .f32 s0), (⟨(w.heap.size + 1), 1, none⟩, .float .f32 s1), (⟨(w.heap.size + 1), 2, none⟩, .float .f32 s2), (⟨(w.heap.size + 1 + 1), 0, none⟩, .float .f32 0), (⟨(w.heap.size + 1 + 1), 1, none⟩, .float .f32 0), (⟨(w.heap.size + 1 + 1), 2, none⟩, .float .f32 0)]) (by simp [Held, go_sem, *]); simp only [Held, and_true] at hk) | (go_at_call 72; refine (implValidSwing_any s0 s1 s2 _).mono ?_; rintro e w2 ⟨rfl, hb⟩; have hk := Held.below hb (l := [(⟨w.heap.size, 0, none⟩, .float .f32 x0), (⟨w.heap.size, 1, none⟩, .float .f32 x1), (⟨w.heap.size, 2, none⟩, .float .f32 x2), (⟨w.heap.size, 3, none⟩, .float .f32 x3), (⟨w.heap.size, 4, none⟩, .float .f32 x4), (⟨(w.heap.size + 1), 0, none⟩, .float .f32 s0), (⟨(w.heap.size + 1), 1, none⟩, .float .f32 s1), (⟨(w.heap.size + 1), 2, none⟩, .float .f32 s2), (⟨(w.heap.size + 1 + 1), 0, none⟩, .float .f32 0), (⟨(w.heap.size + 1 + 1), 1, none⟩, .float .f32 0), (⟨(w.heap.size + 1 + 1), 2, none⟩, .float .f32 0)]) (by simp [Held, go_sem, *]); simp only [Held, and_true] at hk))
    refine bodyPost_ret (v := ?_) (by first | (simp [results, Try.results25, go_sem, *]; rfl) | (simp [results, Try.results25, go_sem, *]; done)) rfl ?_
    refine vb3_none (by simp [h1, h2]) ?_
    (repeat (first | assumption | (with_reducible exact Below.refl _ _) | (with_reducible refine Below.drewN ?_ _) | (with_reducible refine Below.drew ?_) | (with_reducible refine Below.allocS ?_ _) | ((with_reducible refine Below.setCell ?_ ?_ _); rotate_left; focus (first | omega | (simp; done) | (simp; omega))) | (with_reducible refine Below.step ?_ (by assumption))))
  · go_enter Try.func25, Try.ntmps25
    go_wp2_with (first | (go_at_call 71; refine (implValidPendulum_any x0 x1 x2 x3 x4 _).mono ?_; rintro e w1 ⟨rfl, hb⟩; have hk := Held.below hb (l := [(⟨w.heap.size, 0, none⟩, .float .f32 x0), (⟨w.heap.size, 1, none⟩, .float .f32 x1), (⟨w.heap.size, 2, none⟩, .float .f32 x2), (⟨w.heap.size, 3, none⟩, .float .f32 x3), (⟨w.heap.size, 4, none⟩, .float .f32 x4), (⟨(w.heap.size + 1), 0, none⟩, .float .f32 s0), (⟨(w.heap.size + 1), 1, none⟩, .float .f32 s1), (⟨(w.heap.size + 1), 2, none⟩, .float .f32 s2), (⟨(w.heap.size + 1 + 1), 0, none⟩, .float .f32 0), (⟨(w.heap.size + 1 + 1), 1, none⟩, .float .f32 0), (⟨(w.heap.size + 1 + 1), 2, none⟩, .float .f32 0)]) (by simp [Held, go_sem, *]); simp only [Held, and_true] at hk) | (go_at_call 72; refine (implValidSwing_any s0 s1 s2 _).mono ?_; rintro e w2 ⟨rfl, hb⟩; have hk := Held.below hb (l := [(⟨w.heap.size, 0, none⟩, .float .f32 x0), (⟨w.heap.size, 1, none⟩, .float .f32 x1), (⟨w.heap.size, 2, none⟩, .float .f32 x2), (⟨w.heap.size, 3, none⟩, .float .f32 x3), (⟨w.heap.size, 4, none⟩, .float .f32 x4), (⟨(w.heap.size + 1), 0, none⟩, .float .f32 s0), (⟨(w.heap.size + 1), 1, none⟩, .float .f32 s1), (⟨(w.heap.size + 1), 2, none⟩, .float .f32 s2), (⟨(w.heap.size + 1 + 1), 0, none⟩, .float .f32 0), (⟨(w.heap.size + 1 + 1), 1, none⟩, .float .f32 0), (⟨(w.heap.size + 1 + 1), 2, none⟩, .float .f32 0)]) (by simp [Held, go_sem, *]); simp only [Held, and_true] at hk))
    refine region_calmA_tail 18 w (w.heap.size + 1 + 1 + 1) [(⟨w.heap.size, 0, none⟩, .float .f32 x0), (⟨w.heap.size, 1, none⟩, .float .f32 x1), (⟨w.heap.size, 2, none⟩, .float .f32 x2), (⟨w.heap.size, 3, none⟩, .float .f32 x3), (⟨w.heap.size, 4, none⟩, .float .f32 x4), (⟨(w.heap.size + 1), 0, none⟩, .float .f32 s0), (⟨(w.heap.size + 1), 1, none⟩, .float .f32 s1), (⟨(w.heap.size + 1), 2, none⟩, .float .f32 s2), (⟨(w.heap.size + 1 + 1), 0, none⟩, .float .f32 0), (⟨(w.heap.size + 1 + 1), 1, none⟩, .float .f32 0), (⟨(w.heap.size + 1 + 1), 2, none⟩, .float .f32 0)] (fun f args v => (f = 73 ∧ v = .tuple #[.agg #[.float .f32 (condF (fin3 (argF args 0 0) (argF args 0 1) (argF args 0 2)) (argF args 0 0)), .float .f32 (condF (fin3 (argF args 0 0) (argF args 0 1) (argF args 0 2)) (argF args 0 1)), .float .f32 (condF (fin3 (argF args 0 0) (argF args 0 1) (argF args 0 2)) (argF args 0 2))], .bool (fin3 (argF args 0 0) (argF args 0 1) (argF args 0 2))]) ∨ (f = 68 ∧ ∃ r, v = .float .f32 r ∧ cn .f32 r = sineQ (cn .f32 (argF args 0 0)))) [] (by kernel_rfl) (by kernel_rfl) (by kernel_rfl) ⟨⟨by simp [Held, go_sem, *], by (repeat (first | assumption | (with_reducible exact Below.refl _ _) | (with_reducible refine Below.drewN ?_ _) | (with_reducible refine Below.drew ?_) | (with_reducible refine Below.allocS ?_ _) | ((with_reducible refine Below.setCell ?_ ?_ _); rotate_left; focus (first | omega | (simp; done) | (simp; omega))) | (with_reducible refine Below.step ?_ (by assumption))))⟩, by (first | (simp; done) | (simp; omega) | omega)⟩ ?_
    simp only [List.take_succ_cons, List.take_zero, List.drop_succ_cons, List.drop_zero]
    repeat (first | (first | (refine calmA_plain rfl rfl ?_ (fun K hK w1 hC => ?_); (focus (intro _ _; simp [RA]; done)); have hC' := hC.1.1; simp only [Held, and_true] at hC'; go_wp2_with (first | (refine wpList_fbin rfl rfl rfl rfl rfl (fun r n hr => ?_)) | (refine wpList_widen rfl rfl Try.underlying30 Try.underlying22 rfl (fun r n hr => ?_))); refine ⟨rfl, (by first | exact Below.refl _ _ | exact below_drewN _), hK _ ?_⟩; clear hC hC' hK K w1) | (refine calmA_check rfl rfl rfl ?_ ?_; (focus (intro _ _; simp [RA]; done)))) | (refine calmA_call (f := 68) (args := _) rfl ?_ (by (intro w1; simp [execOp, resolve, invoke, go_sem]; with_reducible rfl)) (fun w1 hC => ?_) ?_; (focus (intro _ _; simp [RA]; done)); (focus (refine (SineTurns_any _ _).mono ?_; rintro e w2 ⟨r, n, he, hq, rfl⟩; exact ⟨_, he, .inr ⟨rfl, _, rfl, hq⟩, below_drewN _⟩)); (intro v hv; simp [argF] at hv; obtain ⟨r, rfl, hq⟩ := hv; have HQ := Lib.hid hq; clear hq)) | (refine calmA_call (f := 73) (args := _) rfl ?_ (by (intro w1; simp [execOp, resolve, invoke, go_sem]; with_reducible rfl)) (fun w1 hC => ?_) ?_; (focus (intro _ _; simp [RA]; done)); (focus (refine (toldVector_any _ _ _ _).mono ?_; rintro e w2 ⟨rfl, hb⟩; exact ⟨_, rfl, .inl ⟨rfl, (by simp [argF])⟩, hb⟩)); (intro v hv; simp [argF] at hv; subst hv)))
    refine calmA_nil ?_
    intro w' hC hF
    have hC' := hC.1.1
    simp only [Held, and_true] at hC'
    go_wp2_with fail
    refine bodyPost_ret (v := ?_) (by first | (simp [results, Try.results25, go_sem, *]; rfl) | (simp [results, Try.results25, go_sem, *]; done)) rfl ?_
    refine vb3_of_told' (Q0 := placeX x0 s0) (Q1 := 0) (Q2 := placeZ x0 s0) ⟨?_, cn_zero, ?_⟩ ?_ ?_
    · unfold placeX
      simp only [Hid] at *
      simp only [*]
    · unfold placeZ
      simp only [Hid] at *
      simp only [cn_neg, *]
    · simp [h1, h2]
    · (have hB := hC.1.2; (repeat (first | assumption | (with_reducible exact Below.refl _ _) | (with_reducible refine Below.drewN ?_ _) | (with_reducible refine Below.drew ?_) | (with_reducible refine Below.allocS ?_ _) | ((with_reducible refine Below.setCell ?_ ?_ _); rotate_left; focus (first | omega | (simp; done) | (simp; omega))) | (with_reducible refine Below.step ?_ (by assumption)))))

def TVPlaceOfSwing (x0 x1 x2 x3 x4 y0 y1 y2 : Nat) (v : Value) : Prop := ∃ r0 r1 r2, v = .tuple #[.agg #[.float .f32 r0, .float .f32 r1, .float .f32 r2], .bool ((pendB x0 x1 x2 x3 x4 && fin3 y0 y1 y2) && fin3 (placeX x0 y0) 0 (placeZ x0 y0))] ∧ (cn .f32 r0 = condF ((pendB x0 x1 x2 x3 x4 && fin3 y0 y1 y2) && fin3 (placeX x0 y0) 0 (placeZ x0 y0)) (placeX x0 y0) ∧ cn .f32 r1 = condF ((pendB x0 x1 x2 x3 x4 && fin3 y0 y1 y2) && fin3 (placeX x0 y0) 0 (placeZ x0 y0)) 0 ∧ cn .f32 r2 = condF ((pendB x0 x1 x2 x3 x4 && fin3 y0 y1 y2) && fin3 (placeX x0 y0) 0 (placeZ x0 y0)) (placeZ x0 y0))
theorem tv_PlaceOfSwing {x0 x1 x2 x3 x4 y0 y1 y2 : Nat} {w w' : World} {e : Ending} (h : VB3 ((pendB x0 x1 x2 x3 x4 && fin3 y0 y1 y2) && fin3 (placeX x0 y0) 0 (placeZ x0 y0)) (placeX x0 y0) 0 (placeZ x0 y0) w e w') : ∃ v, e = .returned v ∧ TVPlaceOfSwing x0 x1 x2 x3 x4 y0 y1 y2 v ∧ Below w.heap.size w w' := by
  obtain ⟨r0, r1, r2, he, hq, hb⟩ := h
  exact ⟨_, he, ⟨r0, r1, r2, rfl, hq⟩, hb⟩


set_option maxRecDepth 100000 in
set_option maxHeartbeats 4000000 in
theorem lawPlaceOfSwing_walk (x0 x1 x2 x3 x4 y0 y1 y2 : Nat) (_ : x0 < 4294967296) (_ : x1 < 4294967296) (_ : x2 < 4294967296) (_ : x3 < 4294967296) (_ : x4 < 4294967296) (_ : y0 < 4294967296) (_ : y1 < 4294967296) (_ : y2 < 4294967296) (w : World) : Calls Try.prog 6 #[.agg #[.float .f32 x0, .float .f32 x1, .float .f32 x2, .float .f32 x3, .float .f32 x4], .agg #[.float .f32 y0, .float .f32 y1, .float .f32 y2]] w fun e w' => e = .returned (.bool true) ∧ Below w.heap.size w w' := by
  go_enter Try.func6, Try.ntmps6
  go_wp2_with fail
  refine region_calmA w (w.heap.size + 1 + 1) [(⟨w.heap.size, 0, none⟩, .float .f32 x0), (⟨w.heap.size, 1, none⟩, .float .f32 x1), (⟨w.heap.size, 2, none⟩, .float .f32 x2), (⟨w.heap.size, 3, none⟩, .float .f32 x3), (⟨w.heap.size, 4, none⟩, .float .f32 x4), (⟨(w.heap.size + 1), 0, none⟩, .float .f32 y0), (⟨(w.heap.size + 1), 1, none⟩, .float .f32 y1), (⟨(w.heap.size + 1), 2, none⟩, .float .f32 y2)] (fun f args v => if f = 24 then TVPlaceOfSwing x0 x1 x2 x3 x4 y0 y1 y2 v else v = args.getD 0 undef) [(8, .new 5 3), (9, .put 5 15)] (by kernel_rfl) (by kernel_rfl) (by kernel_rfl) ⟨⟨by simp [Held, go_sem, *], by (repeat (first | assumption | (with_reducible exact Below.refl _ _) | (with_reducible refine Below.drewN ?_ _) | (with_reducible refine Below.drew ?_) | (with_reducible refine Below.allocS ?_ _) | ((with_reducible refine Below.setCell ?_ ?_ _); rotate_left; focus (first | omega | (simp; done) | (simp; omega))) | (with_reducible refine Below.step ?_ (by assumption))))⟩, by (first | (simp; done) | (simp; omega) | omega)⟩ ?_
  repeat (first | (refine calmA_plain rfl rfl ?_ (fun K hK w1 hC => ?_); (focus (intro _ _; simp [RA]; done)); have hC' := hC.1.1; simp only [Held, and_true] at hC'; go_wp2_with (first | (refine wpList_fbin rfl rfl rfl rfl rfl (fun r n hr => ?_)) | (refine wpList_widen rfl rfl Try.underlying30 Try.underlying22 rfl (fun r n hr => ?_))); refine ⟨rfl, (by first | exact Below.refl _ _ | exact below_drewN _), hK _ ?_⟩; clear hC hC' hK K w1) | (refine calmA_check rfl rfl rfl ?_ ?_; (focus (intro _ _; simp [RA]; done))))
  refine calmA_call (f := 16) (args := _) rfl ?_ (by (intro w1; simp [execOp, resolve, invoke, go_sem]; with_reducible rfl)) (fun w1 hC => ?_) ?_
  · (intro _ _; simp [RA]; done)
  · refine (toPendulum_any _ _ _ _ _ _).mono ?_
    rintro e w2 ⟨rfl, hb⟩
    exact ⟨_, rfl, by simp, hb⟩
  rintro v hv
  simp at hv
  subst hv
  repeat (first | (refine calmA_plain rfl rfl ?_ (fun K hK w1 hC => ?_); (focus (intro _ _; simp [RA]; done)); have hC' := hC.1.1; simp only [Held, and_true] at hC'; go_wp2_with (first | (refine wpList_fbin rfl rfl rfl rfl rfl (fun r n hr => ?_)) | (refine wpList_widen rfl rfl Try.underlying30 Try.underlying22 rfl (fun r n hr => ?_))); refine ⟨rfl, (by first | exact Below.refl _ _ | exact below_drewN _), hK _ ?_⟩; clear hC hC' hK K w1) | (refine calmA_check rfl rfl rfl ?_ ?_; (focus (intro _ _; simp [RA]; done))))
  refine calmA_call (f := 22) (args := _) rfl ?_ (by (intro w1; simp [execOp, resolve, invoke, go_sem]; with_reducible rfl)) (fun w1 hC => ?_) ?_
  · (intro _ _; simp [RA]; done)
  · refine (toSwing_any _ _ _ _).mono ?_
    rintro e w2 ⟨rfl, hb⟩
    exact ⟨_, rfl, by simp, hb⟩
  rintro v hv
  simp at hv
  subst hv
  repeat (first | (refine calmA_plain rfl rfl ?_ (fun K hK w1 hC => ?_); (focus (intro _ _; simp [RA]; done)); have hC' := hC.1.1; simp only [Held, and_true] at hC'; go_wp2_with (first | (refine wpList_fbin rfl rfl rfl rfl rfl (fun r n hr => ?_)) | (refine wpList_widen rfl rfl Try.underlying30 Try.underlying22 rfl (fun r n hr => ?_))); refine ⟨rfl, (by first | exact Below.refl _ _ | exact below_drewN _), hK _ ?_⟩; clear hC hC' hK K w1) | (refine calmA_check rfl rfl rfl ?_ ?_; (focus (intro _ _; simp [RA]; done))))
  refine calmA_call (f := 24) (args := _) rfl ?_ (by (intro w1; simp [execOp, resolve, invoke, go_sem]; with_reducible rfl)) (fun w1 hC => ?_) ?_
  · (intro _ _; simp [RA]; done)
  · refine (specPlaceOfSwing_any x0 x1 x2 x3 x4 y0 y1 y2 _).mono ?_
    rintro e w2 hp
    obtain ⟨v, he, hT, hb⟩ := tv_PlaceOfSwing hp
    exact ⟨v, he, by simp; exact hT, hb⟩
  rintro v hv
  simp at hv
  unfold TVPlaceOfSwing at hv
  obtain ⟨r0_0, r0_1, r0_2, rfl, ⟨q0_0, q0_1, q0_2⟩⟩ := hv
  have Hq0_0 := Lib.hid q0_0
  clear q0_0
  have Hq0_1 := Lib.hid q0_1
  clear q0_1
  have Hq0_2 := Lib.hid q0_2
  clear q0_2
  repeat (first | (refine calmA_plain rfl rfl ?_ (fun K hK w1 hC => ?_); (focus (intro _ _; simp [RA]; done)); have hC' := hC.1.1; simp only [Held, and_true] at hC'; go_wp2_with (first | (refine wpList_fbin rfl rfl rfl rfl rfl (fun r n hr => ?_)) | (refine wpList_widen rfl rfl Try.underlying30 Try.underlying22 rfl (fun r n hr => ?_))); refine ⟨rfl, (by first | exact Below.refl _ _ | exact below_drewN _), hK _ ?_⟩; clear hC hC' hK K w1) | (refine calmA_check rfl rfl rfl ?_ ?_; (focus (intro _ _; simp [RA]; done))))
  refine calmA_alloc (n := 3) (zs := #[.float .f32 0, .float .f32 0, .float .f32 0]) (t := 39) rfl rfl ?_ ?_ ?_ ?_ (fun b hb => ?_)
  · simp
  · intro a w h; simp [RA]; exact h
  · intro w; simp [execOp, go_sem]; done
  · rfl
  refine calmA_store (ia := 8) (n := 3) rfl rfl rfl rfl hb rfl ?_ ?_ ?_ ?_ ?_ ?_ ?_ ?_ ?_ ?_
  · kernel_rfl
  · intro a w h; simp [RA] at h; exact h
  · rfl
  · rfl
  · simp [Value.oneCell']
  · intro a w h; simp [RA]; exact h
  · (first | (simp; done) | (simp; omega) | (simp [*]; done) | (simp [*]; omega))
  · (first | omega | (simp [*]; done) | (simp [*]; omega))
  · rfl
  repeat (first | (refine calmA_plain rfl rfl ?_ (fun K hK w1 hC => ?_); (focus (intro _ _; simp [RA]; done)); have hC' := hC.1.1; simp only [Held, and_true] at hC'; go_wp2_with (first | (refine wpList_fbin rfl rfl rfl rfl rfl (fun r n hr => ?_)) | (refine wpList_widen rfl rfl Try.underlying30 Try.underlying22 rfl (fun r n hr => ?_))); refine ⟨rfl, (by first | exact Below.refl _ _ | exact below_drewN _), hK _ ?_⟩; clear hC hC' hK K w1) | (refine calmA_check rfl rfl rfl ?_ ?_; (focus (intro _ _; simp [RA]; done))))
  refine calmA_nil ?_
  intro w' hC hF
  have hC' := hC.1.1
  simp only [Held, and_true] at hC'
  obtain ⟨b', vs', e1, e2, hN, hS⟩ := RA_get hF (i := 9) (f := .put 5 15) (by simp) (by simp)
  simp [Act.put, Act.eval] at e1 e2
  subst e1 e2
  simp [Held, cellsAt] at hS
  have hk0 := hC'
  have hw0 := hC.1.2
  go_wp2_with fail
  refine region_calmA w (w'.heap.size) [(⟨w.heap.size, 0, none⟩, .float .f32 x0), (⟨w.heap.size, 1, none⟩, .float .f32 x1), (⟨w.heap.size, 2, none⟩, .float .f32 x2), (⟨w.heap.size, 3, none⟩, .float .f32 x3), (⟨w.heap.size, 4, none⟩, .float .f32 x4), (⟨(w.heap.size + 1), 0, none⟩, .float .f32 y0), (⟨(w.heap.size + 1), 1, none⟩, .float .f32 y1), (⟨(w.heap.size + 1), 2, none⟩, .float .f32 y2), (⟨b, 0, none⟩, .float .f32 r0_0), (⟨b, 1, none⟩, .float .f32 r0_1), (⟨b, 2, none⟩, .float .f32 r0_2)] (fun f args v => if f = 25 then TVPlaceOfSwing x0 x1 x2 x3 x4 y0 y1 y2 v else v = args.getD 0 undef) [(8, .new 7 3), (9, .put 7 23)] (by kernel_rfl) (by kernel_rfl) (by kernel_rfl) ⟨⟨by simp [Held, go_sem, *], by (repeat (first | assumption | (with_reducible exact Below.refl _ _) | (with_reducible refine Below.drewN ?_ _) | (with_reducible refine Below.drew ?_) | (with_reducible refine Below.allocS ?_ _) | ((with_reducible refine Below.setCell ?_ ?_ _); rotate_left; focus (first | omega | (simp; done) | (simp; omega))) | (with_reducible refine Below.step ?_ (by assumption))))⟩, by (first | (simp; done) | (simp; omega) | omega)⟩ ?_
  repeat (first | (refine calmA_plain rfl rfl ?_ (fun K hK w1 hC => ?_); (focus (intro _ _; simp [RA]; done)); have hC' := hC.1.1; simp only [Held, and_true] at hC'; go_wp2_with (first | (refine wpList_fbin rfl rfl rfl rfl rfl (fun r n hr => ?_)) | (refine wpList_widen rfl rfl Try.underlying30 Try.underlying22 rfl (fun r n hr => ?_))); refine ⟨rfl, (by first | exact Below.refl _ _ | exact below_drewN _), hK _ ?_⟩; clear hC hC' hK K w1) | (refine calmA_check rfl rfl rfl ?_ ?_; (focus (intro _ _; simp [RA]; done))))
  refine calmA_call (f := 16) (args := _) rfl ?_ (by (intro w1; simp [execOp, resolve, invoke, go_sem]; with_reducible rfl)) (fun w1 hC => ?_) ?_
  · (intro _ _; simp [RA]; done)
  · refine (toPendulum_any _ _ _ _ _ _).mono ?_
    rintro e w2 ⟨rfl, hb⟩
    exact ⟨_, rfl, by simp, hb⟩
  rintro v hv
  simp at hv
  subst hv
  repeat (first | (refine calmA_plain rfl rfl ?_ (fun K hK w1 hC => ?_); (focus (intro _ _; simp [RA]; done)); have hC' := hC.1.1; simp only [Held, and_true] at hC'; go_wp2_with (first | (refine wpList_fbin rfl rfl rfl rfl rfl (fun r n hr => ?_)) | (refine wpList_widen rfl rfl Try.underlying30 Try.underlying22 rfl (fun r n hr => ?_))); refine ⟨rfl, (by first | exact Below.refl _ _ | exact below_drewN _), hK _ ?_⟩; clear hC hC' hK K w1) | (refine calmA_check rfl rfl rfl ?_ ?_; (focus (intro _ _; simp [RA]; done))))
  refine calmA_call (f := 22) (args := _) rfl ?_ (by (intro w1; simp [execOp, resolve, invoke, go_sem]; with_reducible rfl)) (fun w1 hC => ?_) ?_
  · (intro _ _; simp [RA]; done)
  · refine (toSwing_any _ _ _ _).mono ?_
    rintro e w2 ⟨rfl, hb⟩
    exact ⟨_, rfl, by simp, hb⟩
  rintro v hv
  simp at hv
  subst hv
  repeat (first | (refine calmA_plain rfl rfl ?_ (fun K hK w1 hC => ?_); (focus (intro _ _; simp [RA]; done)); have hC' := hC.1.1; simp only [Held, and_true] at hC'; go_wp2_with (first | (refine wpList_fbin rfl rfl rfl rfl rfl (fun r n hr => ?_)) | (refine wpList_widen rfl rfl Try.underlying30 Try.underlying22 rfl (fun r n hr => ?_))); refine ⟨rfl, (by first | exact Below.refl _ _ | exact below_drewN _), hK _ ?_⟩; clear hC hC' hK K w1) | (refine calmA_check rfl rfl rfl ?_ ?_; (focus (intro _ _; simp [RA]; done))))
  refine calmA_call (f := 25) (args := _) rfl ?_ (by (intro w1; simp [execOp, resolve, invoke, go_sem]; with_reducible rfl)) (fun w1 hC => ?_) ?_
  · (intro _ _; simp [RA]; done)
  · refine (implPlaceOfSwing_any x0 x1 x2 x3 x4 y0 y1 y2 _).mono ?_
    rintro e w2 hp
    obtain ⟨v, he, hT, hb⟩ := tv_PlaceOfSwing hp
    exact ⟨v, he, by simp; exact hT, hb⟩
  rintro v hv
  simp at hv
  unfold TVPlaceOfSwing at hv
  obtain ⟨r1_0, r1_1, r1_2, rfl, ⟨q1_0, q1_1, q1_2⟩⟩ := hv
  have Hq1_0 := Lib.hid q1_0
  clear q1_0
  have Hq1_1 := Lib.hid q1_1
  clear q1_1
  have Hq1_2 := Lib.hid q1_2
  clear q1_2
  repeat (first | (refine calmA_plain rfl rfl ?_ (fun K hK w1 hC => ?_); (focus (intro _ _; simp [RA]; done)); have hC' := hC.1.1; simp only [Held, and_true] at hC'; go_wp2_with (first | (refine wpList_fbin rfl rfl rfl rfl rfl (fun r n hr => ?_)) | (refine wpList_widen rfl rfl Try.underlying30 Try.underlying22 rfl (fun r n hr => ?_))); refine ⟨rfl, (by first | exact Below.refl _ _ | exact below_drewN _), hK _ ?_⟩; clear hC hC' hK K w1) | (refine calmA_check rfl rfl rfl ?_ ?_; (focus (intro _ _; simp [RA]; done))))
  refine calmA_alloc (n := 3) (zs := #[.float .f32 0, .float .f32 0, .float .f32 0]) (t := 39) rfl rfl ?_ ?_ ?_ ?_ (fun b hb => ?_)
  · simp
  · intro a w h; simp [RA]; exact h
  · intro w; simp [execOp, go_sem]; done
  · rfl
  refine calmA_store (ia := 8) (n := 3) rfl rfl rfl rfl hb rfl ?_ ?_ ?_ ?_ ?_ ?_ ?_ ?_ ?_ ?_
  · kernel_rfl
  · intro a w h; simp [RA] at h; exact h
  · rfl
  · rfl
  · simp [Value.oneCell']
  · intro a w h; simp [RA]; exact h
  · (first | (simp; done) | (simp; omega) | (simp [*]; done) | (simp [*]; omega))
  · (first | omega | (simp [*]; done) | (simp [*]; omega))
  · rfl
  repeat (first | (refine calmA_plain rfl rfl ?_ (fun K hK w1 hC => ?_); (focus (intro _ _; simp [RA]; done)); have hC' := hC.1.1; simp only [Held, and_true] at hC'; go_wp2_with (first | (refine wpList_fbin rfl rfl rfl rfl rfl (fun r n hr => ?_)) | (refine wpList_widen rfl rfl Try.underlying30 Try.underlying22 rfl (fun r n hr => ?_))); refine ⟨rfl, (by first | exact Below.refl _ _ | exact below_drewN _), hK _ ?_⟩; clear hC hC' hK K w1) | (refine calmA_check rfl rfl rfl ?_ ?_; (focus (intro _ _; simp [RA]; done))))
  refine calmA_nil ?_
  intro w' hC hF
  have hC' := hC.1.1
  simp only [Held, and_true] at hC'
  obtain ⟨b', vs', e1, e2, hN, hS⟩ := RA_get hF (i := 9) (f := .put 7 23) (by simp) (by simp)
  simp [Act.put, Act.eval] at e1 e2
  subst e1 e2
  simp [Held, cellsAt] at hS
  go_wp2_with fail
  refine (eqVector_any _ _ _ _ _ _ _ (Hq1_0.out.trans Hq0_0.out.symm) (Hq1_1.out.trans Hq0_1.out.symm) (Hq1_2.out.trans Hq0_2.out.symm)).mono ?_
  rintro e w9 ⟨rfl, hb⟩
  go_wp2
  go_ret
  refine ⟨rfl, ?_⟩
  (try have hB := hC.1.2)
  (repeat (first | assumption | (with_reducible exact Below.refl _ _) | (with_reducible refine Below.drewN ?_ _) | (with_reducible refine Below.drew ?_) | (with_reducible refine Below.allocS ?_ _) | ((with_reducible refine Below.setCell ?_ ?_ _); rotate_left; focus (first | omega | (simp; done) | (simp; omega))) | (with_reducible refine Below.step ?_ (by assumption))))

end Go.Proofs.Ytjfmcmdhkmcpiaa
