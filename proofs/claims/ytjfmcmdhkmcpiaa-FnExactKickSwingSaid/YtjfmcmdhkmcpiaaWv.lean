/-
  The walks of swings' kicks.
-/
import Derived.Test.YtjfmcmdhkmcpiaaWu
set_option linter.unusedVariables false
set_option linter.unusedSimpArgs false
namespace Go.Proofs.Ytjfmcmdhkmcpiaa
open Go.RowKit

def kickS (x0 x1 x2 x3 x4 s0 s1 s2 z : Nat) : Nat := fbin .add .f32 (cn .f32 s1) (fbin .mul .f32 (cn .f32 z) (forceQ x0 x1 x2 x3 x4 s0 s1 s2))
def kickT (x0 x1 x2 x3 x4 s0 s1 s2 z : Nat) : Nat := fbin .add .f32 (cn .f32 s0) (fbin .mul .f32 (cn .f32 z) (kickS x0 x1 x2 x3 x4 s0 s1 s2 z))
def kickM (s2 z : Nat) : Nat := fbin .add .f32 (cn .f32 s2) (cn .f32 z)
def tickB (z : Nat) : Bool := finB .f32 z && !eqF .f32 z 0
theorem l02Tick_any (z : Nat) (w : World) : Calls Try.prog 85 #[.float .f32 z] w (RB (tickB z) w) := by
  go_enter Try.func85, Try.ntmps85
  go_wp2_with (first | (go_at_call 56; refine (l01Finite_any _ _).mono ?_; rintro e w' ⟨n, rfl, rfl⟩))
  all_goals (go_ret; unfold tickB; first | exact ⟨_, ret_bool (by simp_all), rfl⟩ | exact ⟨0, ret_bool (by simp_all), rfl⟩)
theorem tickOk_any (z : Nat) (w : World) : Calls Try.prog 116 #[.float .f32 z] w (RB (tickB z) w) := by
  go_enter Try.func116, Try.ntmps116
  go_wp2_with (first | (go_at_call 96; refine (IsFinite_any _ _).mono ?_; rintro e w' ⟨n, rfl, rfl⟩))
  all_goals (go_ret; unfold tickB; first | exact ⟨_, ret_bool (by simp_all), rfl⟩ | exact ⟨0, ret_bool (by simp_all), rfl⟩)
set_option maxRecDepth 100000 in
set_option maxHeartbeats 8000000 in
theorem swingOk_any (x0 x1 x2 x3 x4 s0 s1 s2 z : Nat) (w : World) : Calls Try.prog 87 #[.agg #[.float .f32 x0, .float .f32 x1, .float .f32 x2, .float .f32 x3, .float .f32 x4], .agg #[.float .f32 s0, .float .f32 s1, .float .f32 s2], .float .f32 z] w (BB ((pendB x0 x1 x2 x3 x4 && fin3 s0 s1 s2) && tickB z) w) := by
  cases h1 : pendB x0 x1 x2 x3 x4
  all_goals cases h2 : fin3 s0 s1 s2
  all_goals cases h3 : tickB z
  all_goals
    go_enter Try.func87, Try.ntmps87
    go_wp2_with (first | (go_at_call 71; refine (implValidPendulum_any x0 x1 x2 x3 x4 _).mono ?_; rintro e w1 ⟨rfl, hb⟩; have hk := Held.below hb (l := [(⟨w.heap.size, 0, none⟩, .float .f32 x0), (⟨w.heap.size, 1, none⟩, .float .f32 x1), (⟨w.heap.size, 2, none⟩, .float .f32 x2), (⟨w.heap.size, 3, none⟩, .float .f32 x3), (⟨w.heap.size, 4, none⟩, .float .f32 x4), (⟨(w.heap.size + 1), 0, none⟩, .float .f32 s0), (⟨(w.heap.size + 1), 1, none⟩, .float .f32 s1), (⟨(w.heap.size + 1), 2, none⟩, .float .f32 s2)]) (by simp [Held, go_sem, *]); simp only [Held, and_true] at hk) | (go_at_call 72; refine (implValidSwing_any s0 s1 s2 _).mono ?_; rintro e w2 ⟨rfl, hb⟩; have hk := Held.below hb (l := [(⟨w.heap.size, 0, none⟩, .float .f32 x0), (⟨w.heap.size, 1, none⟩, .float .f32 x1), (⟨w.heap.size, 2, none⟩, .float .f32 x2), (⟨w.heap.size, 3, none⟩, .float .f32 x3), (⟨w.heap.size, 4, none⟩, .float .f32 x4), (⟨(w.heap.size + 1), 0, none⟩, .float .f32 s0), (⟨(w.heap.size + 1), 1, none⟩, .float .f32 s1), (⟨(w.heap.size + 1), 2, none⟩, .float .f32 s2)]) (by simp [Held, go_sem, *]); simp only [Held, and_true] at hk) | (go_at_call 116; refine (tickOk_any _ _).mono ?_; rintro e w' ⟨n, rfl, rfl⟩))
    go_ret
    refine ⟨by simp [*], ?_⟩
    (repeat (first | assumption | (with_reducible exact Below.refl _ _) | (with_reducible refine Below.drewN ?_ _) | (with_reducible refine Below.drew ?_) | (with_reducible refine Below.allocS ?_ _) | ((with_reducible refine Below.setCell ?_ ?_ _); rotate_left; focus (first | omega | (simp; done) | (simp; omega))) | (with_reducible refine Below.step ?_ (by assumption))))

theorem implValidSwing_held (a b c p : Nat) (w : World) (hH : Held [(⟨p, 0, none⟩, .float .f32 a), (⟨p, 1, none⟩, .float .f32 b), (⟨p, 2, none⟩, .float .f32 c)] w) : Calls Try.prog 72 #[.agg #[.float .f32 a, .float .f32 b, .float .f32 c]] w (fun e w' => e = .returned (.bool (fin3 a b c)) ∧ Below w.heap.size w w' ∧ Held [(⟨p, 0, none⟩, .float .f32 a), (⟨p, 1, none⟩, .float .f32 b), (⟨p, 2, none⟩, .float .f32 c)] w') :=
  (implValidSwing_any a b c w).mono fun e w' h => ⟨h.1, h.2, Held.below h.2 hH⟩

set_option maxRecDepth 100000 in
set_option maxHeartbeats 8000000 in
theorem l02Give_any (x0 x1 x2 : Nat) (w : World) : Calls Try.prog 86 #[.agg #[.float .f32 x0, .float .f32 x1, .float .f32 x2]] w (BV (.tuple #[.agg #[.float .f32 (condF (fin3 x0 x1 x2) x0), .float .f32 (condF (fin3 x0 x1 x2) x1), .float .f32 (condF (fin3 x0 x1 x2) x2)], .bool (fin3 x0 x1 x2)]) w) := by
  cases h : fin3 x0 x1 x2
  all_goals
    go_enter Try.func86, Try.ntmps86
    go_wp2_with (first | (go_at_call 105; refine (l02Swing_any x0 x1 x2 _ _ ?_ ?_ ?_).mono ?_; (focus (simp [go_sem]; done)); (focus (simp [go_sem]; done)); (focus (simp [go_sem]; done)); rintro e w' ⟨n, rfl, rfl⟩))
    refine bodyPost_ret (v := ?_) (by first | (simp [results, Try.results86, go_sem, *]; rfl) | (simp [results, Try.results86, go_sem, *]; done)) rfl ?_
    refine ⟨?_, ?_⟩
    · simp [condF, h]
    · (repeat (first | (with_reducible exact Below.refl _ _) | (with_reducible refine Below.drewN ?_ _) | (with_reducible refine Below.drew ?_) | (with_reducible refine Below.allocS ?_ _) | ((with_reducible refine Below.setCell ?_ ?_ _); rotate_left; focus (first | omega | (simp; done) | (simp; omega))) | (with_reducible refine Below.step ?_ (by assumption))))

set_option maxRecDepth 100000 in
set_option maxHeartbeats 8000000 in
theorem specKickSwing_any (x0 x1 x2 x3 x4 s0 s1 s2 z : Nat) (w : World) : Calls Try.prog 31 #[.agg #[.float .f32 x0, .float .f32 x1, .float .f32 x2, .float .f32 x3, .float .f32 x4], .agg #[.float .f32 s0, .float .f32 s1, .float .f32 s2], .float .f32 z] w (VB3 (((pendB x0 x1 x2 x3 x4 && fin3 s0 s1 s2) && tickB z) && fin3 (kickT x0 x1 x2 x3 x4 s0 s1 s2 z) (kickS x0 x1 x2 x3 x4 s0 s1 s2 z) (kickM s2 z)) (kickT x0 x1 x2 x3 x4 s0 s1 s2 z) (kickS x0 x1 x2 x3 x4 s0 s1 s2 z) (kickM s2 z) w) := by
  obtain h1 | ⟨h1, h2⟩ | ⟨h1, h2⟩ : (pendB x0 x1 x2 x3 x4 && fin3 s0 s1 s2) = false ∨ ((pendB x0 x1 x2 x3 x4 && fin3 s0 s1 s2) = true ∧ tickB z = false) ∨ ((pendB x0 x1 x2 x3 x4 && fin3 s0 s1 s2) = true ∧ tickB z = true) := by
    cases (pendB x0 x1 x2 x3 x4 && fin3 s0 s1 s2) <;> cases tickB z <;> simp
  · go_enter Try.func31, Try.ntmps31
    go_wp2_with (first | (go_at_call 65; refine (l02Both_any x0 x1 x2 x3 x4 s0 s1 s2 _ _ _ ?_ ?_).mono ?_; (focus (simp [Held, go_sem]; done)); (focus (simp [Held, go_sem]; done)); rintro e w' ⟨n, rfl, rfl⟩) | (go_at_call 85; refine (l02Tick_any _ _).mono ?_; rintro e w' ⟨n, rfl, rfl⟩))
    refine bodyPost_ret (v := ?_) (by first | (simp [results, Try.results31, go_sem, *]; rfl) | (simp [results, Try.results31, go_sem, *]; done)) rfl ?_
    refine vb3_none (by simp [h1]) ?_
    (repeat (first | assumption | (with_reducible exact Below.refl _ _) | (with_reducible refine Below.drewN ?_ _) | (with_reducible refine Below.drew ?_) | (with_reducible refine Below.allocS ?_ _) | ((with_reducible refine Below.setCell ?_ ?_ _); rotate_left; focus (first | omega | (simp; done) | (simp; omega))) | (with_reducible refine Below.step ?_ (by assumption))))
  · go_enter Try.func31, Try.ntmps31
    go_wp2_with (first | (go_at_call 65; refine (l02Both_any x0 x1 x2 x3 x4 s0 s1 s2 _ _ _ ?_ ?_).mono ?_; (focus (simp [Held, go_sem]; done)); (focus (simp [Held, go_sem]; done)); rintro e w' ⟨n, rfl, rfl⟩) | (go_at_call 85; refine (l02Tick_any _ _).mono ?_; rintro e w' ⟨n, rfl, rfl⟩))
    refine bodyPost_ret (v := ?_) (by first | (simp [results, Try.results31, go_sem, *]; rfl) | (simp [results, Try.results31, go_sem, *]; done)) rfl ?_
    refine vb3_none (by simp [h1, h2]) ?_
    (repeat (first | assumption | (with_reducible exact Below.refl _ _) | (with_reducible refine Below.drewN ?_ _) | (with_reducible refine Below.drew ?_) | (with_reducible refine Below.allocS ?_ _) | ((with_reducible refine Below.setCell ?_ ?_ _); rotate_left; focus (first | omega | (simp; done) | (simp; omega))) | (with_reducible refine Below.step ?_ (by assumption))))
  · go_enter Try.func31, Try.ntmps31
    go_wp2_with (first | (go_at_call 65; refine (l02Both_any x0 x1 x2 x3 x4 s0 s1 s2 _ _ _ ?_ ?_).mono ?_; (focus (simp [Held, go_sem]; done)); (focus (simp [Held, go_sem]; done)); rintro e w' ⟨n, rfl, rfl⟩) | (go_at_call 85; refine (l02Tick_any _ _).mono ?_; rintro e w' ⟨n, rfl, rfl⟩))
    refine region_calmA_tail 8 w (w.heap.size + 1 + 1 + 1) [(⟨w.heap.size, 0, none⟩, .float .f32 x0), (⟨w.heap.size, 1, none⟩, .float .f32 x1), (⟨w.heap.size, 2, none⟩, .float .f32 x2), (⟨w.heap.size, 3, none⟩, .float .f32 x3), (⟨w.heap.size, 4, none⟩, .float .f32 x4), (⟨(w.heap.size + 1), 0, none⟩, .float .f32 s0), (⟨(w.heap.size + 1), 1, none⟩, .float .f32 s1), (⟨(w.heap.size + 1), 2, none⟩, .float .f32 s2), (⟨(w.heap.size + 1 + 1), 0, none⟩, .float .f32 0), (⟨(w.heap.size + 1 + 1), 1, none⟩, .float .f32 0), (⟨(w.heap.size + 1 + 1), 2, none⟩, .float .f32 0)] (fun f args v => ∃ r, v = .float .f32 r ∧ cn .f32 r = forceQ x0 x1 x2 x3 x4 s0 s1 s2) [] (by kernel_rfl) (by kernel_rfl) (by kernel_rfl) ⟨⟨by simp [Held, go_sem, *], by (repeat (first | (with_reducible exact Below.refl _ _) | (with_reducible refine Below.drewN ?_ _) | (with_reducible refine Below.drew ?_) | (with_reducible refine Below.allocS ?_ _) | ((with_reducible refine Below.setCell ?_ ?_ _); rotate_left; focus (first | omega | (simp; done) | (simp; omega))) | (with_reducible refine Below.step ?_ (by assumption))))⟩, by (first | (simp; done) | (simp; omega) | omega)⟩ ?_
    simp only [List.take_succ_cons, List.take_zero, List.drop_succ_cons, List.drop_zero]
    repeat (first | (first | (refine calmA_plain rfl rfl ?_ (fun K hK w1 hC => ?_); (focus (intro _ _; simp [RA]; done)); have hC' := hC.1.1; simp only [Held, and_true] at hC'; go_wp2_with (first | (refine wpList_fbin rfl rfl rfl rfl rfl (fun r n hr => ?_)) | (refine wpList_widen rfl rfl Try.underlying30 Try.underlying22 rfl (fun r n hr => ?_))); refine ⟨rfl, (by first | exact Below.refl _ _ | exact below_drewN _), hK _ ?_⟩; clear hC hC' hK K w1) | (refine calmA_check rfl rfl rfl ?_ ?_; (focus (intro _ _; simp [RA]; done)))) | (refine calmA_call (f := 74) (args := _) rfl ?_ (by (intro w1; simp [execOp, resolve, invoke, go_sem]; with_reducible rfl)) (fun w1 hC => ?_) ?_; (focus (intro _ _; simp [RA]; done)); (focus (have hC' := hC.1.1; simp only [Held, and_true] at hC'; refine (l02Force_any x0 x1 x2 x3 x4 s0 s1 s2 _ _ ?_).mono ?_; (focus (simp [Held, *]; done)); rintro e w2 ⟨r, he, hq, hb⟩; exact ⟨_, he, ⟨_, rfl, hq⟩, hb⟩)); rintro v ⟨r, rfl, hq⟩; have HQ := Lib.hid hq; clear hq))
    refine calmA_nil ?_
    intro w' hC hF
    have hC' := hC.1.1
    simp only [Held, and_true] at hC'
    go_wp2_with (first | (refine wpList_fbin rfl rfl rfl rfl rfl (fun r n hr => ?_)) | (go_at_call 86; refine (l02Give_any _ _ _ _).mono ?_; rintro e w3 ⟨rfl, hb⟩; have hk := Held.below hb (l := [(⟨(w.heap.size + 1 + 1), 0, none⟩, .float .f32 0), (⟨(w.heap.size + 1 + 1), 1, none⟩, .float .f32 0), (⟨(w.heap.size + 1 + 1), 2, none⟩, .float .f32 0)]) (by simp [Held, go_sem, *]); simp only [Held, and_true] at hk))
    refine bodyPost_ret (v := ?_) (by first | (simp [results, Try.results31, go_sem, *]; rfl) | (simp [results, Try.results31, go_sem, *]; done)) rfl ?_
    refine vb3_of_told' (Q0 := kickT x0 x1 x2 x3 x4 s0 s1 s2 z) (Q1 := kickS x0 x1 x2 x3 x4 s0 s1 s2 z) (Q2 := kickM s2 z) ⟨?_, ?_, ?_⟩ ?_ ?_
    · unfold kickT kickS
      simp only [Hid] at *
      simp only [*]
    · unfold kickS
      simp only [Hid] at *
      simp only [*]
    · unfold kickM
      simp only [Hid] at *
      simp only [*]
    · simp [h1, h2]
    · (have hB := hC.1.2; (repeat (first | assumption | (with_reducible exact Below.refl _ _) | (with_reducible refine Below.drewN ?_ _) | (with_reducible refine Below.drew ?_) | (with_reducible refine Below.allocS ?_ _) | ((with_reducible refine Below.setCell ?_ ?_ _); rotate_left; focus (first | omega | (simp; done) | (simp; omega))) | (with_reducible refine Below.step ?_ (by assumption)))))

set_option maxRecDepth 100000 in
set_option maxHeartbeats 8000000 in
theorem implKickSwing_any (x0 x1 x2 x3 x4 s0 s1 s2 z : Nat) (w : World) : Calls Try.prog 32 #[.agg #[.float .f32 x0, .float .f32 x1, .float .f32 x2, .float .f32 x3, .float .f32 x4], .agg #[.float .f32 s0, .float .f32 s1, .float .f32 s2], .float .f32 z] w (VB3 (((pendB x0 x1 x2 x3 x4 && fin3 s0 s1 s2) && tickB z) && fin3 (kickT x0 x1 x2 x3 x4 s0 s1 s2 z) (kickS x0 x1 x2 x3 x4 s0 s1 s2 z) (kickM s2 z)) (kickT x0 x1 x2 x3 x4 s0 s1 s2 z) (kickS x0 x1 x2 x3 x4 s0 s1 s2 z) (kickM s2 z) w) := by
  cases h1 : ((pendB x0 x1 x2 x3 x4 && fin3 s0 s1 s2) && tickB z)
  · go_enter Try.func32, Try.ntmps32
    go_wp2_with (first | (go_at_call 87; refine (swingOk_any x0 x1 x2 x3 x4 s0 s1 s2 z _).mono ?_; rintro e w1 ⟨rfl, hb⟩; have hk := Held.below hb (l := [(⟨w.heap.size, 0, none⟩, .float .f32 x0), (⟨w.heap.size, 1, none⟩, .float .f32 x1), (⟨w.heap.size, 2, none⟩, .float .f32 x2), (⟨w.heap.size, 3, none⟩, .float .f32 x3), (⟨w.heap.size, 4, none⟩, .float .f32 x4), (⟨(w.heap.size + 1), 0, none⟩, .float .f32 s0), (⟨(w.heap.size + 1), 1, none⟩, .float .f32 s1), (⟨(w.heap.size + 1), 2, none⟩, .float .f32 s2), (⟨(w.heap.size + 1 + 1), 0, none⟩, .float .f32 0), (⟨(w.heap.size + 1 + 1), 1, none⟩, .float .f32 0), (⟨(w.heap.size + 1 + 1), 2, none⟩, .float .f32 0)]) (by simp [Held, go_sem, *]); simp only [Held, and_true] at hk))
    refine bodyPost_ret (v := ?_) (by first | (simp [results, Try.results32, go_sem, *]; rfl) | (simp [results, Try.results32, go_sem, *]; done)) rfl ?_
    refine vb3_none (by simp) ?_
    (repeat (first | assumption | (with_reducible exact Below.refl _ _) | (with_reducible refine Below.drewN ?_ _) | (with_reducible refine Below.drew ?_) | (with_reducible refine Below.allocS ?_ _) | ((with_reducible refine Below.setCell ?_ ?_ _); rotate_left; focus (first | omega | (simp; done) | (simp; omega))) | (with_reducible refine Below.step ?_ (by assumption))))
  · go_enter Try.func32, Try.ntmps32
    go_wp2_with (first | (go_at_call 87; refine (swingOk_any x0 x1 x2 x3 x4 s0 s1 s2 z _).mono ?_; rintro e w1 ⟨rfl, hb⟩; have hk := Held.below hb (l := [(⟨w.heap.size, 0, none⟩, .float .f32 x0), (⟨w.heap.size, 1, none⟩, .float .f32 x1), (⟨w.heap.size, 2, none⟩, .float .f32 x2), (⟨w.heap.size, 3, none⟩, .float .f32 x3), (⟨w.heap.size, 4, none⟩, .float .f32 x4), (⟨(w.heap.size + 1), 0, none⟩, .float .f32 s0), (⟨(w.heap.size + 1), 1, none⟩, .float .f32 s1), (⟨(w.heap.size + 1), 2, none⟩, .float .f32 s2), (⟨(w.heap.size + 1 + 1), 0, none⟩, .float .f32 0), (⟨(w.heap.size + 1 + 1), 1, none⟩, .float .f32 0), (⟨(w.heap.size + 1 + 1), 2, none⟩, .float .f32 0)]) (by simp [Held, go_sem, *]); simp only [Held, and_true] at hk))
    refine region_calmA_tail 8 w (w.heap.size + 1 + 1 + 1) [(⟨w.heap.size, 0, none⟩, .float .f32 x0), (⟨w.heap.size, 1, none⟩, .float .f32 x1), (⟨w.heap.size, 2, none⟩, .float .f32 x2), (⟨w.heap.size, 3, none⟩, .float .f32 x3), (⟨w.heap.size, 4, none⟩, .float .f32 x4), (⟨(w.heap.size + 1), 0, none⟩, .float .f32 s0), (⟨(w.heap.size + 1), 1, none⟩, .float .f32 s1), (⟨(w.heap.size + 1), 2, none⟩, .float .f32 s2), (⟨(w.heap.size + 1 + 1), 0, none⟩, .float .f32 0), (⟨(w.heap.size + 1 + 1), 1, none⟩, .float .f32 0), (⟨(w.heap.size + 1 + 1), 2, none⟩, .float .f32 0)] (fun f args v => ∃ r, v = .float .f32 r ∧ cn .f32 r = forceQ x0 x1 x2 x3 x4 s0 s1 s2) [] (by kernel_rfl) (by kernel_rfl) (by kernel_rfl) ⟨⟨by simp [Held, go_sem, *], by (repeat (first | assumption | (with_reducible exact Below.refl _ _) | (with_reducible refine Below.drewN ?_ _) | (with_reducible refine Below.drew ?_) | (with_reducible refine Below.allocS ?_ _) | ((with_reducible refine Below.setCell ?_ ?_ _); rotate_left; focus (first | omega | (simp; done) | (simp; omega))) | (with_reducible refine Below.step ?_ (by assumption))))⟩, by (first | (simp; done) | (simp; omega) | omega)⟩ ?_
    simp only [List.take_succ_cons, List.take_zero, List.drop_succ_cons, List.drop_zero]
    repeat (first | (first | (refine calmA_plain rfl rfl ?_ (fun K hK w1 hC => ?_); (focus (intro _ _; simp [RA]; done)); have hC' := hC.1.1; simp only [Held, and_true] at hC'; go_wp2_with (first | (refine wpList_fbin rfl rfl rfl rfl rfl (fun r n hr => ?_)) | (refine wpList_widen rfl rfl Try.underlying30 Try.underlying22 rfl (fun r n hr => ?_))); refine ⟨rfl, (by first | exact Below.refl _ _ | exact below_drewN _), hK _ ?_⟩; clear hC hC' hK K w1) | (refine calmA_check rfl rfl rfl ?_ ?_; (focus (intro _ _; simp [RA]; done)))) | (refine calmA_call (f := 76) (args := _) rfl ?_ (by (intro w1; simp [execOp, resolve, invoke, go_sem]; with_reducible rfl)) (fun w1 hC => ?_) ?_; (focus (intro _ _; simp [RA]; done)); (focus (have hC' := hC.1.1; simp only [Held, and_true] at hC'; refine (force_any x0 x1 x2 x3 x4 s0 s1 s2 _ _ ?_).mono ?_; (focus (simp [Held, *]; done)); rintro e w2 ⟨r, he, hq, hb⟩; exact ⟨_, he, ⟨_, rfl, hq⟩, hb⟩)); rintro v ⟨r, rfl, hq⟩; have HQ := Lib.hid hq; clear hq))
    refine calmA_nil ?_
    intro w' hC hF
    have hC' := hC.1.1
    simp only [Held, and_true] at hC'
    go_wp2_with (first | (refine wpList_fbin rfl rfl rfl rfl rfl (fun r n hr => ?_)) | (go_at_call 72; refine (implValidSwing_held _ _ _ (w.heap.size + 1) _ ?_).mono ?_; (focus (simp [Held, go_sem, *]; done)); rintro e w3 ⟨rfl, hb, hH⟩; simp only [Held, and_true] at hH; have hk := Held.below hb (l := [(⟨(w.heap.size + 1 + 1), 0, none⟩, .float .f32 0), (⟨(w.heap.size + 1 + 1), 1, none⟩, .float .f32 0), (⟨(w.heap.size + 1 + 1), 2, none⟩, .float .f32 0)]) (by simp [Held, go_sem, *]); simp only [Held, and_true] at hk))
    all_goals
      refine bodyPost_ret (v := ?_) (by first | (simp [results, Try.results32, go_sem, *]; rfl) | (simp [results, Try.results32, go_sem, *]; done)) rfl ?_
      first
        | ((refine vb3_told (Q0 := kickT x0 x1 x2 x3 x4 s0 s1 s2 z) (Q1 := kickS x0 x1 x2 x3 x4 s0 s1 s2 z) (Q2 := kickM s2 z) ⟨(by unfold kickT kickS; simp only [Hid] at *; simp only [*]), (by unfold kickS; simp only [Hid] at *; simp only [*]), (by unfold kickM; simp only [Hid] at *; simp only [*])⟩ ?_ ‹(!fin3 _ _ _) = false› ?_); (focus (simp; done)); ((have hB := hC.1.2; (repeat (first | assumption | (with_reducible exact Below.refl _ _) | (with_reducible refine Below.drewN ?_ _) | (with_reducible refine Below.drew ?_) | (with_reducible refine Below.allocS ?_ _) | ((with_reducible refine Below.setCell ?_ ?_ _); rotate_left; focus (first | omega | (simp; done) | (simp; omega))) | (with_reducible refine Below.step ?_ (by assumption))))); done))
        | ((refine vb3_bad (Q0 := kickT x0 x1 x2 x3 x4 s0 s1 s2 z) (Q1 := kickS x0 x1 x2 x3 x4 s0 s1 s2 z) (Q2 := kickM s2 z) ?_ ?_ ‹(!fin3 _ _ _) = true› ?_); (focus (exact ⟨(by unfold kickT kickS; simp only [Hid] at *; simp only [*]), (by unfold kickS; simp only [Hid] at *; simp only [*]), (by unfold kickM; simp only [Hid] at *; simp only [*])⟩)); (focus (simp; done)); ((have hB := hC.1.2; (repeat (first | assumption | (with_reducible exact Below.refl _ _) | (with_reducible refine Below.drewN ?_ _) | (with_reducible refine Below.drew ?_) | (with_reducible refine Below.allocS ?_ _) | ((with_reducible refine Below.setCell ?_ ?_ _); rotate_left; focus (first | omega | (simp; done) | (simp; omega))) | (with_reducible refine Below.step ?_ (by assumption))))); done))

def TVKickSwing (x0 x1 x2 x3 x4 y0 y1 y2 z2 : Nat) (v : Value) : Prop := ∃ r0 r1 r2, v = .tuple #[.agg #[.float .f32 r0, .float .f32 r1, .float .f32 r2], .bool (((pendB x0 x1 x2 x3 x4 && fin3 y0 y1 y2) && tickB z2) && fin3 (kickT x0 x1 x2 x3 x4 y0 y1 y2 z2) (kickS x0 x1 x2 x3 x4 y0 y1 y2 z2) (kickM y2 z2))] ∧ (cn .f32 r0 = condF (((pendB x0 x1 x2 x3 x4 && fin3 y0 y1 y2) && tickB z2) && fin3 (kickT x0 x1 x2 x3 x4 y0 y1 y2 z2) (kickS x0 x1 x2 x3 x4 y0 y1 y2 z2) (kickM y2 z2)) (kickT x0 x1 x2 x3 x4 y0 y1 y2 z2) ∧ cn .f32 r1 = condF (((pendB x0 x1 x2 x3 x4 && fin3 y0 y1 y2) && tickB z2) && fin3 (kickT x0 x1 x2 x3 x4 y0 y1 y2 z2) (kickS x0 x1 x2 x3 x4 y0 y1 y2 z2) (kickM y2 z2)) (kickS x0 x1 x2 x3 x4 y0 y1 y2 z2) ∧ cn .f32 r2 = condF (((pendB x0 x1 x2 x3 x4 && fin3 y0 y1 y2) && tickB z2) && fin3 (kickT x0 x1 x2 x3 x4 y0 y1 y2 z2) (kickS x0 x1 x2 x3 x4 y0 y1 y2 z2) (kickM y2 z2)) (kickM y2 z2))
theorem tv_KickSwing {x0 x1 x2 x3 x4 y0 y1 y2 z2 : Nat} {w w' : World} {e : Ending} (h : VB3 (((pendB x0 x1 x2 x3 x4 && fin3 y0 y1 y2) && tickB z2) && fin3 (kickT x0 x1 x2 x3 x4 y0 y1 y2 z2) (kickS x0 x1 x2 x3 x4 y0 y1 y2 z2) (kickM y2 z2)) (kickT x0 x1 x2 x3 x4 y0 y1 y2 z2) (kickS x0 x1 x2 x3 x4 y0 y1 y2 z2) (kickM y2 z2) w e w') : ∃ v, e = .returned v ∧ TVKickSwing x0 x1 x2 x3 x4 y0 y1 y2 z2 v ∧ Below w.heap.size w w' := by
  obtain ⟨r0, r1, r2, he, hq, hb⟩ := h
  exact ⟨_, he, ⟨r0, r1, r2, rfl, hq⟩, hb⟩


set_option maxRecDepth 100000 in
set_option maxHeartbeats 4000000 in
theorem lawKickSwing_walk (x0 x1 x2 x3 x4 y0 y1 y2 z2 : Nat) (_ : x0 < 4294967296) (_ : x1 < 4294967296) (_ : x2 < 4294967296) (_ : x3 < 4294967296) (_ : x4 < 4294967296) (_ : y0 < 4294967296) (_ : y1 < 4294967296) (_ : y2 < 4294967296) (_ : z2 < 4294967296) (w : World) : Calls Try.prog 9 #[.agg #[.float .f32 x0, .float .f32 x1, .float .f32 x2, .float .f32 x3, .float .f32 x4], .agg #[.float .f32 y0, .float .f32 y1, .float .f32 y2], .float .f32 z2] w fun e w' => e = .returned (.bool true) ∧ Below w.heap.size w w' := by
  go_enter Try.func9, Try.ntmps9
  go_wp2_with fail
  refine region_calmA w (w.heap.size + 1 + 1) [(⟨w.heap.size, 0, none⟩, .float .f32 x0), (⟨w.heap.size, 1, none⟩, .float .f32 x1), (⟨w.heap.size, 2, none⟩, .float .f32 x2), (⟨w.heap.size, 3, none⟩, .float .f32 x3), (⟨w.heap.size, 4, none⟩, .float .f32 x4), (⟨(w.heap.size + 1), 0, none⟩, .float .f32 y0), (⟨(w.heap.size + 1), 1, none⟩, .float .f32 y1), (⟨(w.heap.size + 1), 2, none⟩, .float .f32 y2)] (fun f args v => if f = 31 then TVKickSwing x0 x1 x2 x3 x4 y0 y1 y2 z2 v else v = args.getD 0 undef) [(9, .new 7 3), (10, .put 7 18)] (by kernel_rfl) (by kernel_rfl) (by kernel_rfl) ⟨⟨by simp [Held, go_sem, *], by (repeat (first | assumption | (with_reducible exact Below.refl _ _) | (with_reducible refine Below.drewN ?_ _) | (with_reducible refine Below.drew ?_) | (with_reducible refine Below.allocS ?_ _) | ((with_reducible refine Below.setCell ?_ ?_ _); rotate_left; focus (first | omega | (simp; done) | (simp; omega))) | (with_reducible refine Below.step ?_ (by assumption))))⟩, by (first | (simp; done) | (simp; omega) | omega)⟩ ?_
  repeat (first | (refine calmA_plain rfl rfl ?_ (fun K hK w1 hC => ?_); (focus (intro _ _; simp [RA]; done)); have hC' := hC.1.1; simp only [Held, and_true] at hC'; go_wp2_with (first | (refine wpList_fbin rfl rfl rfl rfl rfl (fun r n hr => ?_)) | (refine wpList_widen rfl rfl Try.underlying30 Try.underlying22 rfl (fun r n hr => ?_))); refine ⟨rfl, (by first | exact Below.refl _ _ | exact below_drewN _), hK _ ?_⟩; clear hC hC' hK K w1) | (refine calmA_check rfl rfl rfl ?_ ?_; (focus (intro _ _; simp [RA]; done))))
  refine calmA_call (f := 16) (args := _) rfl ?_ (by (intro w1; simp [execOp, resolve, invoke, go_sem]; with_reducible rfl)) (fun w1 hC => ?_) ?_
  · (intro _ _; simp [RA]; done)
  · refine (toPendulum_any _ _ _ _ _ _).mono ?_
    rintro e w2 ⟨rfl, hb⟩
    exact ⟨_, rfl, by simp, hb⟩
  rintro v hv
  simp at hv
  subst hv
  repeat (first | (refine calmA_plain rfl rfl ?_ (fun K hK w1 hC => ?_); (focus (intro _ _; simp [RA]; done)); have hC' := hC.1.1; simp only [Held, and_true] at hC'; go_wp2_with (first | (refine wpList_fbin rfl rfl rfl rfl rfl (fun r n hr => ?_)) | (refine wpList_widen rfl rfl Try.underlying30 Try.underlying22 rfl (fun r n hr => ?_))); refine ⟨rfl, (by first | exact Below.refl _ _ | exact below_drewN _), hK _ ?_⟩; clear hC hC' hK K w1) | (refine calmA_check rfl rfl rfl ?_ ?_; (focus (intro _ _; simp [RA]; done))))
  refine calmA_call (f := 22) (args := _) rfl ?_ (by (intro w1; simp [execOp, resolve, invoke, go_sem]; with_reducible rfl)) (fun w1 hC => ?_) ?_
  · (intro _ _; simp [RA]; done)
  · refine (toSwing_any _ _ _ _).mono ?_
    rintro e w2 ⟨rfl, hb⟩
    exact ⟨_, rfl, by simp, hb⟩
  rintro v hv
  simp at hv
  subst hv
  repeat (first | (refine calmA_plain rfl rfl ?_ (fun K hK w1 hC => ?_); (focus (intro _ _; simp [RA]; done)); have hC' := hC.1.1; simp only [Held, and_true] at hC'; go_wp2_with (first | (refine wpList_fbin rfl rfl rfl rfl rfl (fun r n hr => ?_)) | (refine wpList_widen rfl rfl Try.underlying30 Try.underlying22 rfl (fun r n hr => ?_))); refine ⟨rfl, (by first | exact Below.refl _ _ | exact below_drewN _), hK _ ?_⟩; clear hC hC' hK K w1) | (refine calmA_check rfl rfl rfl ?_ ?_; (focus (intro _ _; simp [RA]; done))))
  refine calmA_call (f := 31) (args := _) rfl ?_ (by (intro w1; simp [execOp, resolve, invoke, go_sem]; with_reducible rfl)) (fun w1 hC => ?_) ?_
  · (intro _ _; simp [RA]; done)
  · refine (specKickSwing_any x0 x1 x2 x3 x4 y0 y1 y2 z2 _).mono ?_
    rintro e w2 hp
    obtain ⟨v, he, hT, hb⟩ := tv_KickSwing hp
    exact ⟨v, he, by simp; exact hT, hb⟩
  rintro v hv
  simp at hv
  unfold TVKickSwing at hv
  obtain ⟨r0_0, r0_1, r0_2, rfl, ⟨q0_0, q0_1, q0_2⟩⟩ := hv
  have Hq0_0 := Lib.hid q0_0
  clear q0_0
  have Hq0_1 := Lib.hid q0_1
  clear q0_1
  have Hq0_2 := Lib.hid q0_2
  clear q0_2
  repeat (first | (refine calmA_plain rfl rfl ?_ (fun K hK w1 hC => ?_); (focus (intro _ _; simp [RA]; done)); have hC' := hC.1.1; simp only [Held, and_true] at hC'; go_wp2_with (first | (refine wpList_fbin rfl rfl rfl rfl rfl (fun r n hr => ?_)) | (refine wpList_widen rfl rfl Try.underlying30 Try.underlying22 rfl (fun r n hr => ?_))); refine ⟨rfl, (by first | exact Below.refl _ _ | exact below_drewN _), hK _ ?_⟩; clear hC hC' hK K w1) | (refine calmA_check rfl rfl rfl ?_ ?_; (focus (intro _ _; simp [RA]; done))))
  refine calmA_alloc (n := 3) (zs := #[.float .f32 0, .float .f32 0, .float .f32 0]) (t := 35) rfl rfl ?_ ?_ ?_ ?_ (fun b hb => ?_)
  · simp
  · intro a w h; simp [RA]; exact h
  · intro w; simp [execOp, go_sem]; done
  · rfl
  refine calmA_store (ia := 9) (n := 3) rfl rfl rfl rfl hb rfl ?_ ?_ ?_ ?_ ?_ ?_ ?_ ?_ ?_ ?_
  · kernel_rfl
  · intro a w h; simp [RA] at h; exact h
  · rfl
  · rfl
  · simp [Value.oneCell']
  · intro a w h; simp [RA]; exact h
  · (first | (simp; done) | (simp; omega) | (simp [*]; done) | (simp [*]; omega))
  · (first | omega | (simp [*]; done) | (simp [*]; omega))
  · rfl
  repeat (first | (refine calmA_plain rfl rfl ?_ (fun K hK w1 hC => ?_); (focus (intro _ _; simp [RA]; done)); have hC' := hC.1.1; simp only [Held, and_true] at hC'; go_wp2_with (first | (refine wpList_fbin rfl rfl rfl rfl rfl (fun r n hr => ?_)) | (refine wpList_widen rfl rfl Try.underlying30 Try.underlying22 rfl (fun r n hr => ?_))); refine ⟨rfl, (by first | exact Below.refl _ _ | exact below_drewN _), hK _ ?_⟩; clear hC hC' hK K w1) | (refine calmA_check rfl rfl rfl ?_ ?_; (focus (intro _ _; simp [RA]; done))))
  refine calmA_nil ?_
  intro w' hC hF
  have hC' := hC.1.1
  simp only [Held, and_true] at hC'
  obtain ⟨b', vs', e1, e2, hN, hS⟩ := RA_get hF (i := 10) (f := .put 7 18) (by simp) (by simp)
  simp [Act.put, Act.eval] at e1 e2
  subst e1 e2
  simp [Held, cellsAt] at hS
  have hk0 := hC'
  have hw0 := hC.1.2
  go_wp2_with fail
  refine region_calmA w (w'.heap.size) [(⟨w.heap.size, 0, none⟩, .float .f32 x0), (⟨w.heap.size, 1, none⟩, .float .f32 x1), (⟨w.heap.size, 2, none⟩, .float .f32 x2), (⟨w.heap.size, 3, none⟩, .float .f32 x3), (⟨w.heap.size, 4, none⟩, .float .f32 x4), (⟨(w.heap.size + 1), 0, none⟩, .float .f32 y0), (⟨(w.heap.size + 1), 1, none⟩, .float .f32 y1), (⟨(w.heap.size + 1), 2, none⟩, .float .f32 y2), (⟨b, 0, none⟩, .float .f32 r0_0), (⟨b, 1, none⟩, .float .f32 r0_1), (⟨b, 2, none⟩, .float .f32 r0_2)] (fun f args v => if f = 32 then TVKickSwing x0 x1 x2 x3 x4 y0 y1 y2 z2 v else v = args.getD 0 undef) [(9, .new 9 3), (10, .put 9 27)] (by kernel_rfl) (by kernel_rfl) (by kernel_rfl) ⟨⟨by simp [Held, go_sem, *], by (repeat (first | assumption | (with_reducible exact Below.refl _ _) | (with_reducible refine Below.drewN ?_ _) | (with_reducible refine Below.drew ?_) | (with_reducible refine Below.allocS ?_ _) | ((with_reducible refine Below.setCell ?_ ?_ _); rotate_left; focus (first | omega | (simp; done) | (simp; omega))) | (with_reducible refine Below.step ?_ (by assumption))))⟩, by (first | (simp; done) | (simp; omega) | omega)⟩ ?_
  repeat (first | (refine calmA_plain rfl rfl ?_ (fun K hK w1 hC => ?_); (focus (intro _ _; simp [RA]; done)); have hC' := hC.1.1; simp only [Held, and_true] at hC'; go_wp2_with (first | (refine wpList_fbin rfl rfl rfl rfl rfl (fun r n hr => ?_)) | (refine wpList_widen rfl rfl Try.underlying30 Try.underlying22 rfl (fun r n hr => ?_))); refine ⟨rfl, (by first | exact Below.refl _ _ | exact below_drewN _), hK _ ?_⟩; clear hC hC' hK K w1) | (refine calmA_check rfl rfl rfl ?_ ?_; (focus (intro _ _; simp [RA]; done))))
  refine calmA_call (f := 16) (args := _) rfl ?_ (by (intro w1; simp [execOp, resolve, invoke, go_sem]; with_reducible rfl)) (fun w1 hC => ?_) ?_
  · (intro _ _; simp [RA]; done)
  · refine (toPendulum_any _ _ _ _ _ _).mono ?_
    rintro e w2 ⟨rfl, hb⟩
    exact ⟨_, rfl, by simp, hb⟩
  rintro v hv
  simp at hv
  subst hv
  repeat (first | (refine calmA_plain rfl rfl ?_ (fun K hK w1 hC => ?_); (focus (intro _ _; simp [RA]; done)); have hC' := hC.1.1; simp only [Held, and_true] at hC'; go_wp2_with (first | (refine wpList_fbin rfl rfl rfl rfl rfl (fun r n hr => ?_)) | (refine wpList_widen rfl rfl Try.underlying30 Try.underlying22 rfl (fun r n hr => ?_))); refine ⟨rfl, (by first | exact Below.refl _ _ | exact below_drewN _), hK _ ?_⟩; clear hC hC' hK K w1) | (refine calmA_check rfl rfl rfl ?_ ?_; (focus (intro _ _; simp [RA]; done))))
  refine calmA_call (f := 22) (args := _) rfl ?_ (by (intro w1; simp [execOp, resolve, invoke, go_sem]; with_reducible rfl)) (fun w1 hC => ?_) ?_
  · (intro _ _; simp [RA]; done)
  · refine (toSwing_any _ _ _ _).mono ?_
    rintro e w2 ⟨rfl, hb⟩
    exact ⟨_, rfl, by simp, hb⟩
  rintro v hv
  simp at hv
  subst hv
  repeat (first | (refine calmA_plain rfl rfl ?_ (fun K hK w1 hC => ?_); (focus (intro _ _; simp [RA]; done)); have hC' := hC.1.1; simp only [Held, and_true] at hC'; go_wp2_with (first | (refine wpList_fbin rfl rfl rfl rfl rfl (fun r n hr => ?_)) | (refine wpList_widen rfl rfl Try.underlying30 Try.underlying22 rfl (fun r n hr => ?_))); refine ⟨rfl, (by first | exact Below.refl _ _ | exact below_drewN _), hK _ ?_⟩; clear hC hC' hK K w1) | (refine calmA_check rfl rfl rfl ?_ ?_; (focus (intro _ _; simp [RA]; done))))
  refine calmA_call (f := 32) (args := _) rfl ?_ (by (intro w1; simp [execOp, resolve, invoke, go_sem]; with_reducible rfl)) (fun w1 hC => ?_) ?_
  · (intro _ _; simp [RA]; done)
  · refine (implKickSwing_any x0 x1 x2 x3 x4 y0 y1 y2 z2 _).mono ?_
    rintro e w2 hp
    obtain ⟨v, he, hT, hb⟩ := tv_KickSwing hp
    exact ⟨v, he, by simp; exact hT, hb⟩
  rintro v hv
  simp at hv
  unfold TVKickSwing at hv
  obtain ⟨r1_0, r1_1, r1_2, rfl, ⟨q1_0, q1_1, q1_2⟩⟩ := hv
  have Hq1_0 := Lib.hid q1_0
  clear q1_0
  have Hq1_1 := Lib.hid q1_1
  clear q1_1
  have Hq1_2 := Lib.hid q1_2
  clear q1_2
  repeat (first | (refine calmA_plain rfl rfl ?_ (fun K hK w1 hC => ?_); (focus (intro _ _; simp [RA]; done)); have hC' := hC.1.1; simp only [Held, and_true] at hC'; go_wp2_with (first | (refine wpList_fbin rfl rfl rfl rfl rfl (fun r n hr => ?_)) | (refine wpList_widen rfl rfl Try.underlying30 Try.underlying22 rfl (fun r n hr => ?_))); refine ⟨rfl, (by first | exact Below.refl _ _ | exact below_drewN _), hK _ ?_⟩; clear hC hC' hK K w1) | (refine calmA_check rfl rfl rfl ?_ ?_; (focus (intro _ _; simp [RA]; done))))
  refine calmA_alloc (n := 3) (zs := #[.float .f32 0, .float .f32 0, .float .f32 0]) (t := 35) rfl rfl ?_ ?_ ?_ ?_ (fun b hb => ?_)
  · simp
  · intro a w h; simp [RA]; exact h
  · intro w; simp [execOp, go_sem]; done
  · rfl
  refine calmA_store (ia := 9) (n := 3) rfl rfl rfl rfl hb rfl ?_ ?_ ?_ ?_ ?_ ?_ ?_ ?_ ?_ ?_
  · kernel_rfl
  · intro a w h; simp [RA] at h; exact h
  · rfl
  · rfl
  · simp [Value.oneCell']
  · intro a w h; simp [RA]; exact h
  · (first | (simp; done) | (simp; omega) | (simp [*]; done) | (simp [*]; omega))
  · (first | omega | (simp [*]; done) | (simp [*]; omega))
  · rfl
  repeat (first | (refine calmA_plain rfl rfl ?_ (fun K hK w1 hC => ?_); (focus (intro _ _; simp [RA]; done)); have hC' := hC.1.1; simp only [Held, and_true] at hC'; go_wp2_with (first | (refine wpList_fbin rfl rfl rfl rfl rfl (fun r n hr => ?_)) | (refine wpList_widen rfl rfl Try.underlying30 Try.underlying22 rfl (fun r n hr => ?_))); refine ⟨rfl, (by first | exact Below.refl _ _ | exact below_drewN _), hK _ ?_⟩; clear hC hC' hK K w1) | (refine calmA_check rfl rfl rfl ?_ ?_; (focus (intro _ _; simp [RA]; done))))
  refine calmA_nil ?_
  intro w' hC hF
  have hC' := hC.1.1
  simp only [Held, and_true] at hC'
  obtain ⟨b', vs', e1, e2, hN, hS⟩ := RA_get hF (i := 10) (f := .put 9 27) (by simp) (by simp)
  simp [Act.put, Act.eval] at e1 e2
  subst e1 e2
  simp [Held, cellsAt] at hS
  go_wp2_with fail
  refine (eqSwing_any _ _ _ _ _ _ _ (Hq1_0.out.trans Hq0_0.out.symm) (Hq1_1.out.trans Hq0_1.out.symm) (Hq1_2.out.trans Hq0_2.out.symm)).mono ?_
  rintro e w9 ⟨rfl, hb⟩
  go_wp2
  go_ret
  refine ⟨rfl, ?_⟩
  (try have hB := hC.1.2)
  (repeat (first | assumption | (with_reducible exact Below.refl _ _) | (with_reducible refine Below.drewN ?_ _) | (with_reducible refine Below.drew ?_) | (with_reducible refine Below.allocS ?_ _) | ((with_reducible refine Below.setCell ?_ ?_ _); rotate_left; focus (first | omega | (simp; done) | (simp; omega))) | (with_reducible refine Below.step ?_ (by assumption))))

end Go.Proofs.Ytjfmcmdhkmcpiaa
