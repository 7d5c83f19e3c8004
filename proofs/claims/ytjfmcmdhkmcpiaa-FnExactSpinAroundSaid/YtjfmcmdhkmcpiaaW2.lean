/-
  The walks of spins around an axis.
-/
import Derived.Test.YtjfmcmdhkmcpiaaWp
import Derived.Test.YtjfmcmdhkmcpiaaW1
set_option linter.unusedVariables false
set_option linter.unusedSimpArgs false
namespace Go.Proofs.Ytjfmcmdhkmcpiaa
open Go.RowKit

def longQ (a0 a1 a2 : Nat) : Nat := rootQ (innerV a0 a1 a2 a0 a1 a2)
def V3Q (Q0 Q1 Q2 : Nat) (w : World) (e : Ending) (w' : World) : Prop := ∃ r0 r1 r2, e = .returned (.agg #[.float .f32 r0, .float .f32 r1, .float .f32 r2]) ∧ (cn .f32 r0 = Q0 ∧ cn .f32 r1 = Q1 ∧ cn .f32 r2 = Q2) ∧ Below w.heap.size w w'
set_option maxRecDepth 100000 in
set_option maxHeartbeats 8000000 in
theorem l01Scale_any (a0 a1 a2 k : Nat) (w : World) : Calls Try.prog 92 #[.agg #[.float .f32 a0, .float .f32 a1, .float .f32 a2], .float .f32 k] w (V3Q (mulC a0 k) (mulC a1 k) (mulC a2 k) w) := by
  go_enter Try.func92, Try.ntmps92
  go_wp2_with (first | (refine wpList_fbin rfl rfl rfl rfl rfl (fun r n hr => ?_)))
  refine bodyPost_ret (v := ?_) (by first | (simp [results, Try.results92, go_sem, *]; rfl) | (simp [results, Try.results92, go_sem, *]; done)) rfl ?_
  refine ⟨_, _, _, rfl, ⟨?_, ?_, ?_⟩, ?_⟩
  · unfold mulC
    simp only [Hid] at *
    simp only [*]
  · unfold mulC
    simp only [Hid] at *
    simp only [*]
  · unfold mulC
    simp only [Hid] at *
    simp only [*]
  · (repeat (first | (with_reducible exact Below.refl _ _) | (with_reducible refine Below.drewN ?_ _) | (with_reducible refine Below.drew ?_) | (with_reducible refine Below.allocS ?_ _) | ((with_reducible refine Below.setCell ?_ ?_ _); rotate_left; focus (first | omega | (simp; done) | (simp; omega))) | (with_reducible refine Below.step ?_ (by assumption))))

set_option maxRecDepth 100000 in
set_option maxHeartbeats 8000000 in
theorem ScaleVector_any (a0 a1 a2 k : Nat) (w : World) : Calls Try.prog 97 #[.agg #[.float .f32 a0, .float .f32 a1, .float .f32 a2], .float .f32 k] w (V3Q (mulC a0 k) (mulC a1 k) (mulC a2 k) w) := by
  go_enter Try.func97, Try.ntmps97
  go_wp2_with (first | (refine wpList_fbin rfl rfl rfl rfl rfl (fun r n hr => ?_)))
  refine bodyPost_ret (v := ?_) (by first | (simp [results, Try.results97, go_sem, *]; rfl) | (simp [results, Try.results97, go_sem, *]; done)) rfl ?_
  refine ⟨_, _, _, rfl, ⟨?_, ?_, ?_⟩, ?_⟩
  · unfold mulC
    simp only [Hid] at *
    simp only [*]
  · unfold mulC
    simp only [Hid] at *
    simp only [*]
  · unfold mulC
    simp only [Hid] at *
    simp only [*]
  · (repeat (first | (with_reducible exact Below.refl _ _) | (with_reducible refine Below.drewN ?_ _) | (with_reducible refine Below.drew ?_) | (with_reducible refine Below.allocS ?_ _) | ((with_reducible refine Below.setCell ?_ ?_ _); rotate_left; focus (first | omega | (simp; done) | (simp; omega))) | (with_reducible refine Below.step ?_ (by assumption))))

set_option maxRecDepth 100000 in
set_option maxHeartbeats 8000000 in
theorem l01Long_any (a0 a1 a2 : Nat) (w : World) : Calls Try.prog 93 #[.agg #[.float .f32 a0, .float .f32 a1, .float .f32 a2]] w (BF .f32 (longQ a0 a1 a2) w) := by
  go_enter Try.func93, Try.ntmps93
  go_wp2_with (first | (go_at_call 120; refine (l01Inner_any _ _ _ _ _ _ _).mono ?_; rintro e w1 ⟨ri, rfl, hq, hb⟩; have HI := Lib.hid hq; clear hq) | (go_at_call 79; refine (l01Sqrt_any _ _).mono ?_; rintro e w2 ⟨rr, n, rfl, hq, rfl⟩; have HR := Lib.hid hq; clear hq))
  go_ret
  refine ⟨_, rfl, ?_, ?_⟩
  · unfold longQ
    simp only [Hid] at *
    simp only [*]
  · (repeat (first | assumption | (with_reducible exact Below.refl _ _) | (with_reducible refine Below.drewN ?_ _) | (with_reducible refine Below.drew ?_) | (with_reducible refine Below.allocS ?_ _) | ((with_reducible refine Below.setCell ?_ ?_ _); rotate_left; focus (first | omega | (simp; done) | (simp; omega))) | (with_reducible refine Below.step ?_ (by assumption))))

set_option maxRecDepth 100000 in
set_option maxHeartbeats 8000000 in
theorem LongOf_any (a0 a1 a2 : Nat) (w : World) : Calls Try.prog 98 #[.agg #[.float .f32 a0, .float .f32 a1, .float .f32 a2]] w (BF .f32 (longQ a0 a1 a2) w) := by
  go_enter Try.func98, Try.ntmps98
  go_wp2_with (first | (go_at_call 121; refine (InnerOf_any _ _ _ _ _ _ _).mono ?_; rintro e w1 ⟨ri, rfl, hq, hb⟩; have HI := Lib.hid hq; clear hq) | (go_at_call 84; refine (RootNumber_any _ _).mono ?_; rintro e w2 ⟨rr, n, rfl, hq, rfl⟩; have HR := Lib.hid hq; clear hq))
  go_ret
  refine ⟨_, rfl, ?_, ?_⟩
  · unfold longQ
    simp only [Hid] at *
    simp only [*]
  · (repeat (first | assumption | (with_reducible exact Below.refl _ _) | (with_reducible refine Below.drewN ?_ _) | (with_reducible refine Below.drew ?_) | (with_reducible refine Below.allocS ?_ _) | ((with_reducible refine Below.setCell ?_ ?_ _); rotate_left; focus (first | omega | (simp; done) | (simp; omega))) | (with_reducible refine Below.step ?_ (by assumption))))

def turnH (t : Nat) : Nat := fbin .mul .f32 (cn .f32 1056964608) (cn .f32 t)
def turnK (a0 a1 a2 t : Nat) : Nat := fbin .quo .f32 (sineQ (turnH t)) (longQ a0 a1 a2)
def turnW (t : Nat) : Nat := sineQ (fbin .add .f32 (turnH t) (cn .f32 1048576000))
def turnV (a a0 a1 a2 t : Nat) : Nat := fbin .mul .f32 (cn .f32 a) (turnK a0 a1 a2 t)
set_option maxRecDepth 100000 in
set_option maxHeartbeats 8000000 in
theorem specSpinAround_any (a0 a1 a2 t : Nat) (w : World) : Calls Try.prog 42 #[.agg #[.float .f32 a0, .float .f32 a1, .float .f32 a2], .float .f32 t] w (VB4 ((fin3 a0 a1 a2 && finB .f32 t) && spinB (turnW t) (turnV a0 a0 a1 a2 t) (turnV a1 a0 a1 a2 t) (turnV a2 a0 a1 a2 t)) (turnW t) (turnV a0 a0 a1 a2 t) (turnV a1 a0 a1 a2 t) (turnV a2 a0 a1 a2 t) w) := by
  obtain h1 | ⟨h1, h2⟩ | ⟨h1, h2⟩ : fin3 a0 a1 a2 = false ∨ (fin3 a0 a1 a2 = true ∧ finB .f32 t = false) ∨ (fin3 a0 a1 a2 = true ∧ finB .f32 t = true) := by
    cases fin3 a0 a1 a2 <;> cases finB .f32 t <;> simp
  · go_enter Try.func42, Try.ntmps42
    go_wp2_with (first | (go_at_call 70; refine (l01VFinite_any a0 a1 a2 _).mono ?_; rintro e w1 ⟨rfl, hb⟩; have hk := Held.below hb (l := [(⟨w.heap.size, 0, none⟩, .float .f32 a0), (⟨w.heap.size, 1, none⟩, .float .f32 a1), (⟨w.heap.size, 2, none⟩, .float .f32 a2), (⟨(w.heap.size + 1), 0, none⟩, .float .f32 0), (⟨(w.heap.size + 1), 1, none⟩, .float .f32 0), (⟨(w.heap.size + 1), 2, none⟩, .float .f32 0), (⟨(w.heap.size + 1), 3, none⟩, .float .f32 0)]) (by simp [Held, go_sem, *]); simp only [Held, and_true] at hk) | (go_at_call 56; refine (l01Finite_any _ _).mono ?_; rintro e w' ⟨n, rfl, rfl⟩))
    refine bodyPost_ret (v := ?_) (by first | (simp [results, Try.results42, go_sem, *]; rfl) | (simp [results, Try.results42, go_sem, *]; done)) rfl ?_
    refine vb4_none (by simp [h1]) ?_
    (repeat (first | assumption | (with_reducible exact Below.refl _ _) | (with_reducible refine Below.drewN ?_ _) | (with_reducible refine Below.drew ?_) | (with_reducible refine Below.allocS ?_ _) | ((with_reducible refine Below.setCell ?_ ?_ _); rotate_left; focus (first | omega | (simp; done) | (simp; omega))) | (with_reducible refine Below.step ?_ (by assumption))))
  · go_enter Try.func42, Try.ntmps42
    go_wp2_with (first | (go_at_call 70; refine (l01VFinite_any a0 a1 a2 _).mono ?_; rintro e w1 ⟨rfl, hb⟩; have hk := Held.below hb (l := [(⟨w.heap.size, 0, none⟩, .float .f32 a0), (⟨w.heap.size, 1, none⟩, .float .f32 a1), (⟨w.heap.size, 2, none⟩, .float .f32 a2), (⟨(w.heap.size + 1), 0, none⟩, .float .f32 0), (⟨(w.heap.size + 1), 1, none⟩, .float .f32 0), (⟨(w.heap.size + 1), 2, none⟩, .float .f32 0), (⟨(w.heap.size + 1), 3, none⟩, .float .f32 0)]) (by simp [Held, go_sem, *]); simp only [Held, and_true] at hk) | (go_at_call 56; refine (l01Finite_any _ _).mono ?_; rintro e w' ⟨n, rfl, rfl⟩))
    refine bodyPost_ret (v := ?_) (by first | (simp [results, Try.results42, go_sem, *]; rfl) | (simp [results, Try.results42, go_sem, *]; done)) rfl ?_
    refine vb4_none (by simp [h1, h2]) ?_
    (repeat (first | assumption | (with_reducible exact Below.refl _ _) | (with_reducible refine Below.drewN ?_ _) | (with_reducible refine Below.drew ?_) | (with_reducible refine Below.allocS ?_ _) | ((with_reducible refine Below.setCell ?_ ?_ _); rotate_left; focus (first | omega | (simp; done) | (simp; omega))) | (with_reducible refine Below.step ?_ (by assumption))))
  · go_enter Try.func42, Try.ntmps42
    go_wp2_with (first | (go_at_call 70; refine (l01VFinite_any a0 a1 a2 _).mono ?_; rintro e w1 ⟨rfl, hb⟩; have hk := Held.below hb (l := [(⟨w.heap.size, 0, none⟩, .float .f32 a0), (⟨w.heap.size, 1, none⟩, .float .f32 a1), (⟨w.heap.size, 2, none⟩, .float .f32 a2), (⟨(w.heap.size + 1), 0, none⟩, .float .f32 0), (⟨(w.heap.size + 1), 1, none⟩, .float .f32 0), (⟨(w.heap.size + 1), 2, none⟩, .float .f32 0), (⟨(w.heap.size + 1), 3, none⟩, .float .f32 0)]) (by simp [Held, go_sem, *]); simp only [Held, and_true] at hk) | (go_at_call 56; refine (l01Finite_any _ _).mono ?_; rintro e w' ⟨n, rfl, rfl⟩) | (refine wpList_fbin rfl rfl rfl rfl rfl (fun r n hr => ?_)))
    refine region_calmA w (w1.heap.size) [(⟨w.heap.size, 0, none⟩, .float .f32 a0), (⟨w.heap.size, 1, none⟩, .float .f32 a1), (⟨w.heap.size, 2, none⟩, .float .f32 a2), (⟨(w.heap.size + 1), 0, none⟩, .float .f32 0), (⟨(w.heap.size + 1), 1, none⟩, .float .f32 0), (⟨(w.heap.size + 1), 2, none⟩, .float .f32 0), (⟨(w.heap.size + 1), 3, none⟩, .float .f32 0)] (fun f args v => (f = 66 ∧ ∃ r, v = .float .f32 r ∧ cn .f32 r = sineQ (cn .f32 (argF args 0 0))) ∨ (f = 93 ∧ ∃ r, v = .float .f32 r ∧ cn .f32 r = longQ (argF args 0 0) (argF args 0 1) (argF args 0 2)) ∨ (f = 92 ∧ ∃ r0 r1 r2, v = .agg #[.float .f32 r0, .float .f32 r1, .float .f32 r2] ∧ (cn .f32 r0 = mulC (argF args 0 0) (argF args 1 0) ∧ cn .f32 r1 = mulC (argF args 0 1) (argF args 1 0) ∧ cn .f32 r2 = mulC (argF args 0 2) (argF args 1 0)))) [(7, .new 7 3), (8, .put 7 26)] (by kernel_rfl) (by kernel_rfl) (by kernel_rfl) ⟨⟨by simp [Held, go_sem, *], by (repeat (first | assumption | (with_reducible exact Below.refl _ _) | (with_reducible refine Below.drewN ?_ _) | (with_reducible refine Below.drew ?_) | (with_reducible refine Below.allocS ?_ _) | ((with_reducible refine Below.setCell ?_ ?_ _); rotate_left; focus (first | omega | (simp; done) | (simp; omega))) | (with_reducible refine Below.step ?_ (by assumption))))⟩, by (first | (simp; done) | (simp; omega) | omega)⟩ ?_
    repeat (first | (first | (refine calmA_plain rfl rfl ?_ (fun K hK w1 hC => ?_); (focus (intro _ _; simp [RA]; done)); have hC' := hC.1.1; simp only [Held, and_true] at hC'; go_wp2_with (first | (refine wpList_fbin rfl rfl rfl rfl rfl (fun r n hr => ?_)) | (refine wpList_widen rfl rfl Try.underlying30 Try.underlying22 rfl (fun r n hr => ?_))); refine ⟨rfl, (by first | exact Below.refl _ _ | exact below_drewN _), hK _ ?_⟩; clear hC hC' hK K w1) | (refine calmA_check rfl rfl rfl ?_ ?_; (focus (intro _ _; simp [RA]; done)))) | (refine calmA_call (f := 66) (args := _) rfl ?_ (by (intro w1; simp [execOp, resolve, invoke, go_sem]; with_reducible rfl)) (fun w1 hC => ?_) ?_; (focus (intro _ _; simp [RA]; done)); (focus (refine (l01Sine_any _ _).mono ?_; rintro e w2 ⟨r, n, he, hq, rfl⟩; exact ⟨_, he, .inl ⟨rfl, _, rfl, hq⟩, below_drewN _⟩)); (intro v hv; simp [argF] at hv; obtain ⟨r, rfl, hq⟩ := hv; have HQ := Lib.hid hq; clear hq)) | (refine calmA_call (f := 93) (args := _) rfl ?_ (by (intro w1; simp [execOp, resolve, invoke, go_sem]; with_reducible rfl)) (fun w1 hC => ?_) ?_; (focus (intro _ _; simp [RA]; done)); (focus (refine (l01Long_any _ _ _ _).mono ?_; rintro e w2 ⟨r, he, hq, hb⟩; exact ⟨_, he, .inr (.inl ⟨rfl, _, rfl, hq⟩), hb⟩)); (intro v hv; simp [argF] at hv; obtain ⟨r, rfl, hq⟩ := hv; have HQ := Lib.hid hq; clear hq)) | (refine calmA_call (f := 92) (args := _) rfl ?_ (by (intro w1; simp [execOp, resolve, invoke, go_sem]; with_reducible rfl)) (fun w1 hC => ?_) ?_; (focus (intro _ _; simp [RA]; done)); (focus (refine (l01Scale_any _ _ _ _ _).mono ?_; rintro e w2 ⟨r0, r1, r2, he, hq, hb⟩; exact ⟨_, he, .inr (.inr ⟨rfl, _, _, _, rfl, hq⟩), hb⟩)); (intro v hv; simp [argF] at hv; obtain ⟨r0, r1, r2, rfl, hq0, hq1, hq2⟩ := hv; have HQ0 := Lib.hid hq0; have HQ1 := Lib.hid hq1; have HQ2 := Lib.hid hq2; clear hq0 hq1 hq2)))
    refine calmA_alloc (n := 3) (zs := #[.float .f32 0, .float .f32 0, .float .f32 0]) (t := 39) rfl rfl ?_ ?_ ?_ ?_ (fun b hb => ?_)
    · (first | (simp; done) | (simp [Act.put]; done))
    · intro a w h; simp [RA]; exact h
    · intro w; simp [execOp, go_sem]; done
    · rfl
    refine calmA_store (ia := 7) (n := 3) rfl rfl rfl rfl hb rfl ?_ ?_ ?_ ?_ ?_ ?_ ?_ ?_ ?_ ?_
    · kernel_rfl
    · intro a w h; simp [RA] at h; exact h
    · rfl
    · rfl
    · simp [Value.oneCell']
    · intro a w h; simp [RA]; exact h
    · (first | (simp; done) | (simp; omega) | (simp [*]; done) | (simp [*]; omega))
    · (first | omega | (simp [*]; done) | (simp [*]; omega))
    · rfl
    refine calmA_nil ?_
    intro w' hC hF
    have hC' := hC.1.1
    simp only [Held, and_true] at hC'
    obtain ⟨b', vs', e1, e2, hN, hS⟩ := RA_get hF (i := 8) (f := .put 7 26) (by simp) (by simp)
    simp [Act.put, Act.eval] at e1 e2
    subst e1 e2
    obtain ⟨y0, y1, y2, hY, hy_y0, hy_y1, hy_y2⟩ : ∃ y0 y1 y2, Held [(⟨b, 0, none⟩, .float .f32 y0), (⟨b, 1, none⟩, .float .f32 y1), (⟨b, 2, none⟩, .float .f32 y2)] w' ∧ cn .f32 y0 = turnV a0 a0 a1 a2 t ∧ cn .f32 y1 = turnV a1 a0 a1 a2 t ∧ cn .f32 y2 = turnV a2 a0 a1 a2 t := ⟨_, _, _, hS, by simp only [Hid, turnV, turnK, turnH, turnW, mulC] at *; simp only [*], by simp only [Hid, turnV, turnK, turnH, turnW, mulC] at *; simp only [*], by simp only [Hid, turnV, turnK, turnH, turnW, mulC] at *; simp only [*]⟩
    clear hS
    simp only [Held, and_true] at hY
    have HY_y0 := Lib.hid hy_y0
    clear hy_y0
    have HY_y1 := Lib.hid hy_y1
    clear hy_y1
    have HY_y2 := Lib.hid hy_y2
    clear hy_y2
    obtain ⟨bv, hbv⟩ : ∃ bv, bv = b := ⟨_, rfl⟩
    subst hbv
    have hwv := hC.1.2
    have hNv := hN
    go_wp2_with fail
    refine region_calmA w (w'.heap.size) [(⟨w.heap.size, 0, none⟩, .float .f32 a0), (⟨w.heap.size, 1, none⟩, .float .f32 a1), (⟨w.heap.size, 2, none⟩, .float .f32 a2), (⟨(w.heap.size + 1), 0, none⟩, .float .f32 0), (⟨(w.heap.size + 1), 1, none⟩, .float .f32 0), (⟨(w.heap.size + 1), 2, none⟩, .float .f32 0), (⟨(w.heap.size + 1), 3, none⟩, .float .f32 0), (⟨bv, 0, none⟩, .float .f32 y0), (⟨bv, 1, none⟩, .float .f32 y1), (⟨bv, 2, none⟩, .float .f32 y2)] (fun f args v => (f = 66 ∧ ∃ r, v = .float .f32 r ∧ cn .f32 r = sineQ (cn .f32 (argF args 0 0))) ∨ (f = 93 ∧ ∃ r, v = .float .f32 r ∧ cn .f32 r = longQ (argF args 0 0) (argF args 0 1) (argF args 0 2)) ∨ (f = 92 ∧ ∃ r0 r1 r2, v = .agg #[.float .f32 r0, .float .f32 r1, .float .f32 r2] ∧ (cn .f32 r0 = mulC (argF args 0 0) (argF args 1 0) ∧ cn .f32 r1 = mulC (argF args 0 1) (argF args 1 0) ∧ cn .f32 r2 = mulC (argF args 0 2) (argF args 1 0)))) [(10, .new 8 4), (11, .put 8 36)] (by kernel_rfl) (by kernel_rfl) (by kernel_rfl) ⟨⟨by simp [Held, go_sem, *], by (repeat (first | assumption | (with_reducible exact Below.refl _ _) | (with_reducible refine Below.drewN ?_ _) | (with_reducible refine Below.drew ?_) | (with_reducible refine Below.allocS ?_ _) | ((with_reducible refine Below.setCell ?_ ?_ _); rotate_left; focus (first | omega | (simp; done) | (simp; omega))) | (with_reducible refine Below.step ?_ (by assumption))))⟩, by (first | (simp; done) | (simp; omega) | omega)⟩ ?_
    repeat (first | (first | (refine calmA_plain rfl rfl ?_ (fun K hK w1 hC => ?_); (focus (intro _ _; simp [RA]; done)); have hC' := hC.1.1; simp only [Held, and_true] at hC'; go_wp2_with (first | (refine wpList_fbin rfl rfl rfl rfl rfl (fun r n hr => ?_)) | (refine wpList_widen rfl rfl Try.underlying30 Try.underlying22 rfl (fun r n hr => ?_))); refine ⟨rfl, (by first | exact Below.refl _ _ | exact below_drewN _), hK _ ?_⟩; clear hC hC' hK K w1) | (refine calmA_check rfl rfl rfl ?_ ?_; (focus (intro _ _; simp [RA]; done)))) | (refine calmA_call (f := 66) (args := _) rfl ?_ (by (intro w1; simp [execOp, resolve, invoke, go_sem]; with_reducible rfl)) (fun w1 hC => ?_) ?_; (focus (intro _ _; simp [RA]; done)); (focus (refine (l01Sine_any _ _).mono ?_; rintro e w2 ⟨r, n, he, hq, rfl⟩; exact ⟨_, he, .inl ⟨rfl, _, rfl, hq⟩, below_drewN _⟩)); (intro v hv; simp [argF] at hv; obtain ⟨r, rfl, hq⟩ := hv; have HQ := Lib.hid hq; clear hq)))
    refine calmA_alloc (n := 4) (zs := #[.float .f32 0, .float .f32 0, .float .f32 0, .float .f32 0]) (t := 60) rfl rfl ?_ ?_ ?_ ?_ (fun b hb => ?_)
    · (first | (simp; done) | (simp [Act.put]; done))
    · intro a w h; simp [RA]; exact h
    · intro w; simp [execOp, go_sem]; done
    · rfl
    refine calmA_store (ia := 10) (n := 4) rfl rfl rfl rfl hb rfl ?_ ?_ ?_ ?_ ?_ ?_ ?_ ?_ ?_ ?_
    · kernel_rfl
    · intro a w h; simp [RA] at h; exact h
    · rfl
    · rfl
    · simp [Value.oneCell']
    · intro a w h; simp [RA]; exact h
    · (first | (simp; done) | (simp; omega) | (simp [*]; done) | (simp [*]; omega))
    · (first | omega | (simp [*]; done) | (simp [*]; omega))
    · rfl
    refine calmA_nil ?_
    intro w' hC hF
    have hC' := hC.1.1
    simp only [Held, and_true] at hC'
    obtain ⟨b', vs', e1, e2, hN, hS⟩ := RA_get hF (i := 11) (f := .put 8 36) (by simp) (by simp)
    simp [Act.put, Act.eval] at e1 e2
    subst e1 e2
    obtain ⟨z0, y0, y1, y2, hY, hy_z0, hy_y0, hy_y1, hy_y2⟩ : ∃ z0 y0 y1 y2, Held [(⟨b, 0, none⟩, .float .f32 z0), (⟨b, 1, none⟩, .float .f32 y0), (⟨b, 2, none⟩, .float .f32 y1), (⟨b, 3, none⟩, .float .f32 y2)] w' ∧ cn .f32 z0 = turnW t ∧ cn .f32 y0 = turnV a0 a0 a1 a2 t ∧ cn .f32 y1 = turnV a1 a0 a1 a2 t ∧ cn .f32 y2 = turnV a2 a0 a1 a2 t := ⟨_, _, _, _, hS, by simp only [Hid, turnV, turnK, turnH, turnW, mulC] at *; simp only [*], by simp only [Hid, turnV, turnK, turnH, turnW, mulC] at *; simp only [*], by simp only [Hid, turnV, turnK, turnH, turnW, mulC] at *; simp only [*], by simp only [Hid, turnV, turnK, turnH, turnW, mulC] at *; simp only [*]⟩
    clear hS
    simp only [Held, and_true] at hY
    have HY_z0 := Lib.hid hy_z0
    clear hy_z0
    have HY_y0 := Lib.hid hy_y0
    clear hy_y0
    have HY_y1 := Lib.hid hy_y1
    clear hy_y1
    have HY_y2 := Lib.hid hy_y2
    clear hy_y2
    go_wp2_with (first | (go_at_call 94; refine (l04Spin_any z0 y0 y1 y2 _ _ ?_ ?_ ?_ ?_).mono ?_; (focus (simp [go_sem, *]; done)); (focus (simp [go_sem, *]; done)); (focus (simp [go_sem, *]; done)); (focus (simp [go_sem, *]; done)); rintro e w9 ⟨n9, rfl, rfl⟩))
    all_goals
      refine bodyPost_ret (v := ?_) (by first | (simp [results, Try.results42, go_sem, *]; rfl) | (simp [results, Try.results42, go_sem, *]; done)) rfl ?_
      first
        | ((refine vb4_toldT ⟨HY_z0.out, HY_y0.out, HY_y1.out, HY_y2.out⟩ (by simp [h1, h2]) ‹(!spinB _ _ _ _) = false› ?_); ((have hB := hC.1.2; (repeat (first | assumption | (with_reducible exact Below.refl _ _) | (with_reducible refine Below.drewN ?_ _) | (with_reducible refine Below.drew ?_) | (with_reducible refine Below.allocS ?_ _) | ((with_reducible refine Below.setCell ?_ ?_ _); rotate_left; focus (first | omega | (simp; done) | (simp; omega))) | (with_reducible refine Below.step ?_ (by assumption))))); done))
        | ((refine vb4_badT ⟨HY_z0.out, HY_y0.out, HY_y1.out, HY_y2.out⟩ (by simp [h1, h2]) ‹(!spinB _ _ _ _) = true› ?_); ((have hB := hC.1.2; (repeat (first | assumption | (with_reducible exact Below.refl _ _) | (with_reducible refine Below.drewN ?_ _) | (with_reducible refine Below.drew ?_) | (with_reducible refine Below.allocS ?_ _) | ((with_reducible refine Below.setCell ?_ ?_ _); rotate_left; focus (first | omega | (simp; done) | (simp; omega))) | (with_reducible refine Below.step ?_ (by assumption))))); done))

set_option maxRecDepth 100000 in
set_option maxHeartbeats 8000000 in
theorem implSpinAround_any (a0 a1 a2 t : Nat) (w : World) : Calls Try.prog 44 #[.agg #[.float .f32 a0, .float .f32 a1, .float .f32 a2], .float .f32 t] w (VB4 ((fin3 a0 a1 a2 && finB .f32 t) && spinB (turnW t) (turnV a0 a0 a1 a2 t) (turnV a1 a0 a1 a2 t) (turnV a2 a0 a1 a2 t)) (turnW t) (turnV a0 a0 a1 a2 t) (turnV a1 a0 a1 a2 t) (turnV a2 a0 a1 a2 t) w) := by
  have hh : Hid (∀ x, fbin .quo .f32 x (cn .f32 1073741824) = fbin .mul .f32 (cn .f32 1056964608) x) := half_cn
  obtain h1 | ⟨h1, h2⟩ | ⟨h1, h2⟩ : fin3 a0 a1 a2 = false ∨ (fin3 a0 a1 a2 = true ∧ finB .f32 t = false) ∨ (fin3 a0 a1 a2 = true ∧ finB .f32 t = true) := by
    cases fin3 a0 a1 a2 <;> cases finB .f32 t <;> simp
  · go_enter Try.func44, Try.ntmps44
    go_wp2_with (first | (go_at_call 95; refine (finiteVector_any a0 a1 a2 _).mono ?_; rintro e w1 ⟨rfl, hb⟩; have hk := Held.below hb (l := [(⟨w.heap.size, 0, none⟩, .float .f32 a0), (⟨w.heap.size, 1, none⟩, .float .f32 a1), (⟨w.heap.size, 2, none⟩, .float .f32 a2), (⟨(w.heap.size + 1), 0, none⟩, .float .f32 0), (⟨(w.heap.size + 1), 1, none⟩, .float .f32 0), (⟨(w.heap.size + 1), 2, none⟩, .float .f32 0), (⟨(w.heap.size + 1), 3, none⟩, .float .f32 0)]) (by simp [Held, go_sem, *]); simp only [Held, and_true] at hk) | (go_at_call 96; refine (IsFinite_any _ _).mono ?_; rintro e w' ⟨n, rfl, rfl⟩))
    refine bodyPost_ret (v := ?_) (by first | (simp [results, Try.results44, go_sem, *]; rfl) | (simp [results, Try.results44, go_sem, *]; done)) rfl ?_
    refine vb4_none (by simp [h1]) ?_
    (repeat (first | assumption | (with_reducible exact Below.refl _ _) | (with_reducible refine Below.drewN ?_ _) | (with_reducible refine Below.drew ?_) | (with_reducible refine Below.allocS ?_ _) | ((with_reducible refine Below.setCell ?_ ?_ _); rotate_left; focus (first | omega | (simp; done) | (simp; omega))) | (with_reducible refine Below.step ?_ (by assumption))))
  · go_enter Try.func44, Try.ntmps44
    go_wp2_with (first | (go_at_call 95; refine (finiteVector_any a0 a1 a2 _).mono ?_; rintro e w1 ⟨rfl, hb⟩; have hk := Held.below hb (l := [(⟨w.heap.size, 0, none⟩, .float .f32 a0), (⟨w.heap.size, 1, none⟩, .float .f32 a1), (⟨w.heap.size, 2, none⟩, .float .f32 a2), (⟨(w.heap.size + 1), 0, none⟩, .float .f32 0), (⟨(w.heap.size + 1), 1, none⟩, .float .f32 0), (⟨(w.heap.size + 1), 2, none⟩, .float .f32 0), (⟨(w.heap.size + 1), 3, none⟩, .float .f32 0)]) (by simp [Held, go_sem, *]); simp only [Held, and_true] at hk) | (go_at_call 96; refine (IsFinite_any _ _).mono ?_; rintro e w' ⟨n, rfl, rfl⟩))
    refine bodyPost_ret (v := ?_) (by first | (simp [results, Try.results44, go_sem, *]; rfl) | (simp [results, Try.results44, go_sem, *]; done)) rfl ?_
    refine vb4_none (by simp [h1, h2]) ?_
    (repeat (first | assumption | (with_reducible exact Below.refl _ _) | (with_reducible refine Below.drewN ?_ _) | (with_reducible refine Below.drew ?_) | (with_reducible refine Below.allocS ?_ _) | ((with_reducible refine Below.setCell ?_ ?_ _); rotate_left; focus (first | omega | (simp; done) | (simp; omega))) | (with_reducible refine Below.step ?_ (by assumption))))
  · go_enter Try.func44, Try.ntmps44
    go_wp2_with (first | (go_at_call 95; refine (finiteVector_any a0 a1 a2 _).mono ?_; rintro e w1 ⟨rfl, hb⟩; have hk := Held.below hb (l := [(⟨w.heap.size, 0, none⟩, .float .f32 a0), (⟨w.heap.size, 1, none⟩, .float .f32 a1), (⟨w.heap.size, 2, none⟩, .float .f32 a2), (⟨(w.heap.size + 1), 0, none⟩, .float .f32 0), (⟨(w.heap.size + 1), 1, none⟩, .float .f32 0), (⟨(w.heap.size + 1), 2, none⟩, .float .f32 0), (⟨(w.heap.size + 1), 3, none⟩, .float .f32 0)]) (by simp [Held, go_sem, *]); simp only [Held, and_true] at hk) | (go_at_call 96; refine (IsFinite_any _ _).mono ?_; rintro e w' ⟨n, rfl, rfl⟩) | (refine wpList_fbin rfl rfl rfl rfl rfl (fun r n hr => ?_)))
    refine region_calmA w (w1.heap.size) [(⟨w.heap.size, 0, none⟩, .float .f32 a0), (⟨w.heap.size, 1, none⟩, .float .f32 a1), (⟨w.heap.size, 2, none⟩, .float .f32 a2), (⟨(w.heap.size + 1), 0, none⟩, .float .f32 0), (⟨(w.heap.size + 1), 1, none⟩, .float .f32 0), (⟨(w.heap.size + 1), 2, none⟩, .float .f32 0), (⟨(w.heap.size + 1), 3, none⟩, .float .f32 0)] (fun f args v => (f = 68 ∧ ∃ r, v = .float .f32 r ∧ cn .f32 r = sineQ (cn .f32 (argF args 0 0))) ∨ (f = 98 ∧ ∃ r, v = .float .f32 r ∧ cn .f32 r = longQ (argF args 0 0) (argF args 0 1) (argF args 0 2)) ∨ (f = 97 ∧ ∃ r0 r1 r2, v = .agg #[.float .f32 r0, .float .f32 r1, .float .f32 r2] ∧ (cn .f32 r0 = mulC (argF args 0 0) (argF args 1 0) ∧ cn .f32 r1 = mulC (argF args 0 1) (argF args 1 0) ∧ cn .f32 r2 = mulC (argF args 0 2) (argF args 1 0)))) [(7, .new 7 3), (8, .put 7 25)] (by kernel_rfl) (by kernel_rfl) (by kernel_rfl) ⟨⟨by simp [Held, go_sem, *], by (repeat (first | assumption | (with_reducible exact Below.refl _ _) | (with_reducible refine Below.drewN ?_ _) | (with_reducible refine Below.drew ?_) | (with_reducible refine Below.allocS ?_ _) | ((with_reducible refine Below.setCell ?_ ?_ _); rotate_left; focus (first | omega | (simp; done) | (simp; omega))) | (with_reducible refine Below.step ?_ (by assumption))))⟩, by (first | (simp; done) | (simp; omega) | omega)⟩ ?_
    repeat (first | (first | (refine calmA_plain rfl rfl ?_ (fun K hK w1 hC => ?_); (focus (intro _ _; simp [RA]; done)); have hC' := hC.1.1; simp only [Held, and_true] at hC'; go_wp2_with (first | (refine wpList_fbin rfl rfl rfl rfl rfl (fun r n hr => ?_)) | (refine wpList_widen rfl rfl Try.underlying30 Try.underlying22 rfl (fun r n hr => ?_))); refine ⟨rfl, (by first | exact Below.refl _ _ | exact below_drewN _), hK _ ?_⟩; clear hC hC' hK K w1) | (refine calmA_check rfl rfl rfl ?_ ?_; (focus (intro _ _; simp [RA]; done)))) | (refine calmA_call (f := 68) (args := _) rfl ?_ (by (intro w1; simp [execOp, resolve, invoke, go_sem]; with_reducible rfl)) (fun w1 hC => ?_) ?_; (focus (intro _ _; simp [RA]; done)); (focus (refine (SineTurns_any _ _).mono ?_; rintro e w2 ⟨r, n, he, hq, rfl⟩; exact ⟨_, he, .inl ⟨rfl, _, rfl, hq⟩, below_drewN _⟩)); (intro v hv; simp [argF] at hv; obtain ⟨r, rfl, hq⟩ := hv; have HQ := Lib.hid hq; clear hq)) | (refine calmA_call (f := 98) (args := _) rfl ?_ (by (intro w1; simp [execOp, resolve, invoke, go_sem]; with_reducible rfl)) (fun w1 hC => ?_) ?_; (focus (intro _ _; simp [RA]; done)); (focus (refine (LongOf_any _ _ _ _).mono ?_; rintro e w2 ⟨r, he, hq, hb⟩; exact ⟨_, he, .inr (.inl ⟨rfl, _, rfl, hq⟩), hb⟩)); (intro v hv; simp [argF] at hv; obtain ⟨r, rfl, hq⟩ := hv; have HQ := Lib.hid hq; clear hq)) | (refine calmA_call (f := 97) (args := _) rfl ?_ (by (intro w1; simp [execOp, resolve, invoke, go_sem]; with_reducible rfl)) (fun w1 hC => ?_) ?_; (focus (intro _ _; simp [RA]; done)); (focus (refine (ScaleVector_any _ _ _ _ _).mono ?_; rintro e w2 ⟨r0, r1, r2, he, hq, hb⟩; exact ⟨_, he, .inr (.inr ⟨rfl, _, _, _, rfl, hq⟩), hb⟩)); (intro v hv; simp [argF] at hv; obtain ⟨r0, r1, r2, rfl, hq0, hq1, hq2⟩ := hv; have HQ0 := Lib.hid hq0; have HQ1 := Lib.hid hq1; have HQ2 := Lib.hid hq2; clear hq0 hq1 hq2)))
    refine calmA_alloc (n := 3) (zs := #[.float .f32 0, .float .f32 0, .float .f32 0]) (t := 39) rfl rfl ?_ ?_ ?_ ?_ (fun b hb => ?_)
    · (first | (simp; done) | (simp [Act.put]; done))
    · intro a w h; simp [RA]; exact h
    · intro w; simp [execOp, go_sem]; done
    · rfl
    refine calmA_store (ia := 7) (n := 3) rfl rfl rfl rfl hb rfl ?_ ?_ ?_ ?_ ?_ ?_ ?_ ?_ ?_ ?_
    · kernel_rfl
    · intro a w h; simp [RA] at h; exact h
    · rfl
    · rfl
    · simp [Value.oneCell']
    · intro a w h; simp [RA]; exact h
    · (first | (simp; done) | (simp; omega) | (simp [*]; done) | (simp [*]; omega))
    · (first | omega | (simp [*]; done) | (simp [*]; omega))
    · rfl
    refine calmA_nil ?_
    intro w' hC hF
    have hC' := hC.1.1
    simp only [Held, and_true] at hC'
    obtain ⟨b', vs', e1, e2, hN, hS⟩ := RA_get hF (i := 8) (f := .put 7 25) (by simp) (by simp)
    simp [Act.put, Act.eval] at e1 e2
    subst e1 e2
    obtain ⟨y0, y1, y2, hY, hy_y0, hy_y1, hy_y2⟩ : ∃ y0 y1 y2, Held [(⟨b, 0, none⟩, .float .f32 y0), (⟨b, 1, none⟩, .float .f32 y1), (⟨b, 2, none⟩, .float .f32 y2)] w' ∧ cn .f32 y0 = turnV a0 a0 a1 a2 t ∧ cn .f32 y1 = turnV a1 a0 a1 a2 t ∧ cn .f32 y2 = turnV a2 a0 a1 a2 t := ⟨_, _, _, hS, by simp only [Hid, turnV, turnK, turnH, turnW, mulC] at *; simp only [*], by simp only [Hid, turnV, turnK, turnH, turnW, mulC] at *; simp only [*], by simp only [Hid, turnV, turnK, turnH, turnW, mulC] at *; simp only [*]⟩
    clear hS
    simp only [Held, and_true] at hY
    have HY_y0 := Lib.hid hy_y0
    clear hy_y0
    have HY_y1 := Lib.hid hy_y1
    clear hy_y1
    have HY_y2 := Lib.hid hy_y2
    clear hy_y2
    obtain ⟨bv, hbv⟩ : ∃ bv, bv = b := ⟨_, rfl⟩
    subst hbv
    have hwv := hC.1.2
    have hNv := hN
    go_wp2_with fail
    refine region_calmA_tail 13 w (w'.heap.size) [(⟨w.heap.size, 0, none⟩, .float .f32 a0), (⟨w.heap.size, 1, none⟩, .float .f32 a1), (⟨w.heap.size, 2, none⟩, .float .f32 a2), (⟨(w.heap.size + 1), 0, none⟩, .float .f32 0), (⟨(w.heap.size + 1), 1, none⟩, .float .f32 0), (⟨(w.heap.size + 1), 2, none⟩, .float .f32 0), (⟨(w.heap.size + 1), 3, none⟩, .float .f32 0), (⟨bv, 0, none⟩, .float .f32 y0), (⟨bv, 1, none⟩, .float .f32 y1), (⟨bv, 2, none⟩, .float .f32 y2)] (fun f args v => (f = 99 ∧ v = .tuple #[.agg #[.float .f32 (condF (spinB (argF args 0 0) (argF args 0 1) (argF args 0 2) (argF args 0 3)) (argF args 0 0)), .float .f32 (condF (spinB (argF args 0 0) (argF args 0 1) (argF args 0 2) (argF args 0 3)) (argF args 0 1)), .float .f32 (condF (spinB (argF args 0 0) (argF args 0 1) (argF args 0 2) (argF args 0 3)) (argF args 0 2)), .float .f32 (condF (spinB (argF args 0 0) (argF args 0 1) (argF args 0 2) (argF args 0 3)) (argF args 0 3))], .bool (spinB (argF args 0 0) (argF args 0 1) (argF args 0 2) (argF args 0 3))]) ∨ (f = 68 ∧ ∃ r, v = .float .f32 r ∧ cn .f32 r = sineQ (cn .f32 (argF args 0 0)))) [] (by kernel_rfl) (by kernel_rfl) (by kernel_rfl) ⟨⟨by simp [Held, go_sem, *], by (repeat (first | assumption | (with_reducible exact Below.refl _ _) | (with_reducible refine Below.drewN ?_ _) | (with_reducible refine Below.drew ?_) | (with_reducible refine Below.allocS ?_ _) | ((with_reducible refine Below.setCell ?_ ?_ _); rotate_left; focus (first | omega | (simp; done) | (simp; omega))) | (with_reducible refine Below.step ?_ (by assumption))))⟩, by (first | (simp; done) | (simp; omega) | omega)⟩ ?_
    simp only [List.take_succ_cons, List.take_zero, List.drop_succ_cons, List.drop_zero]
    repeat (first | (first | (refine calmA_plain rfl rfl ?_ (fun K hK w1 hC => ?_); (focus (intro _ _; simp [RA]; done)); have hC' := hC.1.1; simp only [Held, and_true] at hC'; go_wp2_with (first | (refine wpList_fbin rfl rfl rfl rfl rfl (fun r n hr => ?_)) | (refine wpList_widen rfl rfl Try.underlying30 Try.underlying22 rfl (fun r n hr => ?_))); refine ⟨rfl, (by first | exact Below.refl _ _ | exact below_drewN _), hK _ ?_⟩; clear hC hC' hK K w1) | (refine calmA_check rfl rfl rfl ?_ ?_; (focus (intro _ _; simp [RA]; done)))) | (refine calmA_call (f := 68) (args := _) rfl ?_ (by (intro w1; simp [execOp, resolve, invoke, go_sem]; with_reducible rfl)) (fun w1 hC => ?_) ?_; (focus (intro _ _; simp [RA]; done)); (focus (refine (SineTurns_any _ _).mono ?_; rintro e w2 ⟨r, n, he, hq, rfl⟩; exact ⟨_, he, .inr ⟨rfl, _, rfl, hq⟩, below_drewN _⟩)); (intro v hv; simp [argF] at hv; obtain ⟨r, rfl, hq⟩ := hv; have HQ := Lib.hid hq; clear hq)) | (refine calmA_call (f := 99) (args := _) rfl ?_ (by (intro w1; simp [execOp, resolve, invoke, go_sem]; with_reducible rfl)) (fun w1 hC => ?_) ?_; (focus (intro _ _; simp [RA]; done)); (focus (refine (toldSpin_any _ _ _ _ _).mono ?_; rintro e w2 ⟨rfl, hb⟩; exact ⟨_, rfl, .inl ⟨rfl, (by simp [argF])⟩, hb⟩)); (intro v hv; simp [argF] at hv; subst hv)))
    refine calmA_nil ?_
    intro w' hC hF
    have hC' := hC.1.1
    simp only [Held, and_true] at hC'
    go_wp2_with fail
    refine bodyPost_ret (v := ?_) (by first | (simp [results, Try.results44, go_sem, *]; rfl) | (simp [results, Try.results44, go_sem, *]; done)) rfl ?_
    refine vb4_of_told (Q0 := turnW t) (Q1 := turnV a0 a0 a1 a2 t) (Q2 := turnV a1 a0 a1 a2 t) (Q3 := turnV a2 a0 a1 a2 t) ⟨by simp only [Hid, turnV, turnK, turnH, turnW, mulC] at *; simp only [*], by simp only [Hid, turnV, turnK, turnH, turnW, mulC] at *; simp only [*], by simp only [Hid, turnV, turnK, turnH, turnW, mulC] at *; simp only [*], by simp only [Hid, turnV, turnK, turnH, turnW, mulC] at *; simp only [*]⟩ (by simp [h1, h2]) ?_
    (have hB := hC.1.2; (repeat (first | assumption | (with_reducible exact Below.refl _ _) | (with_reducible refine Below.drewN ?_ _) | (with_reducible refine Below.drew ?_) | (with_reducible refine Below.allocS ?_ _) | ((with_reducible refine Below.setCell ?_ ?_ _); rotate_left; focus (first | omega | (simp; done) | (simp; omega))) | (with_reducible refine Below.step ?_ (by assumption)))))

set_option maxRecDepth 100000 in
set_option maxHeartbeats 4000000 in
theorem lawSpinAround_walk (x0 x1 x2 : Nat) (z1 : Nat) (_ : x0 < 4294967296) (_ : x1 < 4294967296) (_ : x2 < 4294967296) (_ : z1 < 4294967296) (w : World) : Calls Try.prog 11 #[.agg #[.float .f32 x0, .float .f32 x1, .float .f32 x2], .float .f32 z1] w fun e w' => e = .returned (.bool true) ∧ Below w.heap.size w w' := by
  go_enter Try.func11, Try.ntmps11
  go_wp2_with fail
  refine (toVector_any x0 x1 x2 _).mono ?_
  rintro e w0 ⟨rfl, hb⟩
  have hk := Held.below hb (l := [(⟨w.heap.size, 0, none⟩, .float .f32 x0), (⟨w.heap.size, 1, none⟩, .float .f32 x1), (⟨w.heap.size, 2, none⟩, .float .f32 x2)]) (by simp [Held, go_sem, *])
  simp only [Held, and_true] at hk
  go_wp2_with fail
  refine (specSpinAround_any x0 x1 x2 z1 _).mono ?_
  rintro e w1 ⟨r0_0, r0_1, r0_2, r0_3, rfl, ⟨q0_0, q0_1, q0_2, q0_3⟩, hb⟩
  have Hq0_0 := Lib.hid q0_0
  clear q0_0
  have Hq0_1 := Lib.hid q0_1
  clear q0_1
  have Hq0_2 := Lib.hid q0_2
  clear q0_2
  have Hq0_3 := Lib.hid q0_3
  clear q0_3
  have hk := Held.below hb (l := [(⟨w.heap.size, 0, none⟩, .float .f32 x0), (⟨w.heap.size, 1, none⟩, .float .f32 x1), (⟨w.heap.size, 2, none⟩, .float .f32 x2)]) (by simp [Held, go_sem, *])
  simp only [Held, and_true] at hk
  go_wp2_with fail
  refine (toVector_any x0 x1 x2 _).mono ?_
  rintro e w2 ⟨rfl, hb⟩
  have hk := Held.below hb (l := [(⟨w.heap.size, 0, none⟩, .float .f32 x0), (⟨w.heap.size, 1, none⟩, .float .f32 x1), (⟨w.heap.size, 2, none⟩, .float .f32 x2), (⟨w1.heap.size, 0, none⟩, .float .f32 r0_0), (⟨w1.heap.size, 1, none⟩, .float .f32 r0_1), (⟨w1.heap.size, 2, none⟩, .float .f32 r0_2), (⟨w1.heap.size, 3, none⟩, .float .f32 r0_3)]) (by simp [Held, go_sem, *])
  simp only [Held, and_true] at hk
  go_wp2_with fail
  refine (implSpinAround_any x0 x1 x2 z1 _).mono ?_
  rintro e w3 ⟨r1_0, r1_1, r1_2, r1_3, rfl, ⟨q1_0, q1_1, q1_2, q1_3⟩, hb⟩
  have Hq1_0 := Lib.hid q1_0
  clear q1_0
  have Hq1_1 := Lib.hid q1_1
  clear q1_1
  have Hq1_2 := Lib.hid q1_2
  clear q1_2
  have Hq1_3 := Lib.hid q1_3
  clear q1_3
  have hk := Held.below hb (l := [(⟨w.heap.size, 0, none⟩, .float .f32 x0), (⟨w.heap.size, 1, none⟩, .float .f32 x1), (⟨w.heap.size, 2, none⟩, .float .f32 x2), (⟨w1.heap.size, 0, none⟩, .float .f32 r0_0), (⟨w1.heap.size, 1, none⟩, .float .f32 r0_1), (⟨w1.heap.size, 2, none⟩, .float .f32 r0_2), (⟨w1.heap.size, 3, none⟩, .float .f32 r0_3)]) (by simp [Held, go_sem, *])
  simp only [Held, and_true] at hk
  go_wp2_with fail
  refine (eqSpin_any _ _ _ _ _ _ _ _ _ (Hq1_0.out.trans Hq0_0.out.symm) (Hq1_1.out.trans Hq0_1.out.symm) (Hq1_2.out.trans Hq0_2.out.symm) (Hq1_3.out.trans Hq0_3.out.symm)).mono ?_
  rintro e w9 ⟨rfl, hb⟩
  go_wp2
  go_ret
  refine ⟨rfl, ?_⟩
  (try have hB := hC.1.2)
  (repeat (first | assumption | (with_reducible exact Below.refl _ _) | (with_reducible refine Below.drewN ?_ _) | (with_reducible refine Below.drew ?_) | (with_reducible refine Below.allocS ?_ _) | ((with_reducible refine Below.setCell ?_ ?_ _); rotate_left; focus (first | omega | (simp; done) | (simp; omega))) | (with_reducible refine Below.step ?_ (by assumption))))

end Go.Proofs.Ytjfmcmdhkmcpiaa
