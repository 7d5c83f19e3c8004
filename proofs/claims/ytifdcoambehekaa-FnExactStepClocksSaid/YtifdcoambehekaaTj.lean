/-
  The walks of clocks that step; the laws RatesOf and StepClocks.
-/
import Derived.Test.YtifdcoambehekaaTi
set_option linter.unusedVariables false
set_option linter.unusedSimpArgs false
namespace Go.Proofs.Ytifdcoambehekaa
open Go.RowKit

theorem levelOkC_any (y : Nat) (w : World) : Calls Try.prog 99 #[.float .f32 y] w (RB (levelB y) w) := by
  cases h1 : finB .f32 y <;> cases h2 : geF .f32 y 0
  all_goals
    go_enter Try.func99, Try.ntmps99
    go_wp2_with (first | (go_at_call 104; refine (IsFinite_any _ _).mono ?_; rintro e w' ⟨n9, rfl, rfl⟩))
    go_ret
    exact ⟨_, ret_bool (by unfold levelB; simp [*]), rfl⟩

theorem l05Least_any (y : Nat) (w : World) : Calls Try.prog 97 #[.float .f32 y] w (RB (levelB y) w) := by
  cases h1 : finB .f32 y <;> cases h2 : geF .f32 y 0
  all_goals
    go_enter Try.func97, Try.ntmps97
    go_wp2_with (first | (go_at_call 80; refine (l01Finite_any _ _).mono ?_; rintro e w' ⟨n9, rfl, rfl⟩))
    go_ret
    exact ⟨_, ret_bool (by unfold levelB; simp [*]), rfl⟩

theorem implRatesOf_lit {n m : Nat} {l lk : List Nat} {B : Bool} (hB : (clocksB n l m lk && upto (fun j => finB .f32 (rateC n l lk j)) n) = B) (v v' : Value) (w : World) (h : RowAt w v 2 n (fl l)) (h' : RowAt w v' 1 m (fl lk)) : Calls Try.prog 35 #[.agg #[v, v']] w (GiveL (cN B n) (cL B (ratesL n l lk)) B w) := hB ▸ implRatesOf_any v v' n m l lk w h h'

theorem specRatesOf_lit {n m : Nat} {l lk : List Nat} {B : Bool} (hB : (clocksB n l m lk && upto (fun j => finB .f32 (rateC n l lk j)) n) = B) (v v' : Value) (w : World) (h : RowAt w v 2 n (fl l)) (h' : RowAt w v' 1 m (fl lk)) : Calls Try.prog 34 #[.agg #[v, v']] w (GiveL (cN B n) (cL B (ratesL n l lk)) B w) := hB ▸ specRatesOf_any v v' n m l lk w h h'

set_option maxRecDepth 100000 in
set_option maxHeartbeats 8000000 in
theorem StepClocks1_any (v v' u : Value) (n : Nat) (l lk : List Nat) (p q s y i : Nat) (w : World) (h : RowAt w v 2 n (fl l)) (hu : RowAt w u 1 n (fl (ratesL n l lk))) (hp : Held [(⟨p, 0, none⟩, v), (⟨p, 1, none⟩, v')] w) (hq : Held [(⟨q, 0, none⟩, .float .f32 y)] w) (hs : Held [(⟨s, 0, none⟩, u)] w) (hi : i < n) (hn : n ≤ 12) :
    Calls Try.prog 100 #[.int .i64 (i : Int), .pointer (some ⟨p, 0, none⟩), .pointer (some ⟨q, 0, none⟩), .pointer (some ⟨s, 0, none⟩)] w (BF .f32 (stepQ n l lk y i) w) := by
  obtain ⟨h1, h2, ao, cap, rfl, h3⟩ := h
  obtain ⟨b, o, rfl, hbl, hcell⟩ := h3.resolve_left (by omega)
  obtain ⟨g1, g2, ao', cap', rfl, g3⟩ := hu
  obtain ⟨b', o', rfl, hbl', hcell'⟩ := g3.resolve_left (by omega)
  rw [fl_length] at h1 g1
  obtain ⟨x0, hx0⟩ : ∃ x, Hid (l.getD (i * 2) 0 = x) := ⟨_, rfl⟩
  have f0 := hcell (i * 2) (.float .f32 x0) (by rw [← hx0.out]; exact fl_get (by omega))
  have f1 := hcell' i (.float .f32 (rateC n l lk i)) (by rw [← ratesL_get n l lk i hi]; exact fl_get (by rw [ratesL_length]; exact hi))
  simp only [Held, and_true] at hp hq hs
  clear hcell h3 hcell' g3
  go_enter Try.func100, Try.ntmps100
  go_wp2_with fail
  refine region_calmA w w.heap.size [(⟨p, 0, none⟩, .slice (some ⟨b, o, none⟩) n cap), (⟨p, 1, none⟩, v'), (⟨q, 0, none⟩, .float .f32 y), (⟨s, 0, none⟩, .slice (some ⟨b', o', none⟩) n cap'), (⟨b, o + i * 2, none⟩, .float .f32 x0), (⟨b', o' + i, none⟩, .float .f32 (rateC n l lk i))] (fun _ _ _ => False) [] (by kernel_rfl) (by kernel_rfl) (by kernel_rfl) ⟨⟨by simp [Held, go_sem, *], by (repeat (first | (with_reducible exact Below.refl _ _) | (with_reducible refine Below.drewN ?_ _) | (with_reducible refine Below.drew ?_) | (with_reducible refine Below.allocS ?_ _) | ((with_reducible refine Below.setCell ?_ ?_ _); rotate_left; focus (first | omega | (simp; done) | (simp; omega))) | (with_reducible refine Below.step ?_ (by assumption))))⟩, by (first | (simp; done) | (simp; omega) | omega)⟩ ?_
  repeat (first | (refine calmA_plain rfl rfl ?_ (fun K hK w1 hC => ?_); (focus (intro _ _; simp [RA]; done)); have hC' := hC.1.1; simp only [Held, and_true] at hC'; go_wp2_with (first | (refine wpList_fbin rfl rfl rfl rfl rfl (fun r n9 hr => ?_)) | (refine wpList_widen rfl rfl Try.underlying44 Try.underlying22 rfl (fun r n9 hr => ?_))); refine ⟨rfl, (by first | exact Below.refl _ _ | exact below_drewN _), hK _ ?_⟩; clear hC hC' hK K w1) | (refine calmA_check rfl rfl rfl ?_ ?_; (focus (intro _ _; simp [RA]; done))))
  refine calmA_nil ?_
  intro w' hC hF
  have hC' := hC.1.1
  have hB1 : Below w.heap.size w w' := hC.1.2
  simp only [Held, and_true] at hC'
  clear hC hF
  go_wp2_with fail
  go_ret
  refine ⟨_, rfl, ?_, by (repeat (first | assumption | (with_reducible exact Below.refl _ _) | (with_reducible refine Below.drewN ?_ _) | (with_reducible refine Below.drew ?_) | (with_reducible refine Below.allocS ?_ _) | ((with_reducible refine Below.setCell ?_ ?_ _); rotate_left; focus (first | omega | (simp; done) | (simp; omega))) | (with_reducible refine Below.step ?_ (by assumption))))⟩
  show _ = stepQ n l lk y i; unfold stepQ; rw [hx0.out]; simp only [Hid] at *; simp only [*, cn_rateC]

set_option maxRecDepth 100000 in
set_option maxHeartbeats 8000000 in
theorem implStepClocks_any (v v' : Value) (n m : Nat) (l lk : List Nat) (y : Nat) (w : World) (h : RowAt w v 2 n (fl l)) (h' : RowAt w v' 1 m (fl lk)) : Calls Try.prog 51 #[.agg #[v, v'], .float .f32 y] w (GiveC (cN ((clocksB n l m lk && levelB y) && upto (fun j => finB .f32 (stepQ n l lk y j)) n) n) (cL ((clocksB n l m lk && levelB y) && upto (fun j => finB .f32 (stepQ n l lk y j)) n) (turned l (stepQ n l lk y) n)) (cN ((clocksB n l m lk && levelB y) && upto (fun j => finB .f32 (stepQ n l lk y j)) n) m) (cL ((clocksB n l m lk && levelB y) && upto (fun j => finB .f32 (stepQ n l lk y j)) n) lk) ((clocksB n l m lk && levelB y) && upto (fun j => finB .f32 (stepQ n l lk y j)) n) w) := by
  have H := Lib.hid h
  have H' := Lib.hid h'
  clear h h'
  cases hr : (clocksB n l m lk && upto (fun j => finB .f32 (rateC n l lk j)) n)
  · have hR : ((clocksB n l m lk && levelB y) && upto (fun j => finB .f32 (stepQ n l lk y j)) n) = false := by
      cases hc : clocksB n l m lk
      · rfl
      · rw [hc, Bool.true_and] at hr
        cases hu : upto (fun j => finB .f32 (stepQ n l lk y j)) n
        · rw [Bool.and_false]
        · rw [step_rates hu] at hr
          cases hr
    have HRR := Lib.hid hR
    clear hR
    go_enter Try.func51, Try.ntmps51
    go_wp2_with (first | (go_at_call 35; refine (implRatesOf_lit hr v v' _ ?_ ?_).mono ?_; (focus (refine RowAt.below H.out ?_; (repeat (first | assumption | (with_reducible exact Below.refl _ _) | (with_reducible refine Below.drewN ?_ _) | (with_reducible refine Below.drew ?_) | (with_reducible refine Below.allocS ?_ _) | ((with_reducible refine Below.setCell ?_ ?_ _); rotate_left; focus (first | omega | (simp; done) | (simp; omega))) | (with_reducible refine Below.step ?_ (by assumption)))); done)); (focus (refine RowAt.below H'.out ?_; (repeat (first | assumption | (with_reducible exact Below.refl _ _) | (with_reducible refine Below.drewN ?_ _) | (with_reducible refine Below.drew ?_) | (with_reducible refine Below.allocS ?_ _) | ((with_reducible refine Below.setCell ?_ ?_ _); rotate_left; focus (first | omega | (simp; done) | (simp; omega))) | (with_reducible refine Below.step ?_ (by assumption)))); done)); rintro e w1 ⟨u, rfl, ou, hb⟩; obtain ⟨a9, k9, d9, rfl⟩ := ownsRow_shape ou; have OU := Lib.hid ou; clear ou; have hk := Held.below hb (l := [(⟨w.heap.size, 0, none⟩, v), (⟨w.heap.size, 1, none⟩, v'), (⟨w.heap.size + 1, 0, none⟩, .float .f32 y), (⟨w.heap.size + 1 + 1, 0, none⟩, .slice none 0 0), (⟨w.heap.size + 1 + 1, 1, none⟩, .slice none 0 0)]) (by simp [Held, go_sem]); simp only [Held, and_true] at hk))
    refine bodyPost_ret (v := ?_) (by first | (simp [results, Try.results51, go_sem, *]; rfl) | (simp [results, Try.results51, go_sem, *]; done)) rfl ?_
    rw [HRR.out]
    refine ⟨_, _, rfl, ownsRow_nil', ownsRow_nil', (fun i hi => by cases hi), ?_⟩
    (repeat (first | assumption | (with_reducible exact Below.refl _ _) | (with_reducible refine Below.drewN ?_ _) | (with_reducible refine Below.drew ?_) | (with_reducible refine Below.allocS ?_ _) | ((with_reducible refine Below.setCell ?_ ?_ _); rotate_left; focus (first | omega | (simp; done) | (simp; omega))) | (with_reducible refine Below.step ?_ (by assumption))))
  cases hl : levelB y
  · go_enter Try.func51, Try.ntmps51
    go_wp2_with (first | (go_at_call 35; refine (implRatesOf_lit hr v v' _ ?_ ?_).mono ?_; (focus (refine RowAt.below H.out ?_; (repeat (first | assumption | (with_reducible exact Below.refl _ _) | (with_reducible refine Below.drewN ?_ _) | (with_reducible refine Below.drew ?_) | (with_reducible refine Below.allocS ?_ _) | ((with_reducible refine Below.setCell ?_ ?_ _); rotate_left; focus (first | omega | (simp; done) | (simp; omega))) | (with_reducible refine Below.step ?_ (by assumption)))); done)); (focus (refine RowAt.below H'.out ?_; (repeat (first | assumption | (with_reducible exact Below.refl _ _) | (with_reducible refine Below.drewN ?_ _) | (with_reducible refine Below.drew ?_) | (with_reducible refine Below.allocS ?_ _) | ((with_reducible refine Below.setCell ?_ ?_ _); rotate_left; focus (first | omega | (simp; done) | (simp; omega))) | (with_reducible refine Below.step ?_ (by assumption)))); done)); rintro e w1 ⟨u, rfl, ou, hb⟩; obtain ⟨a9, k9, d9, rfl⟩ := ownsRow_shape ou; have OU := Lib.hid ou; clear ou; have hk := Held.below hb (l := [(⟨w.heap.size, 0, none⟩, v), (⟨w.heap.size, 1, none⟩, v'), (⟨w.heap.size + 1, 0, none⟩, .float .f32 y), (⟨w.heap.size + 1 + 1, 0, none⟩, .slice none 0 0), (⟨w.heap.size + 1 + 1, 1, none⟩, .slice none 0 0)]) (by simp [Held, go_sem]); simp only [Held, and_true] at hk) | (go_at_call 99; refine (levelOkC_any _ _).mono ?_; rintro e w' ⟨n9, rfl, rfl⟩; rw [hl]))
    refine bodyPost_ret (v := ?_) (by first | (simp [results, Try.results51, go_sem, *]; rfl) | (simp [results, Try.results51, go_sem, *]; done)) rfl ?_
    rw [Bool.and_false, Bool.false_and]
    refine ⟨_, _, rfl, ownsRow_nil', ownsRow_nil', (fun i hi => by cases hi), ?_⟩
    (repeat (first | assumption | (with_reducible exact Below.refl _ _) | (with_reducible refine Below.drewN ?_ _) | (with_reducible refine Below.drew ?_) | (with_reducible refine Below.allocS ?_ _) | ((with_reducible refine Below.setCell ?_ ?_ _); rotate_left; focus (first | omega | (simp; done) | (simp; omega))) | (with_reducible refine Below.step ?_ (by assumption))))
  have hc : clocksB n l m lk = true := by
    simp only [Bool.and_eq_true] at hr
    exact hr.1
  have c1 := (clocks_parts hc).1
  have c2 := (clocks_parts hc).2.1
  have HR9 := Lib.hid hr
  clear hc hr
  go_enter Try.func51, Try.ntmps51
  go_wp2_with (first | (go_at_call 35; refine (implRatesOf_lit HR9.out v v' _ ?_ ?_).mono ?_; (focus (refine RowAt.below H.out ?_; (repeat (first | assumption | (with_reducible exact Below.refl _ _) | (with_reducible refine Below.drewN ?_ _) | (with_reducible refine Below.drew ?_) | (with_reducible refine Below.allocS ?_ _) | ((with_reducible refine Below.setCell ?_ ?_ _); rotate_left; focus (first | omega | (simp; done) | (simp; omega))) | (with_reducible refine Below.step ?_ (by assumption)))); done)); (focus (refine RowAt.below H'.out ?_; (repeat (first | assumption | (with_reducible exact Below.refl _ _) | (with_reducible refine Below.drewN ?_ _) | (with_reducible refine Below.drew ?_) | (with_reducible refine Below.allocS ?_ _) | ((with_reducible refine Below.setCell ?_ ?_ _); rotate_left; focus (first | omega | (simp; done) | (simp; omega))) | (with_reducible refine Below.step ?_ (by assumption)))); done)); rintro e w1 ⟨u, rfl, ou, hb⟩; obtain ⟨a9, k9, d9, rfl⟩ := ownsRow_shape ou; have OU := Lib.hid ou; clear ou; have hk := Held.below hb (l := [(⟨w.heap.size, 0, none⟩, v), (⟨w.heap.size, 1, none⟩, v'), (⟨w.heap.size + 1, 0, none⟩, .float .f32 y), (⟨w.heap.size + 1 + 1, 0, none⟩, .slice none 0 0), (⟨w.heap.size + 1 + 1, 1, none⟩, .slice none 0 0)]) (by simp [Held, go_sem]); simp only [Held, and_true] at hk) | (go_at_call 99; refine (levelOkC_any _ _).mono ?_; rintro e w' ⟨n9, rfl, rfl⟩; rw [hl]))
  have hBw1 : Below w.heap.size w w1 := by (repeat (first | assumption | (with_reducible exact Below.refl _ _) | (with_reducible refine Below.drewN ?_ _) | (with_reducible refine Below.drew ?_) | (with_reducible refine Below.allocS ?_ _) | ((with_reducible refine Below.setCell ?_ ?_ _); rotate_left; focus (first | omega | (simp; done) | (simp; omega))) | (with_reducible refine Below.step ?_ (by assumption))))
  have hzw : w.heap.size + 1 + 1 < w1.heap.size := by omega
  refine (turnEach_any v v' n m l lk 100 #[.pointer (some ⟨w.heap.size, 0, none⟩), .pointer (some ⟨w.heap.size + 1, 0, none⟩), .pointer (some ⟨w1.heap.size, 0, none⟩)] (stepQ n l lk y) _ ?_ ?_ ?_ ?_).mono ?_
  · refine RowAt.below H.out ?_
    (repeat (first | assumption | (with_reducible exact Below.refl _ _) | (with_reducible refine Below.drewN ?_ _) | (with_reducible refine Below.drew ?_) | (with_reducible refine Below.allocS ?_ _) | ((with_reducible refine Below.setCell ?_ ?_ _); rotate_left; focus (first | omega | (simp; done) | (simp; omega))) | (with_reducible refine Below.step ?_ (by assumption))))
  · refine RowAt.below H'.out ?_
    (repeat (first | assumption | (with_reducible exact Below.refl _ _) | (with_reducible refine Below.drewN ?_ _) | (with_reducible refine Below.drew ?_) | (with_reducible refine Below.allocS ?_ _) | ((with_reducible refine Below.setCell ?_ ?_ _); rotate_left; focus (first | omega | (simp; done) | (simp; omega))) | (with_reducible refine Below.step ?_ (by assumption))))
  · intro w2 x
    simp [go_sem]
  · intro _ i w2 hi hb2
    have hb0 : Below w.heap.size w w2 := by (repeat (first | assumption | (with_reducible exact Below.refl _ _) | (with_reducible refine Below.drewN ?_ _) | (with_reducible refine Below.drew ?_) | (with_reducible refine Below.allocS ?_ _) | ((with_reducible refine Below.setCell ?_ ?_ _); rotate_left; focus (first | omega | (simp; done) | (simp; omega))) | (with_reducible refine Below.step ?_ (by assumption))))
    have hu := (ownsRow_rowAt OU.out).below (by
      show Below w1.heap.size w1 w2
      refine Below.step ?_ hb2
      (repeat (first | (with_reducible exact Below.refl _ _) | (with_reducible refine Below.drewN ?_ _) | (with_reducible refine Below.drew ?_) | (with_reducible refine Below.allocS ?_ _) | ((with_reducible refine Below.setCell ?_ ?_ _); rotate_left; focus (first | omega | (simp; done) | (simp; omega))))))
    exact StepClocks1_any v v' _ n l lk _ _ _ y i w2 (H.out.below hb0) hu (Held.below hb2 (by simp [Held, go_sem, *])) (Held.below hb2 (by simp [Held, go_sem, *])) (Held.below hb2 (by simp [Held, go_sem, *])) hi c2
  rintro e w4 ⟨u0, u1, rfl, ou0, ou1, une, hb4⟩
  obtain ⟨a0, k0, d0, rfl⟩ := ownsRow_shape ou0
  obtain ⟨a1, k1, d1, rfl⟩ := ownsRow_shape ou1
  have hk4 := Held.below hb4 (l := [(⟨w.heap.size + 1 + 1, 0, none⟩, .slice none 0 0), (⟨w.heap.size + 1 + 1, 1, none⟩, .slice none 0 0)]) (by simp [Held, go_sem, *])
  simp only [Held, and_true] at hk4
  have OU0 := Lib.hid (ownsRow_base (base' := w1.heap.size) (by simp) ou0)
  have OU1 := Lib.hid (ownsRow_base (base' := w1.heap.size) (by simp) ou1)
  clear ou0 ou1
  go_wp2_with fail
  refine bodyPost_ret (v := ?_) (by first | (simp [results, Try.results51, go_sem, *]; rfl) | (simp [results, Try.results51, go_sem, *]; done)) rfl ?_
  rw [Bool.and_true]
  refine ⟨_, _, rfl, ?_, ?_, une, ?_⟩
  · refine ownsRow_base (base := w1.heap.size) (by omega) ?_
    have := OU0.out
    (repeat (first | (with_reducible refine World.ownsRow.alloc ?_ _) | (with_reducible refine ownsRow_drewN ?_ _) | ((with_reducible refine ownsRow_setCell_below ?_ ?_ _); rotate_left; focus (first | omega | (simp; done) | (simp; omega)))))
    exact this
  · refine ownsRow_base (base := w1.heap.size) (by omega) ?_
    have := OU1.out
    (repeat (first | (with_reducible refine World.ownsRow.alloc ?_ _) | (with_reducible refine ownsRow_drewN ?_ _) | ((with_reducible refine ownsRow_setCell_below ?_ ?_ _); rotate_left; focus (first | omega | (simp; done) | (simp; omega)))))
    exact this
  · (repeat (first | assumption | (with_reducible exact Below.refl _ _) | (with_reducible refine Below.drewN ?_ _) | (with_reducible refine Below.drew ?_) | (with_reducible refine Below.allocS ?_ _) | ((with_reducible refine Below.setCell ?_ ?_ _); rotate_left; focus (first | omega | (simp; done) | (simp; omega))) | (with_reducible refine Below.step ?_ (by assumption))))

set_option maxRecDepth 100000 in
set_option maxHeartbeats 8000000 in
theorem specStepClocks_any (v v' : Value) (n m : Nat) (l lk : List Nat) (y : Nat) (w : World) (h : RowAt w v 2 n (fl l)) (h' : RowAt w v' 1 m (fl lk)) : Calls Try.prog 50 #[.agg #[v, v'], .float .f32 y] w (GiveC (cN ((clocksB n l m lk && levelB y) && upto (fun j => finB .f32 (stepQ n l lk y j)) n) n) (cL ((clocksB n l m lk && levelB y) && upto (fun j => finB .f32 (stepQ n l lk y j)) n) (turned l (stepQ n l lk y) n)) (cN ((clocksB n l m lk && levelB y) && upto (fun j => finB .f32 (stepQ n l lk y j)) n) m) (cL ((clocksB n l m lk && levelB y) && upto (fun j => finB .f32 (stepQ n l lk y j)) n) lk) ((clocksB n l m lk && levelB y) && upto (fun j => finB .f32 (stepQ n l lk y j)) n) w) := by
  have H := Lib.hid h
  have H' := Lib.hid h'
  clear h h'
  cases hc : clocksB n l m lk
  · go_enter Try.func50, Try.ntmps50
    go_wp2_with (first | (go_at_call 77; refine (l05Is_any v v' n m l lk _ _ ?_ ?_ ?_).mono ?_; (focus (refine RowAt.below H.out ?_; (repeat (first | assumption | (with_reducible exact Below.refl _ _) | (with_reducible refine Below.drewN ?_ _) | (with_reducible refine Below.drew ?_) | (with_reducible refine Below.allocS ?_ _) | ((with_reducible refine Below.setCell ?_ ?_ _); rotate_left; focus (first | omega | (simp; done) | (simp; omega))) | (with_reducible refine Below.step ?_ (by assumption)))); done)); (focus (refine RowAt.below H'.out ?_; (repeat (first | assumption | (with_reducible exact Below.refl _ _) | (with_reducible refine Below.drewN ?_ _) | (with_reducible refine Below.drew ?_) | (with_reducible refine Below.allocS ?_ _) | ((with_reducible refine Below.setCell ?_ ?_ _); rotate_left; focus (first | omega | (simp; done) | (simp; omega))) | (with_reducible refine Below.step ?_ (by assumption)))); done)); (focus (simp [Held, go_sem]; done)); rintro e w' ⟨c9, rfl, rfl⟩; rw [hc]))
    refine bodyPost_ret (v := ?_) (by first | (simp [results, Try.results50, go_sem, *]; rfl) | (simp [results, Try.results50, go_sem, *]; done)) rfl ?_
    refine ⟨_, _, rfl, ownsRow_nil', ownsRow_nil', (fun i hi => by cases hi), ?_⟩
    (repeat (first | assumption | (with_reducible exact Below.refl _ _) | (with_reducible refine Below.drewN ?_ _) | (with_reducible refine Below.drew ?_) | (with_reducible refine Below.allocS ?_ _) | ((with_reducible refine Below.setCell ?_ ?_ _); rotate_left; focus (first | omega | (simp; done) | (simp; omega))) | (with_reducible refine Below.step ?_ (by assumption))))
  cases hl : levelB y
  · go_enter Try.func50, Try.ntmps50
    go_wp2_with (first | (go_at_call 77; refine (l05Is_any v v' n m l lk _ _ ?_ ?_ ?_).mono ?_; (focus (refine RowAt.below H.out ?_; (repeat (first | assumption | (with_reducible exact Below.refl _ _) | (with_reducible refine Below.drewN ?_ _) | (with_reducible refine Below.drew ?_) | (with_reducible refine Below.allocS ?_ _) | ((with_reducible refine Below.setCell ?_ ?_ _); rotate_left; focus (first | omega | (simp; done) | (simp; omega))) | (with_reducible refine Below.step ?_ (by assumption)))); done)); (focus (refine RowAt.below H'.out ?_; (repeat (first | assumption | (with_reducible exact Below.refl _ _) | (with_reducible refine Below.drewN ?_ _) | (with_reducible refine Below.drew ?_) | (with_reducible refine Below.allocS ?_ _) | ((with_reducible refine Below.setCell ?_ ?_ _); rotate_left; focus (first | omega | (simp; done) | (simp; omega))) | (with_reducible refine Below.step ?_ (by assumption)))); done)); (focus (simp [Held, go_sem]; done)); rintro e w' ⟨c9, rfl, rfl⟩; rw [hc]) | (go_at_call 97; refine (l05Least_any _ _).mono ?_; rintro e w' ⟨n9, rfl, rfl⟩; rw [hl]))
    refine bodyPost_ret (v := ?_) (by first | (simp [results, Try.results50, go_sem, *]; rfl) | (simp [results, Try.results50, go_sem, *]; done)) rfl ?_
    refine ⟨_, _, rfl, ownsRow_nil', ownsRow_nil', (fun i hi => by cases hi), ?_⟩
    (repeat (first | assumption | (with_reducible exact Below.refl _ _) | (with_reducible refine Below.drewN ?_ _) | (with_reducible refine Below.drew ?_) | (with_reducible refine Below.allocS ?_ _) | ((with_reducible refine Below.setCell ?_ ?_ _); rotate_left; focus (first | omega | (simp; done) | (simp; omega))) | (with_reducible refine Below.step ?_ (by assumption))))
  rw [Bool.and_self, Bool.true_and]
  go_enter Try.func50, Try.ntmps50
  go_wp2_with (first | (go_at_call 77; refine (l05Is_any v v' n m l lk _ _ ?_ ?_ ?_).mono ?_; (focus (refine RowAt.below H.out ?_; (repeat (first | assumption | (with_reducible exact Below.refl _ _) | (with_reducible refine Below.drewN ?_ _) | (with_reducible refine Below.drew ?_) | (with_reducible refine Below.allocS ?_ _) | ((with_reducible refine Below.setCell ?_ ?_ _); rotate_left; focus (first | omega | (simp; done) | (simp; omega))) | (with_reducible refine Below.step ?_ (by assumption)))); done)); (focus (refine RowAt.below H'.out ?_; (repeat (first | assumption | (with_reducible exact Below.refl _ _) | (with_reducible refine Below.drewN ?_ _) | (with_reducible refine Below.drew ?_) | (with_reducible refine Below.allocS ?_ _) | ((with_reducible refine Below.setCell ?_ ?_ _); rotate_left; focus (first | omega | (simp; done) | (simp; omega))) | (with_reducible refine Below.step ?_ (by assumption)))); done)); (focus (simp [Held, go_sem]; done)); rintro e w' ⟨c9, rfl, rfl⟩; rw [hc]) | (go_at_call 97; refine (l05Least_any _ _).mono ?_; rintro e w' ⟨n9, rfl, rfl⟩; rw [hl]) | (go_at_call 98; refine (l05Step_any v v' n m l lk _ y _ ?_ ?_ ?_ hc).mono ?_; (focus (refine RowAt.below H.out ?_; (repeat (first | assumption | (with_reducible exact Below.refl _ _) | (with_reducible refine Below.drewN ?_ _) | (with_reducible refine Below.drew ?_) | (with_reducible refine Below.allocS ?_ _) | ((with_reducible refine Below.setCell ?_ ?_ _); rotate_left; focus (first | omega | (simp; done) | (simp; omega))) | (with_reducible refine Below.step ?_ (by assumption)))); done)); (focus (refine RowAt.below H'.out ?_; (repeat (first | assumption | (with_reducible exact Below.refl _ _) | (with_reducible refine Below.drewN ?_ _) | (with_reducible refine Below.drew ?_) | (with_reducible refine Below.allocS ?_ _) | ((with_reducible refine Below.setCell ?_ ?_ _); rotate_left; focus (first | omega | (simp; done) | (simp; omega))) | (with_reducible refine Below.step ?_ (by assumption)))); done)); (focus (simp [Held, go_sem]; done))))
  rintro e w4 ⟨u0, u1, rfl, ou0, ou1, une, hb4⟩
  obtain ⟨a0, k0, d0, rfl⟩ := ownsRow_shape ou0
  obtain ⟨a1, k1, d1, rfl⟩ := ownsRow_shape ou1
  have hk4 := Held.below hb4 (l := [(⟨w.heap.size + 1, 0, none⟩, .slice none 0 0), (⟨w.heap.size + 1, 1, none⟩, .slice none 0 0)]) (by simp [Held, go_sem, *])
  simp only [Held, and_true] at hk4
  have OU0 := Lib.hid (ownsRow_base (base' := w.heap.size + 1 + 1) (by simp) ou0)
  have OU1 := Lib.hid (ownsRow_base (base' := w.heap.size + 1 + 1) (by simp) ou1)
  clear ou0 ou1
  go_wp2_with fail
  refine bodyPost_ret (v := ?_) (by first | (simp [results, Try.results50, go_sem, *]; rfl) | (simp [results, Try.results50, go_sem, *]; done)) rfl ?_
  refine ⟨_, _, rfl, ?_, ?_, une, ?_⟩
  · refine ownsRow_base (base := w.heap.size + 1 + 1) (by omega) ?_
    have := OU0.out
    (repeat (first | (with_reducible refine World.ownsRow.alloc ?_ _) | (with_reducible refine ownsRow_drewN ?_ _) | ((with_reducible refine ownsRow_setCell_below ?_ ?_ _); rotate_left; focus (first | omega | (simp; done) | (simp; omega)))))
    exact this
  · refine ownsRow_base (base := w.heap.size + 1 + 1) (by omega) ?_
    have := OU1.out
    (repeat (first | (with_reducible refine World.ownsRow.alloc ?_ _) | (with_reducible refine ownsRow_drewN ?_ _) | ((with_reducible refine ownsRow_setCell_below ?_ ?_ _); rotate_left; focus (first | omega | (simp; done) | (simp; omega)))))
    exact this
  · (repeat (first | assumption | (with_reducible exact Below.refl _ _) | (with_reducible refine Below.drewN ?_ _) | (with_reducible refine Below.drew ?_) | (with_reducible refine Below.allocS ?_ _) | ((with_reducible refine Below.setCell ?_ ?_ _); rotate_left; focus (first | omega | (simp; done) | (simp; omega))) | (with_reducible refine Below.step ?_ (by assumption))))

set_option maxRecDepth 100000 in
set_option maxHeartbeats 8000000 in
theorem lawRatesOf_walk (v0 : Value) (n0 : Nat) (l0 : List Nat) (v1 : Value) (n1 : Nat) (l1 : List Nat) (w : World) (h0 : RowAt w v0 2 n0 (fl l0)) (h1 : RowAt w v1 1 n1 (fl l1)) (hb0 : ∀ x ∈ l0, x < 4294967296) (hb1 : ∀ x ∈ l1, x < 4294967296) : Calls Try.prog 8 #[.agg #[v0, v1]] w fun e w' => e = .returned (.bool true) ∧ Below w.heap.size w w' := by
  have H0 := Lib.hid h0
  have H1 := Lib.hid h1
  have HB0 := Lib.hid hb0
  clear hb0
  have HB1 := Lib.hid hb1
  clear hb1
  clear h0 h1
  go_enter Try.func8, Try.ntmps8
  obtain ⟨B, hB⟩ : ∃ B, (clocksB n0 l0 n1 l1 && upto (fun j => finB .f32 (rateC n0 l0 l1 j)) n0) = B := ⟨_, rfl⟩
  have hN9 : cN B (n0) ≤ 12 := by
    cases B
    · exact Nat.zero_le _
    · simp only [Bool.and_eq_true] at hB; exact (clocks_parts hB.1).2.1
  have HBB := Lib.hid hB
  clear hB
  go_wp2_with fail
  refine (szClocks_any v0 n0 (fl l0) v1 n1 (fl l1) (1048576) _ ?_ ?_ (by omega)).mono ?_
  · refine RowAt.below H0.out ?_
    (repeat (first | assumption | (with_reducible exact Below.refl _ _) | (with_reducible refine Below.drewN ?_ _) | (with_reducible refine Below.drew ?_) | (with_reducible refine Below.allocS ?_ _) | ((with_reducible refine Below.setCell ?_ ?_ _); rotate_left; focus (first | omega | (simp; done) | (simp; omega))) | (with_reducible refine Below.step ?_ (by assumption))))
  · refine RowAt.below H1.out ?_
    (repeat (first | assumption | (with_reducible exact Below.refl _ _) | (with_reducible refine Below.drewN ?_ _) | (with_reducible refine Below.drew ?_) | (with_reducible refine Below.allocS ?_ _) | ((with_reducible refine Below.setCell ?_ ?_ _); rotate_left; focus (first | omega | (simp; done) | (simp; omega))) | (with_reducible refine Below.step ?_ (by assumption))))
  rintro e ws0 ⟨rfl, hcs0⟩
  have hk := Held.below hcs0 (l := [(⟨w.heap.size, 0, none⟩, v0), (⟨w.heap.size, 1, none⟩, v1)]) (by simp [Held, go_sem, *])
  simp only [Held, and_true] at hk
  have hBs0 : Below w.heap.size w ws0 := by (repeat (first | assumption | (with_reducible exact Below.refl _ _) | (with_reducible refine Below.drewN ?_ _) | (with_reducible refine Below.drew ?_) | (with_reducible refine Below.allocS ?_ _) | ((with_reducible refine Below.setCell ?_ ?_ _); rotate_left; focus (first | omega | (simp; done) | (simp; omega))) | (with_reducible refine Below.step ?_ (by assumption))))
  clear hcs0
  by_cases hs0 : n0 + n1 ≤ 1048576
  case neg =>
    rw [if_neg hs0]
    go_wp2_with fail
    go_ret
    refine ⟨rfl, ?_⟩
    (repeat (first | assumption | (with_reducible exact Below.refl _ _) | (with_reducible refine Below.drewN ?_ _) | (with_reducible refine Below.drew ?_) | (with_reducible refine Below.allocS ?_ _) | ((with_reducible refine Below.setCell ?_ ?_ _); rotate_left; focus (first | omega | (simp; done) | (simp; omega))) | (with_reducible refine Below.step ?_ (by assumption))))
  rw [if_pos hs0]
  go_wp2_with fail
  refine (toClocks_any v0 n0 v1 n1 l0 l1 _ ?_ ?_ (by omega) (by omega)).mono ?_
  · refine RowAt.below H0.out ?_
    (repeat (first | assumption | (with_reducible exact Below.refl _ _) | (with_reducible refine Below.drewN ?_ _) | (with_reducible refine Below.drew ?_) | (with_reducible refine Below.allocS ?_ _) | ((with_reducible refine Below.setCell ?_ ?_ _); rotate_left; focus (first | omega | (simp; done) | (simp; omega))) | (with_reducible refine Below.step ?_ (by assumption))))
  · refine RowAt.below H1.out ?_
    (repeat (first | assumption | (with_reducible exact Below.refl _ _) | (with_reducible refine Below.drewN ?_ _) | (with_reducible refine Below.drew ?_) | (with_reducible refine Below.allocS ?_ _) | ((with_reducible refine Below.setCell ?_ ?_ _); rotate_left; focus (first | omega | (simp; done) | (simp; omega))) | (with_reducible refine Below.step ?_ (by assumption))))
  rintro e w1 ⟨ga0, ga1, rfl, oa0, oa1, oane0, c1⟩
  have hkN := Held.below c1 (l := [(⟨w.heap.size, 0, none⟩, v0), (⟨w.heap.size, 1, none⟩, v1)]) (by simp [Held, go_sem, *])
  (try clear hk)
  have hk := hkN
  clear hkN
  simp only [Held, and_true] at hk
  have hBw1 : Below w.heap.size w w1 := by (repeat (first | assumption | (with_reducible exact Below.refl _ _) | (with_reducible refine Below.drewN ?_ _) | (with_reducible refine Below.drew ?_) | (with_reducible refine Below.allocS ?_ _) | ((with_reducible refine Below.setCell ?_ ?_ _); rotate_left; focus (first | omega | (simp; done) | (simp; omega))) | (with_reducible refine Below.step ?_ (by assumption))))
  have hzw1_0 : w.heap.size < w1.heap.size := by omega
  go_wp2_with fail
  refine (specRatesOf_lit HBB.out _ _ _ (ownsRow_rowAt oa0) (ownsRow_rowAt oa1)).mono ?_
  rintro e w2 ⟨u0, rfl, ow_u0, c2⟩
  have hkN := Held.below c2 (l := [(⟨w.heap.size, 0, none⟩, v0), (⟨w.heap.size, 1, none⟩, v1)]) (by simp [Held, go_sem, *])
  (try clear hk)
  have hk := hkN
  clear hkN
  simp only [Held, and_true] at hk
  have hBw2 : Below w.heap.size w w2 := by (repeat (first | assumption | (with_reducible exact Below.refl _ _) | (with_reducible refine Below.drewN ?_ _) | (with_reducible refine Below.drew ?_) | (with_reducible refine Below.allocS ?_ _) | ((with_reducible refine Below.setCell ?_ ?_ _); rotate_left; focus (first | omega | (simp; done) | (simp; omega))) | (with_reducible refine Below.step ?_ (by assumption))))
  have hzw2_0 : w.heap.size < w2.heap.size := by omega
  have Lu0 := Lib.hid (ownsRow_lt ow_u0)
  (try simp only [World.size_alloc, World.size_setCell, World.heap_drewN] at Lu0)
  have Ou0 := Lib.hid ow_u0
  have Ru0 := Lib.hid (ownsRow_rowAt ow_u0)
  clear ow_u0
  clear oa0 oa1
  go_wp2_with fail
  refine (toClocks_any v0 n0 v1 n1 l0 l1 _ ?_ ?_ (by omega) (by omega)).mono ?_
  · refine RowAt.below H0.out ?_
    (repeat (first | assumption | (with_reducible exact Below.refl _ _) | (with_reducible refine Below.drewN ?_ _) | (with_reducible refine Below.drew ?_) | (with_reducible refine Below.allocS ?_ _) | ((with_reducible refine Below.setCell ?_ ?_ _); rotate_left; focus (first | omega | (simp; done) | (simp; omega))) | (with_reducible refine Below.step ?_ (by assumption))))
  · refine RowAt.below H1.out ?_
    (repeat (first | assumption | (with_reducible exact Below.refl _ _) | (with_reducible refine Below.drewN ?_ _) | (with_reducible refine Below.drew ?_) | (with_reducible refine Below.allocS ?_ _) | ((with_reducible refine Below.setCell ?_ ?_ _); rotate_left; focus (first | omega | (simp; done) | (simp; omega))) | (with_reducible refine Below.step ?_ (by assumption))))
  rintro e w3 ⟨g0, g1, rfl, o0, o1, one0, c3⟩
  have hkN := Held.below c3 (l := [(⟨w.heap.size, 0, none⟩, v0), (⟨w.heap.size, 1, none⟩, v1)]) (by simp [Held, go_sem, *])
  (try clear hk)
  have hk := hkN
  clear hkN
  simp only [Held, and_true] at hk
  have hBw3 : Below w.heap.size w w3 := by (repeat (first | assumption | (with_reducible exact Below.refl _ _) | (with_reducible refine Below.drewN ?_ _) | (with_reducible refine Below.drew ?_) | (with_reducible refine Below.allocS ?_ _) | ((with_reducible refine Below.setCell ?_ ?_ _); rotate_left; focus (first | omega | (simp; done) | (simp; omega))) | (with_reducible refine Below.step ?_ (by assumption))))
  have hzw3_0 : w.heap.size < w3.heap.size := by omega
  have B3 : Below w2.heap.size w2 w3 := by
    refine Below.step ?_ c3
    (repeat (first | (with_reducible exact Below.refl _ _) | (with_reducible refine Below.drewN ?_ _) | (with_reducible refine Below.drew ?_) | (with_reducible refine Below.allocS ?_ _) | ((with_reducible refine Below.setCell ?_ ?_ _); rotate_left; focus (first | omega | (simp; done) | (simp; omega)))))
  replace Ru0 := Lib.hid (Ru0.out.below B3)
  have : ¬ w.heap.size = w3.heap.size := by omega
  have X0 := ownsRow_lt o0 _ rfl
  have X1 := ownsRow_lt o1 _ rfl
  simp only [World.size_alloc, World.size_setCell] at X0 X1
  have P0 := Lib.hid o0
  have P1 := Lib.hid o1
  go_wp2_with fail
  refine (implRatesOf_lit HBB.out _ _ _ ((ownsRow_rowAt o0).below (by (repeat (first | (with_reducible exact Below.refl _ _) | (with_reducible refine Below.drewN ?_ _) | (with_reducible refine Below.drew ?_) | (with_reducible refine Below.allocS ?_ _) | ((with_reducible refine Below.setCell ?_ ?_ _); rotate_left; focus (first | omega | (simp; done) | (simp; omega))))))) ((ownsRow_rowAt o1).below (by (repeat (first | (with_reducible exact Below.refl _ _) | (with_reducible refine Below.drewN ?_ _) | (with_reducible refine Below.drew ?_) | (with_reducible refine Below.allocS ?_ _) | ((with_reducible refine Below.setCell ?_ ?_ _); rotate_left; focus (first | omega | (simp; done) | (simp; omega)))))))).mono ?_
  rintro e w4 ⟨vv0, rfl, ow_vv0, c4⟩
  have hkN := Held.below c4 (l := [(⟨w.heap.size, 0, none⟩, v0), (⟨w.heap.size, 1, none⟩, v1), (⟨w3.heap.size, 0, none⟩, .slice (some ⟨g0, 0, none⟩) n0 n0), (⟨w3.heap.size, 1, none⟩, .slice (some ⟨g1, 0, none⟩) n1 n1)]) (by simp [Held, go_sem, *])
  (try clear hk)
  have hk := hkN
  clear hkN
  simp only [Held, and_true] at hk
  have hBw4 : Below w.heap.size w w4 := by (repeat (first | assumption | (with_reducible exact Below.refl _ _) | (with_reducible refine Below.drewN ?_ _) | (with_reducible refine Below.drew ?_) | (with_reducible refine Below.allocS ?_ _) | ((with_reducible refine Below.setCell ?_ ?_ _); rotate_left; focus (first | omega | (simp; done) | (simp; omega))) | (with_reducible refine Below.step ?_ (by assumption))))
  have hzw4_0 : w.heap.size < w4.heap.size := by omega
  have hzw4_1 : w3.heap.size < w4.heap.size := by omega
  have Lvv0 := Lib.hid (ownsRow_lt ow_vv0)
  (try simp only [World.size_alloc, World.size_setCell, World.heap_drewN] at Lvv0)
  have Ovv0 := Lib.hid ow_vv0
  have Rvv0 := Lib.hid (ownsRow_rowAt ow_vv0)
  clear ow_vv0
  clear o0 o1
  have B4 : Below w3.heap.size w3 w4 := by
    refine Below.step ?_ c4
    (repeat (first | (with_reducible exact Below.refl _ _) | (with_reducible refine Below.drewN ?_ _) | (with_reducible refine Below.drew ?_) | (with_reducible refine Below.allocS ?_ _) | ((with_reducible refine Below.setCell ?_ ?_ _); rotate_left; focus (first | omega | (simp; done) | (simp; omega)))))
  replace Ru0 := Lib.hid (Ru0.out.below B4)
  replace P0 := Lib.hid (ownsRow_below P0.out B4)
  replace P1 := Lib.hid (ownsRow_below P1.out B4)
  go_wp2_with fail
  refine (eqFloat32S_any _ _ (cN B (n0)) (cL B (ratesL n0 l0 l1)) (cL B (ratesL n0 l0 l1)) _ ?_ ?_ rfl).mono ?_
  · refine RowAt.below Rvv0.out ?_
    (repeat (first | assumption | (with_reducible exact Below.refl _ _) | (with_reducible refine Below.drewN ?_ _) | (with_reducible refine Below.drew ?_) | (with_reducible refine Below.allocS ?_ _) | ((with_reducible refine Below.setCell ?_ ?_ _); rotate_left; focus (first | omega | (simp; done) | (simp; omega))) | (with_reducible refine Below.step ?_ (by assumption))))
  · refine RowAt.below Ru0.out ?_
    (repeat (first | assumption | (with_reducible exact Below.refl _ _) | (with_reducible refine Below.drewN ?_ _) | (with_reducible refine Below.drew ?_) | (with_reducible refine Below.allocS ?_ _) | ((with_reducible refine Below.setCell ?_ ?_ _); rotate_left; focus (first | omega | (simp; done) | (simp; omega))) | (with_reducible refine Below.step ?_ (by assumption))))
  rintro e w5 ⟨rfl, c5x0⟩
  have hkN := Held.below c5x0 (l := [(⟨w.heap.size, 0, none⟩, v0), (⟨w.heap.size, 1, none⟩, v1), (⟨w3.heap.size, 0, none⟩, .slice (some ⟨g0, 0, none⟩) n0 n0), (⟨w3.heap.size, 1, none⟩, .slice (some ⟨g1, 0, none⟩) n1 n1)]) (by simp [Held, go_sem, *])
  (try clear hk)
  have hk := hkN
  clear hkN
  simp only [Held, and_true] at hk
  have hBw5 : Below w.heap.size w w5 := by (repeat (first | assumption | (with_reducible exact Below.refl _ _) | (with_reducible refine Below.drewN ?_ _) | (with_reducible refine Below.drew ?_) | (with_reducible refine Below.allocS ?_ _) | ((with_reducible refine Below.setCell ?_ ?_ _); rotate_left; focus (first | omega | (simp; done) | (simp; omega))) | (with_reducible refine Below.step ?_ (by assumption))))
  have hzw5_0 : w.heap.size < w5.heap.size := by omega
  have hzw5_1 : w3.heap.size < w5.heap.size := by omega
  have B5 : Below w4.heap.size w4 w5 := by
    refine Below.step ?_ c5x0
    (repeat (first | (with_reducible exact Below.refl _ _) | (with_reducible refine Below.drewN ?_ _) | (with_reducible refine Below.drew ?_) | (with_reducible refine Below.allocS ?_ _) | ((with_reducible refine Below.setCell ?_ ?_ _); rotate_left; focus (first | omega | (simp; done) | (simp; omega)))))
  replace Ru0 := Lib.hid (Ru0.out.below B5)
  replace Rvv0 := Lib.hid (Rvv0.out.below B5)
  replace Ovv0 := Lib.hid (ownsRow_below Ovv0.out B5)
  replace P0 := Lib.hid (ownsRow_below P0.out B5)
  replace P1 := Lib.hid (ownsRow_below P1.out B5)
  go_wp2_with fail
  have R0 := Lib.hid (ownsRow_rowAt P0.out)
  have R1 := Lib.hid (ownsRow_rowAt P1.out)
  have hst : stableV [(2, 43, (fun v w => ∃ s0 s1, v = .agg #[s0, s1] ∧ RowAt w s0 2 n0 (fl l0) ∧ RowAt w s1 1 n1 (fl l1)))] := by
    intro q hq
    obtain rfl := List.mem_singleton.1 hq
    intro v w w' hb hh
    obtain ⟨s0, s1, rfl, r0, r1⟩ := hh; exact ⟨s0, s1, rfl, r0.below hb, r1.below hb⟩
  refine region_calmV w5 [(⟨w.heap.size, 0, none⟩, v0), (⟨w.heap.size, 1, none⟩, v1), (⟨w3.heap.size, 0, none⟩, .slice (some ⟨g0, 0, none⟩) n0 n0), (⟨w3.heap.size, 1, none⟩, .slice (some ⟨g1, 0, none⟩) n1 n1)] (fun f _ v => (f = 22 ∧ ∃ s0 s1, v = .agg #[s0, s1]) ∨ (f = 17 ∧ v = .bool true)) [(2, 43, (fun v w => ∃ s0 s1, v = .agg #[s0, s1] ∧ RowAt w s0 2 n0 (fl l0) ∧ RowAt w s1 1 n1 (fl l1)))] (by kernel_rfl) (by kernel_rfl) (by kernel_rfl) ⟨by simp [Held, go_sem, *], by (repeat (first | assumption | (with_reducible exact Below.refl _ _) | (with_reducible refine Below.drewN ?_ _) | (with_reducible refine Below.drew ?_) | (with_reducible refine Below.allocS ?_ _) | ((with_reducible refine Below.setCell ?_ ?_ _); rotate_left; focus (first | omega | (simp; done) | (simp; omega))) | (with_reducible refine Below.step ?_ (by assumption))))⟩ ?_
  repeat (first | (first | (refine calmV_plain hst rfl rfl ?_ (fun K hK w1 hC => ?_); (focus (intro _ _; simp [RVF]; done)); have hC' := hC.1; simp only [Held, and_true] at hC'; go_wp2_with (first | (refine wpList_fbin rfl rfl rfl rfl rfl (fun r n hr => ?_)) | (refine wpList_widen rfl rfl Try.underlying44 Try.underlying22 rfl (fun r n hr => ?_))); refine ⟨rfl, (by first | exact Below.refl _ _ | exact below_drewN _), hK _ ?_⟩; clear hC hC' hK K w1) | (refine calmV_check rfl rfl rfl ?_ ?_; (focus (intro _ _; simp [RVF]; done))) | (refine calmV_skip rfl ?_ ?_; (focus (intro _ _; simp [RVF]; done)); simp [Act.put])) | (refine calmV_call (f := 22) (args := _) hst rfl (by (intro w1; simp [execOp, resolve, invoke, go_sem]; with_reducible rfl)) (fun w1 hC hD => ?_) ?_; (focus (refine (toClocks_any v0 n0 v1 n1 l0 l1 _ ?_ ?_ (by omega) (by omega)).mono ?_; (focus (refine RowAt.below H0.out ?_; have hB9 := hC.2; (repeat (first | assumption | (with_reducible exact Below.refl _ _) | (with_reducible refine Below.drewN ?_ _) | (with_reducible refine Below.drew ?_) | (with_reducible refine Below.allocS ?_ _) | ((with_reducible refine Below.setCell ?_ ?_ _); rotate_left; focus (first | omega | (simp; done) | (simp; omega))) | (with_reducible refine Below.step ?_ (by assumption)))); done)); (focus (refine RowAt.below H1.out ?_; have hB9 := hC.2; (repeat (first | assumption | (with_reducible exact Below.refl _ _) | (with_reducible refine Below.drewN ?_ _) | (with_reducible refine Below.drew ?_) | (with_reducible refine Below.allocS ?_ _) | ((with_reducible refine Below.setCell ?_ ?_ _); rotate_left; focus (first | omega | (simp; done) | (simp; omega))) | (with_reducible refine Below.step ?_ (by assumption)))); done)); rintro e w2 ⟨g'0, g'1, rfl, o'0, o'1, o'ne0, hb2⟩; exact ⟨_, rfl, .inl ⟨rfl, _, _, rfl⟩, (by simp [RVF, Act.put, Act.eval]; exact ⟨_, _, ⟨rfl, rfl⟩, ownsRow_rowAt o'0, ownsRow_rowAt o'1⟩), hb2⟩)); (intro v hv; simp at hv; obtain ⟨s0, s1, rfl⟩ := hv)) | (refine calmV_call (f := 17) (args := _) hst rfl (by (intro w1; simp [execOp, resolve, invoke, go_sem]; with_reducible rfl)) (fun w1 hC hD => ?_) ?_; (focus (have hf := RVF_get (depV hD (ia := 2) (by kernel_rfl)) (List.mem_singleton.2 rfl); simp [Act.put, Act.eval] at hf; obtain ⟨t0, t1, ⟨rfl, rfl⟩, hf0, hf1⟩ := hf; refine (eqClocks_any _ _ n0 _ _ n1 l0 l0 l1 l1 _ ?_ ?_ rfl ?_ ?_ rfl).mono ?_; (focus (exact R0.out.below hC.2)); (focus (exact hf0)); (focus (exact R1.out.below hC.2)); (focus (exact hf1)); rintro e w2 ⟨rfl, hb2⟩; exact ⟨_, rfl, .inr ⟨rfl, rfl⟩, (by simp [RVF]), hb2⟩)); (intro v hv; simp at hv; subst hv)))
  refine calmV_nil ?_
  intro w6 hC hF
  have c6 := hC.2
  (try clear hk)
  have hk := hC.1
  simp only [Held, and_true] at hk
  have hBw6 : Below w.heap.size w w6 := by (repeat (first | assumption | (with_reducible exact Below.refl _ _) | (with_reducible refine Below.drewN ?_ _) | (with_reducible refine Below.drew ?_) | (with_reducible refine Below.allocS ?_ _) | ((with_reducible refine Below.setCell ?_ ?_ _); rotate_left; focus (first | omega | (simp; done) | (simp; omega))) | (with_reducible refine Below.step ?_ (by assumption))))
  clear hC hF hst R0 R1
  replace Ru0 := Lib.hid (Ru0.out.below c6)
  replace Rvv0 := Lib.hid (Rvv0.out.below c6)
  replace Ovv0 := Lib.hid (ownsRow_below Ovv0.out c6)
  replace P0 := Lib.hid (ownsRow_below P0.out c6)
  replace P1 := Lib.hid (ownsRow_below P1.out c6)
  go_wp2_with fail
  refine (markClocks_any _ n0 _ _ _ n1 _ _ 1 _ P0.out (by omega) P1.out (by omega) ?_ (by omega)).mono ?_
  · intro i hi hj
    have e1 := own_some hi
    have e2 := own_some hj
    omega
  rintro e w7 ⟨rfl, _, _, K7⟩
  have r7 : ∀ i, some i ∈ [(Value.slice (some ⟨g0, 0, none⟩) n0 n0).ownBlock, (Value.slice (some ⟨g1, 0, none⟩) n1 n1).ownBlock] → w2.heap.size ≤ i ∧ i < w3.heap.size := range_two (fun i hi => by have e1 := own_some hi; omega) (fun i hi => by have e1 := own_some hi; omega)
  have hkN := Held_range K7 r7 (l := [(⟨w.heap.size, 0, none⟩, v0), (⟨w.heap.size, 1, none⟩, v1), (⟨w3.heap.size, 0, none⟩, .slice (some ⟨g0, 0, none⟩) n0 n0), (⟨w3.heap.size, 1, none⟩, .slice (some ⟨g1, 0, none⟩) n1 n1)]) (by simp only [List.mem_cons, List.not_mem_nil, or_false, forall_eq_or_imp, forall_eq]; omega) (by simp [Held, go_sem, *])
  (try clear hk)
  have hk := hkN
  clear hkN
  simp only [Held, and_true] at hk
  have C7 : Below w.heap.size w6 w7 := Below_range K7 r7 (by omega) hBw6.size
  have hBw7 : Below w.heap.size w w7 := hBw6.trans C7
  replace Ru0 := Lib.hid (RowAt_range K7 r7 (fun i hi => by have := Lu0.out i hi; omega) Ru0.out)
  replace Rvv0 := Lib.hid (RowAt_range K7 r7 (fun i hi => by have := Lvv0.out i hi; omega) Rvv0.out)
  replace Ovv0 := Lib.hid (ownsRow_range K7 r7 (fun i hi => by have := Lvv0.out i hi; omega) Ovv0.out)
  go_wp2_with fail
  refine (eqFloat32S_any _ _ (cN B (n0)) (cL B (ratesL n0 l0 l1)) (cL B (ratesL n0 l0 l1)) _ ?_ ?_ rfl).mono ?_
  · refine RowAt.below Rvv0.out ?_
    (repeat (first | assumption | (with_reducible exact Below.refl _ _) | (with_reducible refine Below.drewN ?_ _) | (with_reducible refine Below.drew ?_) | (with_reducible refine Below.allocS ?_ _) | ((with_reducible refine Below.setCell ?_ ?_ _); rotate_left; focus (first | omega | (simp; done) | (simp; omega))) | (with_reducible refine Below.step ?_ (by assumption))))
  · refine RowAt.below Ru0.out ?_
    (repeat (first | assumption | (with_reducible exact Below.refl _ _) | (with_reducible refine Below.drewN ?_ _) | (with_reducible refine Below.drew ?_) | (with_reducible refine Below.allocS ?_ _) | ((with_reducible refine Below.setCell ?_ ?_ _); rotate_left; focus (first | omega | (simp; done) | (simp; omega))) | (with_reducible refine Below.step ?_ (by assumption))))
  rintro e w8 ⟨rfl, c8x0⟩
  have hkN := Held.below c8x0 (l := [(⟨w.heap.size, 0, none⟩, v0), (⟨w.heap.size, 1, none⟩, v1), (⟨w3.heap.size, 0, none⟩, .slice (some ⟨g0, 0, none⟩) n0 n0), (⟨w3.heap.size, 1, none⟩, .slice (some ⟨g1, 0, none⟩) n1 n1)]) (by simp [Held, go_sem, *])
  (try clear hk)
  have hk := hkN
  clear hkN
  simp only [Held, and_true] at hk
  have hBw8 : Below w.heap.size w w8 := by (repeat (first | assumption | (with_reducible exact Below.refl _ _) | (with_reducible refine Below.drewN ?_ _) | (with_reducible refine Below.drew ?_) | (with_reducible refine Below.allocS ?_ _) | ((with_reducible refine Below.setCell ?_ ?_ _); rotate_left; focus (first | omega | (simp; done) | (simp; omega))) | (with_reducible refine Below.step ?_ (by assumption))))
  have hzw8_0 : w.heap.size < w8.heap.size := by omega
  have hzw8_1 : w3.heap.size < w8.heap.size := by omega
  have B8 : Below w7.heap.size w7 w8 := by
    refine Below.step ?_ c8x0
    (repeat (first | (with_reducible exact Below.refl _ _) | (with_reducible refine Below.drewN ?_ _) | (with_reducible refine Below.drew ?_) | (with_reducible refine Below.allocS ?_ _) | ((with_reducible refine Below.setCell ?_ ?_ _); rotate_left; focus (first | omega | (simp; done) | (simp; omega)))))
  replace Ru0 := Lib.hid (Ru0.out.below B8)
  replace Rvv0 := Lib.hid (Rvv0.out.below B8)
  replace Ovv0 := Lib.hid (ownsRow_below Ovv0.out B8)
  go_wp2_with fail
  go_wp2_with fail
  refine (markFloat32S_any _ _ (1) _ _ _ Ovv0.out (by omega) (by omega)).mono ?_
  rintro e w9x0 ⟨rfl, ow0, G9⟩
  have K9 := Kept.of_grown G9
  have r9 := range_one Lvv0.out
  have hkN := Held_range K9 r9 (l := [(⟨w.heap.size, 0, none⟩, v0), (⟨w.heap.size, 1, none⟩, v1), (⟨w3.heap.size, 0, none⟩, .slice (some ⟨g0, 0, none⟩) n0 n0), (⟨w3.heap.size, 1, none⟩, .slice (some ⟨g1, 0, none⟩) n1 n1)]) (by simp only [List.mem_cons, List.not_mem_nil, or_false, forall_eq_or_imp, forall_eq]; omega) (by simp [Held, go_sem, *])
  (try clear hk)
  have hk := hkN
  clear hkN
  simp only [Held, and_true] at hk
  have C9 : Below w.heap.size w8 w9x0 := Below_range K9 r9 (by omega) (by have := hBw8.size; omega)
  have hBw9x0 : Below w.heap.size w w9x0 := hBw8.trans C9
  replace Ru0 := Lib.hid (RowAt_range K9 r9 (fun i hi => by have := Lu0.out i hi; omega) Ru0.out)
  have Mvv0 := Lib.hid (ownsRow_rowAt ow0)
  clear Rvv0 ow0
  clear K9 r9 C9 G9
  go_wp2_with fail
  refine (heldFloat32S_any _ (cN B (n0)) (1) _ ?_ (by omega) (by omega)).mono ?_
  · refine RowAt.below Mvv0.out ?_
    (repeat (first | assumption | (with_reducible exact Below.refl _ _) | (with_reducible refine Below.drewN ?_ _) | (with_reducible refine Below.drew ?_) | (with_reducible refine Below.allocS ?_ _) | ((with_reducible refine Below.setCell ?_ ?_ _); rotate_left; focus (first | omega | (simp; done) | (simp; omega))) | (with_reducible refine Below.step ?_ (by assumption))))
  rintro e w9' ⟨rfl, e9⟩
  subst w9'
  go_wp2_with fail
  refine (toClocks_any v0 n0 v1 n1 l0 l1 _ ?_ ?_ (by omega) (by omega)).mono ?_
  · refine RowAt.below H0.out ?_
    (repeat (first | assumption | (with_reducible exact Below.refl _ _) | (with_reducible refine Below.drewN ?_ _) | (with_reducible refine Below.drew ?_) | (with_reducible refine Below.allocS ?_ _) | ((with_reducible refine Below.setCell ?_ ?_ _); rotate_left; focus (first | omega | (simp; done) | (simp; omega))) | (with_reducible refine Below.step ?_ (by assumption))))
  · refine RowAt.below H1.out ?_
    (repeat (first | assumption | (with_reducible exact Below.refl _ _) | (with_reducible refine Below.drewN ?_ _) | (with_reducible refine Below.drew ?_) | (with_reducible refine Below.allocS ?_ _) | ((with_reducible refine Below.setCell ?_ ?_ _); rotate_left; focus (first | omega | (simp; done) | (simp; omega))) | (with_reducible refine Below.step ?_ (by assumption))))
  rintro e w11 ⟨gz0, gz1, rfl, oz0, oz1, ozne0, c11⟩
  have hkN := Held.below c11 (l := [(⟨w.heap.size, 0, none⟩, v0), (⟨w.heap.size, 1, none⟩, v1), (⟨w3.heap.size, 0, none⟩, .slice (some ⟨g0, 0, none⟩) n0 n0), (⟨w3.heap.size, 1, none⟩, .slice (some ⟨g1, 0, none⟩) n1 n1)]) (by simp [Held, go_sem, *])
  (try clear hk)
  have hk := hkN
  clear hkN
  simp only [Held, and_true] at hk
  have hBw11 : Below w.heap.size w w11 := by (repeat (first | assumption | (with_reducible exact Below.refl _ _) | (with_reducible refine Below.drewN ?_ _) | (with_reducible refine Below.drew ?_) | (with_reducible refine Below.allocS ?_ _) | ((with_reducible refine Below.setCell ?_ ?_ _); rotate_left; focus (first | omega | (simp; done) | (simp; omega))) | (with_reducible refine Below.step ?_ (by assumption))))
  have hzw11_0 : w.heap.size < w11.heap.size := by omega
  have hzw11_1 : w3.heap.size < w11.heap.size := by omega
  have B11 : Below w9x0.heap.size w9x0 w11 := by
    refine Below.step ?_ c11
    (repeat (first | (with_reducible exact Below.refl _ _) | (with_reducible refine Below.drewN ?_ _) | (with_reducible refine Below.drew ?_) | (with_reducible refine Below.allocS ?_ _) | ((with_reducible refine Below.setCell ?_ ?_ _); rotate_left; focus (first | omega | (simp; done) | (simp; omega)))))
  replace Ru0 := Lib.hid (Ru0.out.below B11)
  replace Mvv0 := Lib.hid (Mvv0.out.below B11)
  go_wp2_with fail
  refine (implRatesOf_lit HBB.out _ _ _ (ownsRow_rowAt oz0) (ownsRow_rowAt oz1)).mono ?_
  rintro e w12 ⟨h0, rfl, ow_h0, c12⟩
  have hkN := Held.below c12 (l := [(⟨w.heap.size, 0, none⟩, v0), (⟨w.heap.size, 1, none⟩, v1), (⟨w3.heap.size, 0, none⟩, .slice (some ⟨g0, 0, none⟩) n0 n0), (⟨w3.heap.size, 1, none⟩, .slice (some ⟨g1, 0, none⟩) n1 n1)]) (by simp [Held, go_sem, *])
  (try clear hk)
  have hk := hkN
  clear hkN
  simp only [Held, and_true] at hk
  have hBw12 : Below w.heap.size w w12 := by (repeat (first | assumption | (with_reducible exact Below.refl _ _) | (with_reducible refine Below.drewN ?_ _) | (with_reducible refine Below.drew ?_) | (with_reducible refine Below.allocS ?_ _) | ((with_reducible refine Below.setCell ?_ ?_ _); rotate_left; focus (first | omega | (simp; done) | (simp; omega))) | (with_reducible refine Below.step ?_ (by assumption))))
  have hzw12_0 : w.heap.size < w12.heap.size := by omega
  have hzw12_1 : w3.heap.size < w12.heap.size := by omega
  have Lh0 := Lib.hid (ownsRow_lt ow_h0)
  (try simp only [World.size_alloc, World.size_setCell, World.heap_drewN] at Lh0)
  have Oh0 := Lib.hid ow_h0
  have Rh0 := Lib.hid (ownsRow_rowAt ow_h0)
  clear ow_h0
  have B12 : Below w11.heap.size w11 w12 := by
    refine Below.step ?_ c12
    (repeat (first | (with_reducible exact Below.refl _ _) | (with_reducible refine Below.drewN ?_ _) | (with_reducible refine Below.drew ?_) | (with_reducible refine Below.allocS ?_ _) | ((with_reducible refine Below.setCell ?_ ?_ _); rotate_left; focus (first | omega | (simp; done) | (simp; omega)))))
  replace Ru0 := Lib.hid (Ru0.out.below B12)
  replace Mvv0 := Lib.hid (Mvv0.out.below B12)
  go_wp2_with fail
  refine (eqFloat32S_any _ _ (cN B (n0)) (cL B (ratesL n0 l0 l1)) (cL B (ratesL n0 l0 l1)) _ ?_ ?_ rfl).mono ?_
  · refine RowAt.below Rh0.out ?_
    (repeat (first | assumption | (with_reducible exact Below.refl _ _) | (with_reducible refine Below.drewN ?_ _) | (with_reducible refine Below.drew ?_) | (with_reducible refine Below.allocS ?_ _) | ((with_reducible refine Below.setCell ?_ ?_ _); rotate_left; focus (first | omega | (simp; done) | (simp; omega))) | (with_reducible refine Below.step ?_ (by assumption))))
  · refine RowAt.below Ru0.out ?_
    (repeat (first | assumption | (with_reducible exact Below.refl _ _) | (with_reducible refine Below.drewN ?_ _) | (with_reducible refine Below.drew ?_) | (with_reducible refine Below.allocS ?_ _) | ((with_reducible refine Below.setCell ?_ ?_ _); rotate_left; focus (first | omega | (simp; done) | (simp; omega))) | (with_reducible refine Below.step ?_ (by assumption))))
  rintro e w13 ⟨rfl, c13x0⟩
  have hkN := Held.below c13x0 (l := [(⟨w.heap.size, 0, none⟩, v0), (⟨w.heap.size, 1, none⟩, v1), (⟨w3.heap.size, 0, none⟩, .slice (some ⟨g0, 0, none⟩) n0 n0), (⟨w3.heap.size, 1, none⟩, .slice (some ⟨g1, 0, none⟩) n1 n1)]) (by simp [Held, go_sem, *])
  (try clear hk)
  have hk := hkN
  clear hkN
  simp only [Held, and_true] at hk
  have hBw13 : Below w.heap.size w w13 := by (repeat (first | assumption | (with_reducible exact Below.refl _ _) | (with_reducible refine Below.drewN ?_ _) | (with_reducible refine Below.drew ?_) | (with_reducible refine Below.allocS ?_ _) | ((with_reducible refine Below.setCell ?_ ?_ _); rotate_left; focus (first | omega | (simp; done) | (simp; omega))) | (with_reducible refine Below.step ?_ (by assumption))))
  have hzw13_0 : w.heap.size < w13.heap.size := by omega
  have hzw13_1 : w3.heap.size < w13.heap.size := by omega
  have B13 : Below w12.heap.size w12 w13 := by
    refine Below.step ?_ c13x0
    (repeat (first | (with_reducible exact Below.refl _ _) | (with_reducible refine Below.drewN ?_ _) | (with_reducible refine Below.drew ?_) | (with_reducible refine Below.allocS ?_ _) | ((with_reducible refine Below.setCell ?_ ?_ _); rotate_left; focus (first | omega | (simp; done) | (simp; omega)))))
  replace Ru0 := Lib.hid (Ru0.out.below B13)
  replace Mvv0 := Lib.hid (Mvv0.out.below B13)
  go_wp2_with fail
  go_wp2_with fail
  refine (heldFloat32S_any _ (cN B (n0)) (1) _ ?_ (by omega) (by omega)).mono ?_
  · refine RowAt.below Mvv0.out ?_
    (repeat (first | assumption | (with_reducible exact Below.refl _ _) | (with_reducible refine Below.drewN ?_ _) | (with_reducible refine Below.drew ?_) | (with_reducible refine Below.allocS ?_ _) | ((with_reducible refine Below.setCell ?_ ?_ _); rotate_left; focus (first | omega | (simp; done) | (simp; omega))) | (with_reducible refine Below.step ?_ (by assumption))))
  rintro e w9' ⟨rfl, e9⟩
  subst w9'
  go_wp2_with fail
  go_ret
  refine ⟨rfl, ?_⟩
  (repeat (first | assumption | (with_reducible exact Below.refl _ _) | (with_reducible refine Below.drewN ?_ _) | (with_reducible refine Below.drew ?_) | (with_reducible refine Below.allocS ?_ _) | ((with_reducible refine Below.setCell ?_ ?_ _); rotate_left; focus (first | omega | (simp; done) | (simp; omega))) | (with_reducible refine Below.step ?_ (by assumption))))

theorem specStepClocks_lit {n m : Nat} {l lk : List Nat} {y2 : Nat} {B : Bool} (hB : ((clocksB n l m lk && levelB y2) && upto (fun j => finB .f32 (stepQ n l lk y2 j)) n) = B) (v v' : Value) (w : World) (h : RowAt w v 2 n (fl l)) (h' : RowAt w v' 1 m (fl lk)) : Calls Try.prog 50 #[.agg #[v, v'], .float .f32 y2] w (GiveC (cN B (n)) (cL B (turned l (stepQ n l lk y2) n)) (cN B (m)) (cL B (lk)) B w) := hB ▸ specStepClocks_any v v' n m l lk y2 w h h'

theorem implStepClocks_lit {n m : Nat} {l lk : List Nat} {y2 : Nat} {B : Bool} (hB : ((clocksB n l m lk && levelB y2) && upto (fun j => finB .f32 (stepQ n l lk y2 j)) n) = B) (v v' : Value) (w : World) (h : RowAt w v 2 n (fl l)) (h' : RowAt w v' 1 m (fl lk)) : Calls Try.prog 51 #[.agg #[v, v'], .float .f32 y2] w (GiveC (cN B (n)) (cL B (turned l (stepQ n l lk y2) n)) (cN B (m)) (cL B (lk)) B w) := hB ▸ implStepClocks_any v v' n m l lk y2 w h h'

set_option maxRecDepth 100000 in
set_option maxHeartbeats 8000000 in
theorem lawStepClocks_walk (v0 : Value) (n0 : Nat) (l0 : List Nat) (v1 : Value) (n1 : Nat) (l1 : List Nat) (y2 : Nat) (w : World) (h0 : RowAt w v0 2 n0 (fl l0)) (h1 : RowAt w v1 1 n1 (fl l1)) (hb0 : ∀ x ∈ l0, x < 4294967296) (hb1 : ∀ x ∈ l1, x < 4294967296) (hb_y2 : y2 < 4294967296) : Calls Try.prog 14 #[.agg #[v0, v1], .float .f32 y2] w fun e w' => e = .returned (.bool true) ∧ Below w.heap.size w w' := by
  have H0 := Lib.hid h0
  have H1 := Lib.hid h1
  have HB0 := Lib.hid hb0
  clear hb0
  have HB1 := Lib.hid hb1
  clear hb1
  clear h0 h1
  go_enter Try.func14, Try.ntmps14
  obtain ⟨B, hB⟩ : ∃ B, ((clocksB n0 l0 n1 l1 && levelB y2) && upto (fun j => finB .f32 (stepQ n0 l0 l1 y2 j)) n0) = B := ⟨_, rfl⟩
  have hN9 : cN B (n0) ≤ 12 ∧ cN B (n1) ≤ 144 := by
    cases B
    · exact ⟨Nat.zero_le _, Nat.zero_le _⟩
    · simp only [Bool.and_eq_true] at hB; obtain ⟨c1, c2, c3, c4, c5⟩ := clocks_parts hB.1.1; exact ⟨c2, by have := sq_small c2; show n1 ≤ 144; omega⟩
  have HBB := Lib.hid hB
  clear hB
  go_wp2_with fail
  refine (szClocks_any v0 n0 (fl l0) v1 n1 (fl l1) (1048576) _ ?_ ?_ (by omega)).mono ?_
  · refine RowAt.below H0.out ?_
    (repeat (first | assumption | (with_reducible exact Below.refl _ _) | (with_reducible refine Below.drewN ?_ _) | (with_reducible refine Below.drew ?_) | (with_reducible refine Below.allocS ?_ _) | ((with_reducible refine Below.setCell ?_ ?_ _); rotate_left; focus (first | omega | (simp; done) | (simp; omega))) | (with_reducible refine Below.step ?_ (by assumption))))
  · refine RowAt.below H1.out ?_
    (repeat (first | assumption | (with_reducible exact Below.refl _ _) | (with_reducible refine Below.drewN ?_ _) | (with_reducible refine Below.drew ?_) | (with_reducible refine Below.allocS ?_ _) | ((with_reducible refine Below.setCell ?_ ?_ _); rotate_left; focus (first | omega | (simp; done) | (simp; omega))) | (with_reducible refine Below.step ?_ (by assumption))))
  rintro e ws0 ⟨rfl, hcs0⟩
  have hk := Held.below hcs0 (l := [(⟨w.heap.size, 0, none⟩, v0), (⟨w.heap.size, 1, none⟩, v1)]) (by simp [Held, go_sem, *])
  simp only [Held, and_true] at hk
  have hBs0 : Below w.heap.size w ws0 := by (repeat (first | assumption | (with_reducible exact Below.refl _ _) | (with_reducible refine Below.drewN ?_ _) | (with_reducible refine Below.drew ?_) | (with_reducible refine Below.allocS ?_ _) | ((with_reducible refine Below.setCell ?_ ?_ _); rotate_left; focus (first | omega | (simp; done) | (simp; omega))) | (with_reducible refine Below.step ?_ (by assumption))))
  clear hcs0
  by_cases hs0 : n0 + n1 ≤ 1048576
  case neg =>
    rw [if_neg hs0]
    go_wp2_with fail
    go_ret
    refine ⟨rfl, ?_⟩
    (repeat (first | assumption | (with_reducible exact Below.refl _ _) | (with_reducible refine Below.drewN ?_ _) | (with_reducible refine Below.drew ?_) | (with_reducible refine Below.allocS ?_ _) | ((with_reducible refine Below.setCell ?_ ?_ _); rotate_left; focus (first | omega | (simp; done) | (simp; omega))) | (with_reducible refine Below.step ?_ (by assumption))))
  rw [if_pos hs0]
  go_wp2_with fail
  refine (toClocks_any v0 n0 v1 n1 l0 l1 _ ?_ ?_ (by omega) (by omega)).mono ?_
  · refine RowAt.below H0.out ?_
    (repeat (first | assumption | (with_reducible exact Below.refl _ _) | (with_reducible refine Below.drewN ?_ _) | (with_reducible refine Below.drew ?_) | (with_reducible refine Below.allocS ?_ _) | ((with_reducible refine Below.setCell ?_ ?_ _); rotate_left; focus (first | omega | (simp; done) | (simp; omega))) | (with_reducible refine Below.step ?_ (by assumption))))
  · refine RowAt.below H1.out ?_
    (repeat (first | assumption | (with_reducible exact Below.refl _ _) | (with_reducible refine Below.drewN ?_ _) | (with_reducible refine Below.drew ?_) | (with_reducible refine Below.allocS ?_ _) | ((with_reducible refine Below.setCell ?_ ?_ _); rotate_left; focus (first | omega | (simp; done) | (simp; omega))) | (with_reducible refine Below.step ?_ (by assumption))))
  rintro e w1 ⟨ga0, ga1, rfl, oa0, oa1, oane0, c1⟩
  have hkN := Held.below c1 (l := [(⟨w.heap.size, 0, none⟩, v0), (⟨w.heap.size, 1, none⟩, v1)]) (by simp [Held, go_sem, *])
  (try clear hk)
  have hk := hkN
  clear hkN
  simp only [Held, and_true] at hk
  have hBw1 : Below w.heap.size w w1 := by (repeat (first | assumption | (with_reducible exact Below.refl _ _) | (with_reducible refine Below.drewN ?_ _) | (with_reducible refine Below.drew ?_) | (with_reducible refine Below.allocS ?_ _) | ((with_reducible refine Below.setCell ?_ ?_ _); rotate_left; focus (first | omega | (simp; done) | (simp; omega))) | (with_reducible refine Below.step ?_ (by assumption))))
  have hzw1_0 : w.heap.size < w1.heap.size := by omega
  go_wp2_with fail
  refine (specStepClocks_lit HBB.out _ _ _ (ownsRow_rowAt oa0) (ownsRow_rowAt oa1)).mono ?_
  rintro e w2 ⟨u00, u01, rfl, ow_u00, ow_u01, ne_u00_u01, c2⟩
  obtain ⟨a_u00, k_u00, d_u00, rfl⟩ := ownsRow_shape ow_u00
  obtain ⟨a_u01, k_u01, d_u01, rfl⟩ := ownsRow_shape ow_u01
  have hkN := Held.below c2 (l := [(⟨w.heap.size, 0, none⟩, v0), (⟨w.heap.size, 1, none⟩, v1)]) (by simp [Held, go_sem, *])
  (try clear hk)
  have hk := hkN
  clear hkN
  simp only [Held, and_true] at hk
  have hBw2 : Below w.heap.size w w2 := by (repeat (first | assumption | (with_reducible exact Below.refl _ _) | (with_reducible refine Below.drewN ?_ _) | (with_reducible refine Below.drew ?_) | (with_reducible refine Below.allocS ?_ _) | ((with_reducible refine Below.setCell ?_ ?_ _); rotate_left; focus (first | omega | (simp; done) | (simp; omega))) | (with_reducible refine Below.step ?_ (by assumption))))
  have hzw2_0 : w.heap.size < w2.heap.size := by omega
  have Lu00 := Lib.hid (ownsRow_lt ow_u00)
  (try simp only [World.size_alloc, World.size_setCell, World.heap_drewN] at Lu00)
  have Ou00 := Lib.hid ow_u00
  have Ru00 := Lib.hid (ownsRow_rowAt ow_u00)
  clear ow_u00
  have Lu01 := Lib.hid (ownsRow_lt ow_u01)
  (try simp only [World.size_alloc, World.size_setCell, World.heap_drewN] at Lu01)
  have Ou01 := Lib.hid ow_u01
  have Ru01 := Lib.hid (ownsRow_rowAt ow_u01)
  clear ow_u01
  have : ¬ w.heap.size = w2.heap.size := by omega
  clear oa0 oa1
  go_wp2_with fail
  refine (toClocks_any v0 n0 v1 n1 l0 l1 _ ?_ ?_ (by omega) (by omega)).mono ?_
  · refine RowAt.below H0.out ?_
    (repeat (first | assumption | (with_reducible exact Below.refl _ _) | (with_reducible refine Below.drewN ?_ _) | (with_reducible refine Below.drew ?_) | (with_reducible refine Below.allocS ?_ _) | ((with_reducible refine Below.setCell ?_ ?_ _); rotate_left; focus (first | omega | (simp; done) | (simp; omega))) | (with_reducible refine Below.step ?_ (by assumption))))
  · refine RowAt.below H1.out ?_
    (repeat (first | assumption | (with_reducible exact Below.refl _ _) | (with_reducible refine Below.drewN ?_ _) | (with_reducible refine Below.drew ?_) | (with_reducible refine Below.allocS ?_ _) | ((with_reducible refine Below.setCell ?_ ?_ _); rotate_left; focus (first | omega | (simp; done) | (simp; omega))) | (with_reducible refine Below.step ?_ (by assumption))))
  rintro e w3 ⟨g0, g1, rfl, o0, o1, one0, c3⟩
  have hkN := Held.below c3 (l := [(⟨w.heap.size, 0, none⟩, v0), (⟨w.heap.size, 1, none⟩, v1), (⟨w2.heap.size, 0, none⟩, .slice a_u00 k_u00 d_u00), (⟨w2.heap.size, 1, none⟩, .slice a_u01 k_u01 d_u01)]) (by simp [Held, go_sem, *])
  (try clear hk)
  have hk := hkN
  clear hkN
  simp only [Held, and_true] at hk
  have hBw3 : Below w.heap.size w w3 := by (repeat (first | assumption | (with_reducible exact Below.refl _ _) | (with_reducible refine Below.drewN ?_ _) | (with_reducible refine Below.drew ?_) | (with_reducible refine Below.allocS ?_ _) | ((with_reducible refine Below.setCell ?_ ?_ _); rotate_left; focus (first | omega | (simp; done) | (simp; omega))) | (with_reducible refine Below.step ?_ (by assumption))))
  have hzw3_0 : w.heap.size < w3.heap.size := by omega
  have hzw3_1 : w2.heap.size < w3.heap.size := by omega
  have B3 : Below w2.heap.size w2 w3 := by
    refine Below.step ?_ c3
    (repeat (first | (with_reducible exact Below.refl _ _) | (with_reducible refine Below.drewN ?_ _) | (with_reducible refine Below.drew ?_) | (with_reducible refine Below.allocS ?_ _) | ((with_reducible refine Below.setCell ?_ ?_ _); rotate_left; focus (first | omega | (simp; done) | (simp; omega)))))
  replace Ru00 := Lib.hid (Ru00.out.below B3)
  replace Ru01 := Lib.hid (Ru01.out.below B3)
  have : ¬ w.heap.size = w3.heap.size := by omega
  have : ¬ w2.heap.size = w3.heap.size := by omega
  have X0 := ownsRow_lt o0 _ rfl
  have X1 := ownsRow_lt o1 _ rfl
  simp only [World.size_alloc, World.size_setCell] at X0 X1
  have P0 := Lib.hid o0
  have P1 := Lib.hid o1
  go_wp2_with fail
  refine (implStepClocks_lit HBB.out _ _ _ ((ownsRow_rowAt o0).below (by (repeat (first | (with_reducible exact Below.refl _ _) | (with_reducible refine Below.drewN ?_ _) | (with_reducible refine Below.drew ?_) | (with_reducible refine Below.allocS ?_ _) | ((with_reducible refine Below.setCell ?_ ?_ _); rotate_left; focus (first | omega | (simp; done) | (simp; omega))))))) ((ownsRow_rowAt o1).below (by (repeat (first | (with_reducible exact Below.refl _ _) | (with_reducible refine Below.drewN ?_ _) | (with_reducible refine Below.drew ?_) | (with_reducible refine Below.allocS ?_ _) | ((with_reducible refine Below.setCell ?_ ?_ _); rotate_left; focus (first | omega | (simp; done) | (simp; omega)))))))).mono ?_
  rintro e w4 ⟨vv00, vv01, rfl, ow_vv00, ow_vv01, ne_vv00_vv01, c4⟩
  obtain ⟨a_vv00, k_vv00, d_vv00, rfl⟩ := ownsRow_shape ow_vv00
  obtain ⟨a_vv01, k_vv01, d_vv01, rfl⟩ := ownsRow_shape ow_vv01
  have hkN := Held.below c4 (l := [(⟨w.heap.size, 0, none⟩, v0), (⟨w.heap.size, 1, none⟩, v1), (⟨w2.heap.size, 0, none⟩, .slice a_u00 k_u00 d_u00), (⟨w2.heap.size, 1, none⟩, .slice a_u01 k_u01 d_u01), (⟨w3.heap.size, 0, none⟩, .slice (some ⟨g0, 0, none⟩) n0 n0), (⟨w3.heap.size, 1, none⟩, .slice (some ⟨g1, 0, none⟩) n1 n1)]) (by simp [Held, go_sem, *])
  (try clear hk)
  have hk := hkN
  clear hkN
  simp only [Held, and_true] at hk
  have hBw4 : Below w.heap.size w w4 := by (repeat (first | assumption | (with_reducible exact Below.refl _ _) | (with_reducible refine Below.drewN ?_ _) | (with_reducible refine Below.drew ?_) | (with_reducible refine Below.allocS ?_ _) | ((with_reducible refine Below.setCell ?_ ?_ _); rotate_left; focus (first | omega | (simp; done) | (simp; omega))) | (with_reducible refine Below.step ?_ (by assumption))))
  have hzw4_0 : w.heap.size < w4.heap.size := by omega
  have hzw4_1 : w2.heap.size < w4.heap.size := by omega
  have hzw4_2 : w3.heap.size < w4.heap.size := by omega
  have Lvv00 := Lib.hid (ownsRow_lt ow_vv00)
  (try simp only [World.size_alloc, World.size_setCell, World.heap_drewN] at Lvv00)
  have Ovv00 := Lib.hid ow_vv00
  have Rvv00 := Lib.hid (ownsRow_rowAt ow_vv00)
  clear ow_vv00
  have Lvv01 := Lib.hid (ownsRow_lt ow_vv01)
  (try simp only [World.size_alloc, World.size_setCell, World.heap_drewN] at Lvv01)
  have Ovv01 := Lib.hid ow_vv01
  have Rvv01 := Lib.hid (ownsRow_rowAt ow_vv01)
  clear ow_vv01
  have : ¬ w.heap.size = w4.heap.size := by omega
  have : ¬ w2.heap.size = w4.heap.size := by omega
  have : ¬ w3.heap.size = w4.heap.size := by omega
  clear o0 o1
  have B4 : Below w3.heap.size w3 w4 := by
    refine Below.step ?_ c4
    (repeat (first | (with_reducible exact Below.refl _ _) | (with_reducible refine Below.drewN ?_ _) | (with_reducible refine Below.drew ?_) | (with_reducible refine Below.allocS ?_ _) | ((with_reducible refine Below.setCell ?_ ?_ _); rotate_left; focus (first | omega | (simp; done) | (simp; omega)))))
  replace Ru00 := Lib.hid (Ru00.out.below B4)
  replace Ru01 := Lib.hid (Ru01.out.below B4)
  replace P0 := Lib.hid (ownsRow_below P0.out B4)
  replace P1 := Lib.hid (ownsRow_below P1.out B4)
  go_wp2_with fail
  refine (eqClocks_any _ _ (cN B (n0)) _ _ (cN B (n1)) (cL B (turned l0 (stepQ n0 l0 l1 y2) n0)) (cL B (turned l0 (stepQ n0 l0 l1 y2) n0)) (cL B (l1)) (cL B (l1)) _ ?_ ?_ rfl ?_ ?_ rfl).mono ?_
  · refine RowAt.below Rvv00.out ?_
    (repeat (first | assumption | (with_reducible exact Below.refl _ _) | (with_reducible refine Below.drewN ?_ _) | (with_reducible refine Below.drew ?_) | (with_reducible refine Below.allocS ?_ _) | ((with_reducible refine Below.setCell ?_ ?_ _); rotate_left; focus (first | omega | (simp; done) | (simp; omega))) | (with_reducible refine Below.step ?_ (by assumption))))
  · refine RowAt.below Ru00.out ?_
    (repeat (first | assumption | (with_reducible exact Below.refl _ _) | (with_reducible refine Below.drewN ?_ _) | (with_reducible refine Below.drew ?_) | (with_reducible refine Below.allocS ?_ _) | ((with_reducible refine Below.setCell ?_ ?_ _); rotate_left; focus (first | omega | (simp; done) | (simp; omega))) | (with_reducible refine Below.step ?_ (by assumption))))
  · refine RowAt.below Rvv01.out ?_
    (repeat (first | assumption | (with_reducible exact Below.refl _ _) | (with_reducible refine Below.drewN ?_ _) | (with_reducible refine Below.drew ?_) | (with_reducible refine Below.allocS ?_ _) | ((with_reducible refine Below.setCell ?_ ?_ _); rotate_left; focus (first | omega | (simp; done) | (simp; omega))) | (with_reducible refine Below.step ?_ (by assumption))))
  · refine RowAt.below Ru01.out ?_
    (repeat (first | assumption | (with_reducible exact Below.refl _ _) | (with_reducible refine Below.drewN ?_ _) | (with_reducible refine Below.drew ?_) | (with_reducible refine Below.allocS ?_ _) | ((with_reducible refine Below.setCell ?_ ?_ _); rotate_left; focus (first | omega | (simp; done) | (simp; omega))) | (with_reducible refine Below.step ?_ (by assumption))))
  rintro e w5 ⟨rfl, c5x0⟩
  have hkN := Held.below c5x0 (l := [(⟨w.heap.size, 0, none⟩, v0), (⟨w.heap.size, 1, none⟩, v1), (⟨w2.heap.size, 0, none⟩, .slice a_u00 k_u00 d_u00), (⟨w2.heap.size, 1, none⟩, .slice a_u01 k_u01 d_u01), (⟨w3.heap.size, 0, none⟩, .slice (some ⟨g0, 0, none⟩) n0 n0), (⟨w3.heap.size, 1, none⟩, .slice (some ⟨g1, 0, none⟩) n1 n1), (⟨w4.heap.size, 0, none⟩, .slice a_vv00 k_vv00 d_vv00), (⟨w4.heap.size, 1, none⟩, .slice a_vv01 k_vv01 d_vv01)]) (by simp [Held, go_sem, *])
  (try clear hk)
  have hk := hkN
  clear hkN
  simp only [Held, and_true] at hk
  have hBw5 : Below w.heap.size w w5 := by (repeat (first | assumption | (with_reducible exact Below.refl _ _) | (with_reducible refine Below.drewN ?_ _) | (with_reducible refine Below.drew ?_) | (with_reducible refine Below.allocS ?_ _) | ((with_reducible refine Below.setCell ?_ ?_ _); rotate_left; focus (first | omega | (simp; done) | (simp; omega))) | (with_reducible refine Below.step ?_ (by assumption))))
  have hzw5_0 : w.heap.size < w5.heap.size := by omega
  have hzw5_1 : w2.heap.size < w5.heap.size := by omega
  have hzw5_2 : w3.heap.size < w5.heap.size := by omega
  have hzw5_3 : w4.heap.size < w5.heap.size := by omega
  have B5 : Below w4.heap.size w4 w5 := by
    refine Below.step ?_ c5x0
    (repeat (first | (with_reducible exact Below.refl _ _) | (with_reducible refine Below.drewN ?_ _) | (with_reducible refine Below.drew ?_) | (with_reducible refine Below.allocS ?_ _) | ((with_reducible refine Below.setCell ?_ ?_ _); rotate_left; focus (first | omega | (simp; done) | (simp; omega)))))
  replace Ru00 := Lib.hid (Ru00.out.below B5)
  replace Ru01 := Lib.hid (Ru01.out.below B5)
  replace Rvv00 := Lib.hid (Rvv00.out.below B5)
  replace Rvv01 := Lib.hid (Rvv01.out.below B5)
  replace Ovv00 := Lib.hid (ownsRow_below Ovv00.out B5)
  replace Ovv01 := Lib.hid (ownsRow_below Ovv01.out B5)
  replace P0 := Lib.hid (ownsRow_below P0.out B5)
  replace P1 := Lib.hid (ownsRow_below P1.out B5)
  go_wp2_with fail
  have R0 := Lib.hid (ownsRow_rowAt P0.out)
  have R1 := Lib.hid (ownsRow_rowAt P1.out)
  have hst : stableV [(2, 47, (fun v w => ∃ s0 s1, v = .agg #[s0, s1] ∧ RowAt w s0 2 n0 (fl l0) ∧ RowAt w s1 1 n1 (fl l1)))] := by
    intro q hq
    obtain rfl := List.mem_singleton.1 hq
    intro v w w' hb hh
    obtain ⟨s0, s1, rfl, r0, r1⟩ := hh; exact ⟨s0, s1, rfl, r0.below hb, r1.below hb⟩
  refine region_calmV w5 [(⟨w.heap.size, 0, none⟩, v0), (⟨w.heap.size, 1, none⟩, v1), (⟨w2.heap.size, 0, none⟩, .slice a_u00 k_u00 d_u00), (⟨w2.heap.size, 1, none⟩, .slice a_u01 k_u01 d_u01), (⟨w3.heap.size, 0, none⟩, .slice (some ⟨g0, 0, none⟩) n0 n0), (⟨w3.heap.size, 1, none⟩, .slice (some ⟨g1, 0, none⟩) n1 n1), (⟨w4.heap.size, 0, none⟩, .slice a_vv00 k_vv00 d_vv00), (⟨w4.heap.size, 1, none⟩, .slice a_vv01 k_vv01 d_vv01)] (fun f _ v => (f = 22 ∧ ∃ s0 s1, v = .agg #[s0, s1]) ∨ (f = 17 ∧ v = .bool true)) [(2, 47, (fun v w => ∃ s0 s1, v = .agg #[s0, s1] ∧ RowAt w s0 2 n0 (fl l0) ∧ RowAt w s1 1 n1 (fl l1)))] (by kernel_rfl) (by kernel_rfl) (by kernel_rfl) ⟨by simp [Held, go_sem, *], by (repeat (first | assumption | (with_reducible exact Below.refl _ _) | (with_reducible refine Below.drewN ?_ _) | (with_reducible refine Below.drew ?_) | (with_reducible refine Below.allocS ?_ _) | ((with_reducible refine Below.setCell ?_ ?_ _); rotate_left; focus (first | omega | (simp; done) | (simp; omega))) | (with_reducible refine Below.step ?_ (by assumption))))⟩ ?_
  repeat (first | (first | (refine calmV_plain hst rfl rfl ?_ (fun K hK w1 hC => ?_); (focus (intro _ _; simp [RVF]; done)); have hC' := hC.1; simp only [Held, and_true] at hC'; go_wp2_with (first | (refine wpList_fbin rfl rfl rfl rfl rfl (fun r n hr => ?_)) | (refine wpList_widen rfl rfl Try.underlying44 Try.underlying22 rfl (fun r n hr => ?_))); refine ⟨rfl, (by first | exact Below.refl _ _ | exact below_drewN _), hK _ ?_⟩; clear hC hC' hK K w1) | (refine calmV_check rfl rfl rfl ?_ ?_; (focus (intro _ _; simp [RVF]; done))) | (refine calmV_skip rfl ?_ ?_; (focus (intro _ _; simp [RVF]; done)); simp [Act.put])) | (refine calmV_call (f := 22) (args := _) hst rfl (by (intro w1; simp [execOp, resolve, invoke, go_sem]; with_reducible rfl)) (fun w1 hC hD => ?_) ?_; (focus (refine (toClocks_any v0 n0 v1 n1 l0 l1 _ ?_ ?_ (by omega) (by omega)).mono ?_; (focus (refine RowAt.below H0.out ?_; have hB9 := hC.2; (repeat (first | assumption | (with_reducible exact Below.refl _ _) | (with_reducible refine Below.drewN ?_ _) | (with_reducible refine Below.drew ?_) | (with_reducible refine Below.allocS ?_ _) | ((with_reducible refine Below.setCell ?_ ?_ _); rotate_left; focus (first | omega | (simp; done) | (simp; omega))) | (with_reducible refine Below.step ?_ (by assumption)))); done)); (focus (refine RowAt.below H1.out ?_; have hB9 := hC.2; (repeat (first | assumption | (with_reducible exact Below.refl _ _) | (with_reducible refine Below.drewN ?_ _) | (with_reducible refine Below.drew ?_) | (with_reducible refine Below.allocS ?_ _) | ((with_reducible refine Below.setCell ?_ ?_ _); rotate_left; focus (first | omega | (simp; done) | (simp; omega))) | (with_reducible refine Below.step ?_ (by assumption)))); done)); rintro e w2 ⟨g'0, g'1, rfl, o'0, o'1, o'ne0, hb2⟩; exact ⟨_, rfl, .inl ⟨rfl, _, _, rfl⟩, (by simp [RVF, Act.put, Act.eval]; exact ⟨_, _, ⟨rfl, rfl⟩, ownsRow_rowAt o'0, ownsRow_rowAt o'1⟩), hb2⟩)); (intro v hv; simp at hv; obtain ⟨s0, s1, rfl⟩ := hv)) | (refine calmV_call (f := 17) (args := _) hst rfl (by (intro w1; simp [execOp, resolve, invoke, go_sem]; with_reducible rfl)) (fun w1 hC hD => ?_) ?_; (focus (have hf := RVF_get (depV hD (ia := 2) (by kernel_rfl)) (List.mem_singleton.2 rfl); simp [Act.put, Act.eval] at hf; obtain ⟨t0, t1, ⟨rfl, rfl⟩, hf0, hf1⟩ := hf; refine (eqClocks_any _ _ n0 _ _ n1 l0 l0 l1 l1 _ ?_ ?_ rfl ?_ ?_ rfl).mono ?_; (focus (exact R0.out.below hC.2)); (focus (exact hf0)); (focus (exact R1.out.below hC.2)); (focus (exact hf1)); rintro e w2 ⟨rfl, hb2⟩; exact ⟨_, rfl, .inr ⟨rfl, rfl⟩, (by simp [RVF]), hb2⟩)); (intro v hv; simp at hv; subst hv)))
  refine calmV_nil ?_
  intro w6 hC hF
  have c6 := hC.2
  (try clear hk)
  have hk := hC.1
  simp only [Held, and_true] at hk
  have hBw6 : Below w.heap.size w w6 := by (repeat (first | assumption | (with_reducible exact Below.refl _ _) | (with_reducible refine Below.drewN ?_ _) | (with_reducible refine Below.drew ?_) | (with_reducible refine Below.allocS ?_ _) | ((with_reducible refine Below.setCell ?_ ?_ _); rotate_left; focus (first | omega | (simp; done) | (simp; omega))) | (with_reducible refine Below.step ?_ (by assumption))))
  clear hC hF hst R0 R1
  replace Ru00 := Lib.hid (Ru00.out.below c6)
  replace Ru01 := Lib.hid (Ru01.out.below c6)
  replace Rvv00 := Lib.hid (Rvv00.out.below c6)
  replace Rvv01 := Lib.hid (Rvv01.out.below c6)
  replace Ovv00 := Lib.hid (ownsRow_below Ovv00.out c6)
  replace Ovv01 := Lib.hid (ownsRow_below Ovv01.out c6)
  replace P0 := Lib.hid (ownsRow_below P0.out c6)
  replace P1 := Lib.hid (ownsRow_below P1.out c6)
  go_wp2_with fail
  refine (markClocks_any _ n0 _ _ _ n1 _ _ 1 _ P0.out (by omega) P1.out (by omega) ?_ (by omega)).mono ?_
  · intro i hi hj
    have e1 := own_some hi
    have e2 := own_some hj
    omega
  rintro e w7 ⟨rfl, _, _, K7⟩
  have r7 : ∀ i, some i ∈ [(Value.slice (some ⟨g0, 0, none⟩) n0 n0).ownBlock, (Value.slice (some ⟨g1, 0, none⟩) n1 n1).ownBlock] → w2.heap.size + 1 ≤ i ∧ i < w3.heap.size := range_two (fun i hi => by have e1 := own_some hi; omega) (fun i hi => by have e1 := own_some hi; omega)
  have hkN := Held_range K7 r7 (l := [(⟨w.heap.size, 0, none⟩, v0), (⟨w.heap.size, 1, none⟩, v1), (⟨w2.heap.size, 0, none⟩, .slice a_u00 k_u00 d_u00), (⟨w2.heap.size, 1, none⟩, .slice a_u01 k_u01 d_u01), (⟨w3.heap.size, 0, none⟩, .slice (some ⟨g0, 0, none⟩) n0 n0), (⟨w3.heap.size, 1, none⟩, .slice (some ⟨g1, 0, none⟩) n1 n1), (⟨w4.heap.size, 0, none⟩, .slice a_vv00 k_vv00 d_vv00), (⟨w4.heap.size, 1, none⟩, .slice a_vv01 k_vv01 d_vv01)]) (by simp only [List.mem_cons, List.not_mem_nil, or_false, forall_eq_or_imp, forall_eq]; omega) (by simp [Held, go_sem, *])
  (try clear hk)
  have hk := hkN
  clear hkN
  simp only [Held, and_true] at hk
  have C7 : Below w.heap.size w6 w7 := Below_range K7 r7 (by omega) hBw6.size
  have hBw7 : Below w.heap.size w w7 := hBw6.trans C7
  replace Ru00 := Lib.hid (RowAt_range K7 r7 (fun i hi => by have := Lu00.out i hi; omega) Ru00.out)
  replace Ru01 := Lib.hid (RowAt_range K7 r7 (fun i hi => by have := Lu01.out i hi; omega) Ru01.out)
  replace Rvv00 := Lib.hid (RowAt_range K7 r7 (fun i hi => by have := Lvv00.out i hi; omega) Rvv00.out)
  replace Ovv00 := Lib.hid (ownsRow_range K7 r7 (fun i hi => by have := Lvv00.out i hi; omega) Ovv00.out)
  replace Rvv01 := Lib.hid (RowAt_range K7 r7 (fun i hi => by have := Lvv01.out i hi; omega) Rvv01.out)
  replace Ovv01 := Lib.hid (ownsRow_range K7 r7 (fun i hi => by have := Lvv01.out i hi; omega) Ovv01.out)
  go_wp2_with fail
  refine (eqClocks_any _ _ (cN B (n0)) _ _ (cN B (n1)) (cL B (turned l0 (stepQ n0 l0 l1 y2) n0)) (cL B (turned l0 (stepQ n0 l0 l1 y2) n0)) (cL B (l1)) (cL B (l1)) _ ?_ ?_ rfl ?_ ?_ rfl).mono ?_
  · refine RowAt.below Rvv00.out ?_
    (repeat (first | assumption | (with_reducible exact Below.refl _ _) | (with_reducible refine Below.drewN ?_ _) | (with_reducible refine Below.drew ?_) | (with_reducible refine Below.allocS ?_ _) | ((with_reducible refine Below.setCell ?_ ?_ _); rotate_left; focus (first | omega | (simp; done) | (simp; omega))) | (with_reducible refine Below.step ?_ (by assumption))))
  · refine RowAt.below Ru00.out ?_
    (repeat (first | assumption | (with_reducible exact Below.refl _ _) | (with_reducible refine Below.drewN ?_ _) | (with_reducible refine Below.drew ?_) | (with_reducible refine Below.allocS ?_ _) | ((with_reducible refine Below.setCell ?_ ?_ _); rotate_left; focus (first | omega | (simp; done) | (simp; omega))) | (with_reducible refine Below.step ?_ (by assumption))))
  · refine RowAt.below Rvv01.out ?_
    (repeat (first | assumption | (with_reducible exact Below.refl _ _) | (with_reducible refine Below.drewN ?_ _) | (with_reducible refine Below.drew ?_) | (with_reducible refine Below.allocS ?_ _) | ((with_reducible refine Below.setCell ?_ ?_ _); rotate_left; focus (first | omega | (simp; done) | (simp; omega))) | (with_reducible refine Below.step ?_ (by assumption))))
  · refine RowAt.below Ru01.out ?_
    (repeat (first | assumption | (with_reducible exact Below.refl _ _) | (with_reducible refine Below.drewN ?_ _) | (with_reducible refine Below.drew ?_) | (with_reducible refine Below.allocS ?_ _) | ((with_reducible refine Below.setCell ?_ ?_ _); rotate_left; focus (first | omega | (simp; done) | (simp; omega))) | (with_reducible refine Below.step ?_ (by assumption))))
  rintro e w8 ⟨rfl, c8x0⟩
  have hkN := Held.below c8x0 (l := [(⟨w.heap.size, 0, none⟩, v0), (⟨w.heap.size, 1, none⟩, v1), (⟨w2.heap.size, 0, none⟩, .slice a_u00 k_u00 d_u00), (⟨w2.heap.size, 1, none⟩, .slice a_u01 k_u01 d_u01), (⟨w3.heap.size, 0, none⟩, .slice (some ⟨g0, 0, none⟩) n0 n0), (⟨w3.heap.size, 1, none⟩, .slice (some ⟨g1, 0, none⟩) n1 n1), (⟨w4.heap.size, 0, none⟩, .slice a_vv00 k_vv00 d_vv00), (⟨w4.heap.size, 1, none⟩, .slice a_vv01 k_vv01 d_vv01)]) (by simp [Held, go_sem, *])
  (try clear hk)
  have hk := hkN
  clear hkN
  simp only [Held, and_true] at hk
  have hBw8 : Below w.heap.size w w8 := by (repeat (first | assumption | (with_reducible exact Below.refl _ _) | (with_reducible refine Below.drewN ?_ _) | (with_reducible refine Below.drew ?_) | (with_reducible refine Below.allocS ?_ _) | ((with_reducible refine Below.setCell ?_ ?_ _); rotate_left; focus (first | omega | (simp; done) | (simp; omega))) | (with_reducible refine Below.step ?_ (by assumption))))
  have hzw8_0 : w.heap.size < w8.heap.size := by omega
  have hzw8_1 : w2.heap.size < w8.heap.size := by omega
  have hzw8_2 : w3.heap.size < w8.heap.size := by omega
  have hzw8_3 : w4.heap.size < w8.heap.size := by omega
  have B8 : Below w7.heap.size w7 w8 := by
    refine Below.step ?_ c8x0
    (repeat (first | (with_reducible exact Below.refl _ _) | (with_reducible refine Below.drewN ?_ _) | (with_reducible refine Below.drew ?_) | (with_reducible refine Below.allocS ?_ _) | ((with_reducible refine Below.setCell ?_ ?_ _); rotate_left; focus (first | omega | (simp; done) | (simp; omega)))))
  replace Ru00 := Lib.hid (Ru00.out.below B8)
  replace Ru01 := Lib.hid (Ru01.out.below B8)
  replace Rvv00 := Lib.hid (Rvv00.out.below B8)
  replace Rvv01 := Lib.hid (Rvv01.out.below B8)
  replace Ovv00 := Lib.hid (ownsRow_below Ovv00.out B8)
  replace Ovv01 := Lib.hid (ownsRow_below Ovv01.out B8)
  go_wp2_with fail
  go_wp2_with fail
  refine (markClocks_any _ _ _ _ _ _ _ _ (1) _ Ovv00.out (by omega) Ovv01.out (by omega) ne_vv00_vv01 (by omega)).mono ?_
  rintro e w9x0 ⟨rfl, ow0, ow1, K9⟩
  have r9 := range_two Lvv00.out Lvv01.out
  have hkN := Held_range K9 r9 (l := [(⟨w.heap.size, 0, none⟩, v0), (⟨w.heap.size, 1, none⟩, v1), (⟨w2.heap.size, 0, none⟩, .slice a_u00 k_u00 d_u00), (⟨w2.heap.size, 1, none⟩, .slice a_u01 k_u01 d_u01), (⟨w3.heap.size, 0, none⟩, .slice (some ⟨g0, 0, none⟩) n0 n0), (⟨w3.heap.size, 1, none⟩, .slice (some ⟨g1, 0, none⟩) n1 n1), (⟨w4.heap.size, 0, none⟩, .slice a_vv00 k_vv00 d_vv00), (⟨w4.heap.size, 1, none⟩, .slice a_vv01 k_vv01 d_vv01)]) (by simp only [List.mem_cons, List.not_mem_nil, or_false, forall_eq_or_imp, forall_eq]; omega) (by simp [Held, go_sem, *])
  (try clear hk)
  have hk := hkN
  clear hkN
  simp only [Held, and_true] at hk
  have C9 : Below w.heap.size w8 w9x0 := Below_range K9 r9 (by omega) (by have := hBw8.size; omega)
  have hBw9x0 : Below w.heap.size w w9x0 := hBw8.trans C9
  replace Ru00 := Lib.hid (RowAt_range K9 r9 (fun i hi => by have := Lu00.out i hi; omega) Ru00.out)
  replace Ru01 := Lib.hid (RowAt_range K9 r9 (fun i hi => by have := Lu01.out i hi; omega) Ru01.out)
  have Mvv00 := Lib.hid (ownsRow_rowAt ow0)
  clear Rvv00 ow0
  have Mvv01 := Lib.hid (ownsRow_rowAt ow1)
  clear Rvv01 ow1
  clear K9 r9 C9
  go_wp2_with fail
  refine (heldClocks_any _ _ (cN B (n0)) (cN B (n1)) (1) _ ?_ ?_ (by omega) (by omega) (by omega)).mono ?_
  · refine RowAt.below Mvv00.out ?_
    (repeat (first | assumption | (with_reducible exact Below.refl _ _) | (with_reducible refine Below.drewN ?_ _) | (with_reducible refine Below.drew ?_) | (with_reducible refine Below.allocS ?_ _) | ((with_reducible refine Below.setCell ?_ ?_ _); rotate_left; focus (first | omega | (simp; done) | (simp; omega))) | (with_reducible refine Below.step ?_ (by assumption))))
  · refine RowAt.below Mvv01.out ?_
    (repeat (first | assumption | (with_reducible exact Below.refl _ _) | (with_reducible refine Below.drewN ?_ _) | (with_reducible refine Below.drew ?_) | (with_reducible refine Below.allocS ?_ _) | ((with_reducible refine Below.setCell ?_ ?_ _); rotate_left; focus (first | omega | (simp; done) | (simp; omega))) | (with_reducible refine Below.step ?_ (by assumption))))
  rintro e w10x0 ⟨rfl, cw10x0⟩
  have hkN := Held.below cw10x0 (l := [(⟨w.heap.size, 0, none⟩, v0), (⟨w.heap.size, 1, none⟩, v1), (⟨w2.heap.size, 0, none⟩, .slice a_u00 k_u00 d_u00), (⟨w2.heap.size, 1, none⟩, .slice a_u01 k_u01 d_u01), (⟨w3.heap.size, 0, none⟩, .slice (some ⟨g0, 0, none⟩) n0 n0), (⟨w3.heap.size, 1, none⟩, .slice (some ⟨g1, 0, none⟩) n1 n1), (⟨w4.heap.size, 0, none⟩, .slice a_vv00 k_vv00 d_vv00), (⟨w4.heap.size, 1, none⟩, .slice a_vv01 k_vv01 d_vv01)]) (by simp [Held, go_sem, *])
  (try clear hk)
  have hk := hkN
  clear hkN
  simp only [Held, and_true] at hk
  have hBw10x0 : Below w.heap.size w w10x0 := by (repeat (first | assumption | (with_reducible exact Below.refl _ _) | (with_reducible refine Below.drewN ?_ _) | (with_reducible refine Below.drew ?_) | (with_reducible refine Below.allocS ?_ _) | ((with_reducible refine Below.setCell ?_ ?_ _); rotate_left; focus (first | omega | (simp; done) | (simp; omega))) | (with_reducible refine Below.step ?_ (by assumption))))
  have hzw10x0_0 : w.heap.size < w10x0.heap.size := by omega
  have hzw10x0_1 : w2.heap.size < w10x0.heap.size := by omega
  have hzw10x0_2 : w3.heap.size < w10x0.heap.size := by omega
  have hzw10x0_3 : w4.heap.size < w10x0.heap.size := by omega
  have B9 : Below w9x0.heap.size w9x0 w10x0 := by
    refine Below.step ?_ cw10x0
    (repeat (first | (with_reducible exact Below.refl _ _) | (with_reducible refine Below.drewN ?_ _) | (with_reducible refine Below.drew ?_) | (with_reducible refine Below.allocS ?_ _) | ((with_reducible refine Below.setCell ?_ ?_ _); rotate_left; focus (first | omega | (simp; done) | (simp; omega)))))
  replace Ru00 := Lib.hid (Ru00.out.below B9)
  replace Ru01 := Lib.hid (Ru01.out.below B9)
  replace Mvv00 := Lib.hid (Mvv00.out.below B9)
  replace Mvv01 := Lib.hid (Mvv01.out.below B9)
  clear B9
  go_wp2_with fail
  refine (toClocks_any v0 n0 v1 n1 l0 l1 _ ?_ ?_ (by omega) (by omega)).mono ?_
  · refine RowAt.below H0.out ?_
    (repeat (first | assumption | (with_reducible exact Below.refl _ _) | (with_reducible refine Below.drewN ?_ _) | (with_reducible refine Below.drew ?_) | (with_reducible refine Below.allocS ?_ _) | ((with_reducible refine Below.setCell ?_ ?_ _); rotate_left; focus (first | omega | (simp; done) | (simp; omega))) | (with_reducible refine Below.step ?_ (by assumption))))
  · refine RowAt.below H1.out ?_
    (repeat (first | assumption | (with_reducible exact Below.refl _ _) | (with_reducible refine Below.drewN ?_ _) | (with_reducible refine Below.drew ?_) | (with_reducible refine Below.allocS ?_ _) | ((with_reducible refine Below.setCell ?_ ?_ _); rotate_left; focus (first | omega | (simp; done) | (simp; omega))) | (with_reducible refine Below.step ?_ (by assumption))))
  rintro e w11 ⟨gz0, gz1, rfl, oz0, oz1, ozne0, c11⟩
  have hkN := Held.below c11 (l := [(⟨w.heap.size, 0, none⟩, v0), (⟨w.heap.size, 1, none⟩, v1), (⟨w2.heap.size, 0, none⟩, .slice a_u00 k_u00 d_u00), (⟨w2.heap.size, 1, none⟩, .slice a_u01 k_u01 d_u01), (⟨w3.heap.size, 0, none⟩, .slice (some ⟨g0, 0, none⟩) n0 n0), (⟨w3.heap.size, 1, none⟩, .slice (some ⟨g1, 0, none⟩) n1 n1), (⟨w4.heap.size, 0, none⟩, .slice a_vv00 k_vv00 d_vv00), (⟨w4.heap.size, 1, none⟩, .slice a_vv01 k_vv01 d_vv01)]) (by simp [Held, go_sem, *])
  (try clear hk)
  have hk := hkN
  clear hkN
  simp only [Held, and_true] at hk
  have hBw11 : Below w.heap.size w w11 := by (repeat (first | assumption | (with_reducible exact Below.refl _ _) | (with_reducible refine Below.drewN ?_ _) | (with_reducible refine Below.drew ?_) | (with_reducible refine Below.allocS ?_ _) | ((with_reducible refine Below.setCell ?_ ?_ _); rotate_left; focus (first | omega | (simp; done) | (simp; omega))) | (with_reducible refine Below.step ?_ (by assumption))))
  have hzw11_0 : w.heap.size < w11.heap.size := by omega
  have hzw11_1 : w2.heap.size < w11.heap.size := by omega
  have hzw11_2 : w3.heap.size < w11.heap.size := by omega
  have hzw11_3 : w4.heap.size < w11.heap.size := by omega
  have B11 : Below w10x0.heap.size w10x0 w11 := by
    refine Below.step ?_ c11
    (repeat (first | (with_reducible exact Below.refl _ _) | (with_reducible refine Below.drewN ?_ _) | (with_reducible refine Below.drew ?_) | (with_reducible refine Below.allocS ?_ _) | ((with_reducible refine Below.setCell ?_ ?_ _); rotate_left; focus (first | omega | (simp; done) | (simp; omega)))))
  replace Ru00 := Lib.hid (Ru00.out.below B11)
  replace Ru01 := Lib.hid (Ru01.out.below B11)
  replace Mvv00 := Lib.hid (Mvv00.out.below B11)
  replace Mvv01 := Lib.hid (Mvv01.out.below B11)
  go_wp2_with fail
  refine (implStepClocks_lit HBB.out _ _ _ (ownsRow_rowAt oz0) (ownsRow_rowAt oz1)).mono ?_
  rintro e w12 ⟨h00, h01, rfl, ow_h00, ow_h01, ne_h00_h01, c12⟩
  obtain ⟨a_h00, k_h00, d_h00, rfl⟩ := ownsRow_shape ow_h00
  obtain ⟨a_h01, k_h01, d_h01, rfl⟩ := ownsRow_shape ow_h01
  have hkN := Held.below c12 (l := [(⟨w.heap.size, 0, none⟩, v0), (⟨w.heap.size, 1, none⟩, v1), (⟨w2.heap.size, 0, none⟩, .slice a_u00 k_u00 d_u00), (⟨w2.heap.size, 1, none⟩, .slice a_u01 k_u01 d_u01), (⟨w3.heap.size, 0, none⟩, .slice (some ⟨g0, 0, none⟩) n0 n0), (⟨w3.heap.size, 1, none⟩, .slice (some ⟨g1, 0, none⟩) n1 n1), (⟨w4.heap.size, 0, none⟩, .slice a_vv00 k_vv00 d_vv00), (⟨w4.heap.size, 1, none⟩, .slice a_vv01 k_vv01 d_vv01)]) (by simp [Held, go_sem, *])
  (try clear hk)
  have hk := hkN
  clear hkN
  simp only [Held, and_true] at hk
  have hBw12 : Below w.heap.size w w12 := by (repeat (first | assumption | (with_reducible exact Below.refl _ _) | (with_reducible refine Below.drewN ?_ _) | (with_reducible refine Below.drew ?_) | (with_reducible refine Below.allocS ?_ _) | ((with_reducible refine Below.setCell ?_ ?_ _); rotate_left; focus (first | omega | (simp; done) | (simp; omega))) | (with_reducible refine Below.step ?_ (by assumption))))
  have hzw12_0 : w.heap.size < w12.heap.size := by omega
  have hzw12_1 : w2.heap.size < w12.heap.size := by omega
  have hzw12_2 : w3.heap.size < w12.heap.size := by omega
  have hzw12_3 : w4.heap.size < w12.heap.size := by omega
  have Lh00 := Lib.hid (ownsRow_lt ow_h00)
  (try simp only [World.size_alloc, World.size_setCell, World.heap_drewN] at Lh00)
  have Oh00 := Lib.hid ow_h00
  have Rh00 := Lib.hid (ownsRow_rowAt ow_h00)
  clear ow_h00
  have Lh01 := Lib.hid (ownsRow_lt ow_h01)
  (try simp only [World.size_alloc, World.size_setCell, World.heap_drewN] at Lh01)
  have Oh01 := Lib.hid ow_h01
  have Rh01 := Lib.hid (ownsRow_rowAt ow_h01)
  clear ow_h01
  have : ¬ w.heap.size = w12.heap.size := by omega
  have : ¬ w2.heap.size = w12.heap.size := by omega
  have : ¬ w3.heap.size = w12.heap.size := by omega
  have : ¬ w4.heap.size = w12.heap.size := by omega
  have B12 : Below w11.heap.size w11 w12 := by
    refine Below.step ?_ c12
    (repeat (first | (with_reducible exact Below.refl _ _) | (with_reducible refine Below.drewN ?_ _) | (with_reducible refine Below.drew ?_) | (with_reducible refine Below.allocS ?_ _) | ((with_reducible refine Below.setCell ?_ ?_ _); rotate_left; focus (first | omega | (simp; done) | (simp; omega)))))
  replace Ru00 := Lib.hid (Ru00.out.below B12)
  replace Ru01 := Lib.hid (Ru01.out.below B12)
  replace Mvv00 := Lib.hid (Mvv00.out.below B12)
  replace Mvv01 := Lib.hid (Mvv01.out.below B12)
  go_wp2_with fail
  refine (eqClocks_any _ _ (cN B (n0)) _ _ (cN B (n1)) (cL B (turned l0 (stepQ n0 l0 l1 y2) n0)) (cL B (turned l0 (stepQ n0 l0 l1 y2) n0)) (cL B (l1)) (cL B (l1)) _ ?_ ?_ rfl ?_ ?_ rfl).mono ?_
  · refine RowAt.below Rh00.out ?_
    (repeat (first | assumption | (with_reducible exact Below.refl _ _) | (with_reducible refine Below.drewN ?_ _) | (with_reducible refine Below.drew ?_) | (with_reducible refine Below.allocS ?_ _) | ((with_reducible refine Below.setCell ?_ ?_ _); rotate_left; focus (first | omega | (simp; done) | (simp; omega))) | (with_reducible refine Below.step ?_ (by assumption))))
  · refine RowAt.below Ru00.out ?_
    (repeat (first | assumption | (with_reducible exact Below.refl _ _) | (with_reducible refine Below.drewN ?_ _) | (with_reducible refine Below.drew ?_) | (with_reducible refine Below.allocS ?_ _) | ((with_reducible refine Below.setCell ?_ ?_ _); rotate_left; focus (first | omega | (simp; done) | (simp; omega))) | (with_reducible refine Below.step ?_ (by assumption))))
  · refine RowAt.below Rh01.out ?_
    (repeat (first | assumption | (with_reducible exact Below.refl _ _) | (with_reducible refine Below.drewN ?_ _) | (with_reducible refine Below.drew ?_) | (with_reducible refine Below.allocS ?_ _) | ((with_reducible refine Below.setCell ?_ ?_ _); rotate_left; focus (first | omega | (simp; done) | (simp; omega))) | (with_reducible refine Below.step ?_ (by assumption))))
  · refine RowAt.below Ru01.out ?_
    (repeat (first | assumption | (with_reducible exact Below.refl _ _) | (with_reducible refine Below.drewN ?_ _) | (with_reducible refine Below.drew ?_) | (with_reducible refine Below.allocS ?_ _) | ((with_reducible refine Below.setCell ?_ ?_ _); rotate_left; focus (first | omega | (simp; done) | (simp; omega))) | (with_reducible refine Below.step ?_ (by assumption))))
  rintro e w13 ⟨rfl, c13x0⟩
  have hkN := Held.below c13x0 (l := [(⟨w.heap.size, 0, none⟩, v0), (⟨w.heap.size, 1, none⟩, v1), (⟨w2.heap.size, 0, none⟩, .slice a_u00 k_u00 d_u00), (⟨w2.heap.size, 1, none⟩, .slice a_u01 k_u01 d_u01), (⟨w3.heap.size, 0, none⟩, .slice (some ⟨g0, 0, none⟩) n0 n0), (⟨w3.heap.size, 1, none⟩, .slice (some ⟨g1, 0, none⟩) n1 n1), (⟨w4.heap.size, 0, none⟩, .slice a_vv00 k_vv00 d_vv00), (⟨w4.heap.size, 1, none⟩, .slice a_vv01 k_vv01 d_vv01), (⟨w12.heap.size, 0, none⟩, .slice a_h00 k_h00 d_h00), (⟨w12.heap.size, 1, none⟩, .slice a_h01 k_h01 d_h01)]) (by simp [Held, go_sem, *])
  (try clear hk)
  have hk := hkN
  clear hkN
  simp only [Held, and_true] at hk
  have hBw13 : Below w.heap.size w w13 := by (repeat (first | assumption | (with_reducible exact Below.refl _ _) | (with_reducible refine Below.drewN ?_ _) | (with_reducible refine Below.drew ?_) | (with_reducible refine Below.allocS ?_ _) | ((with_reducible refine Below.setCell ?_ ?_ _); rotate_left; focus (first | omega | (simp; done) | (simp; omega))) | (with_reducible refine Below.step ?_ (by assumption))))
  have hzw13_0 : w.heap.size < w13.heap.size := by omega
  have hzw13_1 : w2.heap.size < w13.heap.size := by omega
  have hzw13_2 : w3.heap.size < w13.heap.size := by omega
  have hzw13_3 : w4.heap.size < w13.heap.size := by omega
  have hzw13_4 : w12.heap.size < w13.heap.size := by omega
  have B13 : Below w12.heap.size w12 w13 := by
    refine Below.step ?_ c13x0
    (repeat (first | (with_reducible exact Below.refl _ _) | (with_reducible refine Below.drewN ?_ _) | (with_reducible refine Below.drew ?_) | (with_reducible refine Below.allocS ?_ _) | ((with_reducible refine Below.setCell ?_ ?_ _); rotate_left; focus (first | omega | (simp; done) | (simp; omega)))))
  replace Ru00 := Lib.hid (Ru00.out.below B13)
  replace Ru01 := Lib.hid (Ru01.out.below B13)
  replace Mvv00 := Lib.hid (Mvv00.out.below B13)
  replace Mvv01 := Lib.hid (Mvv01.out.below B13)
  go_wp2_with fail
  go_wp2_with fail
  refine (heldClocks_any _ _ (cN B (n0)) (cN B (n1)) (1) _ ?_ ?_ (by omega) (by omega) (by omega)).mono ?_
  · refine RowAt.below Mvv00.out ?_
    (repeat (first | assumption | (with_reducible exact Below.refl _ _) | (with_reducible refine Below.drewN ?_ _) | (with_reducible refine Below.drew ?_) | (with_reducible refine Below.allocS ?_ _) | ((with_reducible refine Below.setCell ?_ ?_ _); rotate_left; focus (first | omega | (simp; done) | (simp; omega))) | (with_reducible refine Below.step ?_ (by assumption))))
  · refine RowAt.below Mvv01.out ?_
    (repeat (first | assumption | (with_reducible exact Below.refl _ _) | (with_reducible refine Below.drewN ?_ _) | (with_reducible refine Below.drew ?_) | (with_reducible refine Below.allocS ?_ _) | ((with_reducible refine Below.setCell ?_ ?_ _); rotate_left; focus (first | omega | (simp; done) | (simp; omega))) | (with_reducible refine Below.step ?_ (by assumption))))
  rintro e w14x0 ⟨rfl, cw14x0⟩
  have hkN := Held.below cw14x0 (l := [(⟨w.heap.size, 0, none⟩, v0), (⟨w.heap.size, 1, none⟩, v1), (⟨w2.heap.size, 0, none⟩, .slice a_u00 k_u00 d_u00), (⟨w2.heap.size, 1, none⟩, .slice a_u01 k_u01 d_u01), (⟨w3.heap.size, 0, none⟩, .slice (some ⟨g0, 0, none⟩) n0 n0), (⟨w3.heap.size, 1, none⟩, .slice (some ⟨g1, 0, none⟩) n1 n1), (⟨w4.heap.size, 0, none⟩, .slice a_vv00 k_vv00 d_vv00), (⟨w4.heap.size, 1, none⟩, .slice a_vv01 k_vv01 d_vv01), (⟨w12.heap.size, 0, none⟩, .slice a_h00 k_h00 d_h00), (⟨w12.heap.size, 1, none⟩, .slice a_h01 k_h01 d_h01)]) (by simp [Held, go_sem, *])
  (try clear hk)
  have hk := hkN
  clear hkN
  simp only [Held, and_true] at hk
  have hBw14x0 : Below w.heap.size w w14x0 := by (repeat (first | assumption | (with_reducible exact Below.refl _ _) | (with_reducible refine Below.drewN ?_ _) | (with_reducible refine Below.drew ?_) | (with_reducible refine Below.allocS ?_ _) | ((with_reducible refine Below.setCell ?_ ?_ _); rotate_left; focus (first | omega | (simp; done) | (simp; omega))) | (with_reducible refine Below.step ?_ (by assumption))))
  have hzw14x0_0 : w.heap.size < w14x0.heap.size := by omega
  have hzw14x0_1 : w2.heap.size < w14x0.heap.size := by omega
  have hzw14x0_2 : w3.heap.size < w14x0.heap.size := by omega
  have hzw14x0_3 : w4.heap.size < w14x0.heap.size := by omega
  have hzw14x0_4 : w12.heap.size < w14x0.heap.size := by omega
  have B9 : Below w13.heap.size w13 w14x0 := by
    refine Below.step ?_ cw14x0
    (repeat (first | (with_reducible exact Below.refl _ _) | (with_reducible refine Below.drewN ?_ _) | (with_reducible refine Below.drew ?_) | (with_reducible refine Below.allocS ?_ _) | ((with_reducible refine Below.setCell ?_ ?_ _); rotate_left; focus (first | omega | (simp; done) | (simp; omega)))))
  replace Ru00 := Lib.hid (Ru00.out.below B9)
  replace Ru01 := Lib.hid (Ru01.out.below B9)
  replace Mvv00 := Lib.hid (Mvv00.out.below B9)
  replace Mvv01 := Lib.hid (Mvv01.out.below B9)
  clear B9
  go_wp2_with fail
  go_ret
  refine ⟨rfl, ?_⟩
  (repeat (first | assumption | (with_reducible exact Below.refl _ _) | (with_reducible refine Below.drewN ?_ _) | (with_reducible refine Below.drew ?_) | (with_reducible refine Below.allocS ?_ _) | ((with_reducible refine Below.setCell ?_ ?_ _); rotate_left; focus (first | omega | (simp; done) | (simp; omega))) | (with_reducible refine Below.step ?_ (by assumption))))

end Go.Proofs.Ytifdcoambehekaa
