/-
  The walks of clocks that step; the laws RatesOf and StepClocks.
-/
import Derived.Test.YtbmabpnolheghaaTi
set_option linter.unusedVariables false
set_option linter.unusedSimpArgs false
namespace Go.Proofs.Ytbmabpnolheghaa
open Go.RowKit

theorem levelOkC_any (y : Nat) (w : World) : Calls Try.prog 105 #[.float .f32 y] w (RB (levelB y) w) := by
  cases h1 : finB .f32 y <;> cases h2 : geF .f32 y 0
  all_goals
    go_enter Try.func105, Try.ntmps105
    go_wp2_with (first | (go_at_call 79; refine (IsFinite_any _ _).mono ?_; rintro e w' ⟨n9, rfl, rfl⟩))
    go_ret
    exact ⟨_, ret_bool (by unfold levelB; simp [*]), rfl⟩

theorem l05Least_any (y : Nat) (w : World) : Calls Try.prog 100 #[.float .f32 y] w (RB (levelB y) w) := by
  cases h1 : finB .f32 y <;> cases h2 : geF .f32 y 0
  all_goals
    go_enter Try.func100, Try.ntmps100
    go_wp2_with (first | (go_at_call 129; refine (l01Finite_any _ _).mono ?_; rintro e w' ⟨n9, rfl, rfl⟩))
    go_ret
    exact ⟨_, ret_bool (by unfold levelB; simp [*]), rfl⟩

theorem implRatesOf_lit {n m : Nat} {l lk : List Nat} {B : Bool} (hB : (clocksB n l m lk && upto (fun j => finB .f32 (rateC n l lk j)) n) = B) (v v' : Value) (w : World) (h : RowAt w v 2 n (fl l)) (h' : RowAt w v' 1 m (fl lk)) : Calls Try.prog 151 #[.agg #[v, v']] w (GiveL (cN B n) (cL B (ratesL n l lk)) B w) := hB ▸ implRatesOf_any v v' n m l lk w h h'


set_option maxRecDepth 100000 in
set_option maxHeartbeats 8000000 in
theorem StepClocks1_any (v v' u : Value) (n : Nat) (l lk : List Nat) (p q s y i : Nat) (w : World) (h : RowAt w v 2 n (fl l)) (hu : RowAt w u 1 n (fl (ratesL n l lk))) (hp : Held [(⟨p, 0, none⟩, v), (⟨p, 1, none⟩, v')] w) (hq : Held [(⟨q, 0, none⟩, .float .f32 y)] w) (hs : Held [(⟨s, 0, none⟩, u)] w) (hi : i < n) (hn : n ≤ 12) :
    Calls Try.prog 153 #[.int .i64 (i : Int), .pointer (some ⟨p, 0, none⟩), .pointer (some ⟨q, 0, none⟩), .pointer (some ⟨s, 0, none⟩)] w (BF .f32 (stepQ n l lk y i) w) := by
  obtain ⟨h1, h2, ao, cap, rfl, h3⟩ := h
  obtain ⟨b, o, rfl, hbl, hcell⟩ := h3.resolve_left (by omega)
  obtain ⟨g1, g2, ao', cap', rfl, g3⟩ := hu
  obtain ⟨b', o', rfl, hbl', hcell'⟩ := g3.resolve_left (by omega)
  rw [fl_length] at h1 g1
  obtain ⟨x0, hx0⟩ : ∃ x, Hid (l.getD (i * 2) 0 = x) := ⟨_, rfl⟩
  have f0 := hcell (i * 2) (.float .f32 x0) (by rw [← hx0.out]; exact fl_get (by omega))
  have f1 := hcell' i (.float .f32 (rateC n l lk i)) (by rw [← ratesL_get n l lk i hi]; exact fl_get (by rw [ratesL_length]; exact hi))
  simp only [Held, and_true] at hp hq hs
  clear hcell h3 hcell' g3
  go_enter Try.func153, Try.ntmps153
  go_wp2_with fail
  refine region_calmA w w.heap.size [(⟨p, 0, none⟩, .slice (some ⟨b, o, none⟩) n cap), (⟨p, 1, none⟩, v'), (⟨q, 0, none⟩, .float .f32 y), (⟨s, 0, none⟩, .slice (some ⟨b', o', none⟩) n cap'), (⟨b, o + i * 2, none⟩, .float .f32 x0), (⟨b', o' + i, none⟩, .float .f32 (rateC n l lk i))] (fun _ _ _ => False) [] (by kernel_rfl) (by kernel_rfl) (by kernel_rfl) ⟨⟨by simp [Held, go_sem, *], by (repeat (first | (with_reducible exact Below.refl _ _) | (with_reducible refine Below.drewN ?_ _) | (with_reducible refine Below.drew ?_) | (with_reducible refine Below.allocS ?_ _) | ((with_reducible refine Below.setCell ?_ ?_ _); rotate_left; focus (first | omega | (simp; done) | (simp; omega))) | (with_reducible refine Below.step ?_ (by assumption))))⟩, by (first | (simp; done) | (simp; omega) | omega)⟩ ?_
  repeat (first | (refine calmA_plain rfl rfl ?_ (fun K hK w1 hC => ?_); (focus (intro _ _; simp [RA]; done)); have hC' := hC.1.1; simp only [Held, and_true] at hC'; go_wp2_with (first | (refine wpList_fbin rfl rfl rfl rfl rfl (fun r n9 hr => ?_)) | (refine wpList_widen rfl rfl Try.underlying85 Try.underlying23 rfl (fun r n9 hr => ?_))); refine ⟨rfl, (by first | exact Below.refl _ _ | exact below_drewN _), hK _ ?_⟩; clear hC hC' hK K w1) | (refine calmA_check rfl rfl rfl ?_ ?_; (focus (intro _ _; simp [RA]; done))))
  refine calmA_nil ?_
  intro w' hC hF
  have hC' := hC.1.1
  have hB1 : Below w.heap.size w w' := hC.1.2
  simp only [Held, and_true] at hC'
  clear hC hF
  go_wp2_with fail
  go_ret
  refine ⟨_, rfl, ?_, by (repeat (first | assumption | (with_reducible exact Below.refl _ _) | (with_reducible refine Below.drewN ?_ _) | (with_reducible refine Below.drew ?_) | (with_reducible refine Below.allocS ?_ _) | ((with_reducible refine Below.setCell ?_ ?_ _); rotate_left; focus (first | omega | (simp; done) | (simp; omega))) | (with_reducible refine Below.step ?_ (by assumption))))⟩
  show _ = stepQ n l lk y i; unfold stepQ; rw [hx0.out]; simp only [Hid] at *; simp only [*, cn_rateC]

set_option maxRecDepth 100000 in
set_option maxHeartbeats 8000000 in
theorem implStepClocks_any (v v' : Value) (n m : Nat) (l lk : List Nat) (y : Nat) (w : World) (h : RowAt w v 2 n (fl l)) (h' : RowAt w v' 1 m (fl lk)) : Calls Try.prog 107 #[.agg #[v, v'], .float .f32 y] w (GiveC (cN ((clocksB n l m lk && levelB y) && upto (fun j => finB .f32 (stepQ n l lk y j)) n) n) (cL ((clocksB n l m lk && levelB y) && upto (fun j => finB .f32 (stepQ n l lk y j)) n) (turned l (stepQ n l lk y) n)) (cN ((clocksB n l m lk && levelB y) && upto (fun j => finB .f32 (stepQ n l lk y j)) n) m) (cL ((clocksB n l m lk && levelB y) && upto (fun j => finB .f32 (stepQ n l lk y j)) n) lk) ((clocksB n l m lk && levelB y) && upto (fun j => finB .f32 (stepQ n l lk y j)) n) w) := by
  have H := Lib.hid h
  have H' := Lib.hid h'
  clear h h'
  cases hr : (clocksB n l m lk && upto (fun j => finB .f32 (rateC n l lk j)) n)
  · have hR : ((clocksB n l m lk && levelB y) && upto (fun j => finB .f32 (stepQ n l lk y j)) n) = false := by
      cases hc : clocksB n l m lk
      · rfl
      · rw [hc, Bool.true_and] at hr
        cases hu : upto (fun j => finB .f32 (stepQ n l lk y j)) n
        · rw [Bool.and_false]
        · rw [step_rates hu] at hr
          cases hr
    have HRR := Lib.hid hR
    clear hR
    go_enter Try.func107, Try.ntmps107
    go_wp2_with (first | (go_at_call 151; refine (implRatesOf_lit hr v v' _ ?_ ?_).mono ?_; (focus (refine RowAt.below H.out ?_; (repeat (first | assumption | (with_reducible exact Below.refl _ _) | (with_reducible refine Below.drewN ?_ _) | (with_reducible refine Below.drew ?_) | (with_reducible refine Below.allocS ?_ _) | ((with_reducible refine Below.setCell ?_ ?_ _); rotate_left; focus (first | omega | (simp; done) | (simp; omega))) | (with_reducible refine Below.step ?_ (by assumption)))); done)); (focus (refine RowAt.below H'.out ?_; (repeat (first | assumption | (with_reducible exact Below.refl _ _) | (with_reducible refine Below.drewN ?_ _) | (with_reducible refine Below.drew ?_) | (with_reducible refine Below.allocS ?_ _) | ((with_reducible refine Below.setCell ?_ ?_ _); rotate_left; focus (first | omega | (simp; done) | (simp; omega))) | (with_reducible refine Below.step ?_ (by assumption)))); done)); rintro e w1 ⟨u, rfl, ou, hb⟩; obtain ⟨a9, k9, d9, rfl⟩ := ownsRow_shape ou; have OU := Lib.hid ou; clear ou; have hk := Held.below hb (l := [(⟨w.heap.size, 0, none⟩, v), (⟨w.heap.size, 1, none⟩, v'), (⟨w.heap.size + 1, 0, none⟩, .float .f32 y), (⟨w.heap.size + 1 + 1, 0, none⟩, .slice none 0 0), (⟨w.heap.size + 1 + 1, 1, none⟩, .slice none 0 0)]) (by simp [Held, go_sem]); simp only [Held, and_true] at hk))
    refine bodyPost_ret (v := ?_) (by first | (simp [results, Try.results107, go_sem, *]; rfl) | (simp [results, Try.results107, go_sem, *]; done)) rfl ?_
    rw [HRR.out]
    refine ⟨_, _, rfl, ownsRow_nil', ownsRow_nil', (fun i hi => by cases hi), ?_⟩
    (repeat (first | assumption | (with_reducible exact Below.refl _ _) | (with_reducible refine Below.drewN ?_ _) | (with_reducible refine Below.drew ?_) | (with_reducible refine Below.allocS ?_ _) | ((with_reducible refine Below.setCell ?_ ?_ _); rotate_left; focus (first | omega | (simp; done) | (simp; omega))) | (with_reducible refine Below.step ?_ (by assumption))))
  cases hl : levelB y
  · go_enter Try.func107, Try.ntmps107
    go_wp2_with (first | (go_at_call 151; refine (implRatesOf_lit hr v v' _ ?_ ?_).mono ?_; (focus (refine RowAt.below H.out ?_; (repeat (first | assumption | (with_reducible exact Below.refl _ _) | (with_reducible refine Below.drewN ?_ _) | (with_reducible refine Below.drew ?_) | (with_reducible refine Below.allocS ?_ _) | ((with_reducible refine Below.setCell ?_ ?_ _); rotate_left; focus (first | omega | (simp; done) | (simp; omega))) | (with_reducible refine Below.step ?_ (by assumption)))); done)); (focus (refine RowAt.below H'.out ?_; (repeat (first | assumption | (with_reducible exact Below.refl _ _) | (with_reducible refine Below.drewN ?_ _) | (with_reducible refine Below.drew ?_) | (with_reducible refine Below.allocS ?_ _) | ((with_reducible refine Below.setCell ?_ ?_ _); rotate_left; focus (first | omega | (simp; done) | (simp; omega))) | (with_reducible refine Below.step ?_ (by assumption)))); done)); rintro e w1 ⟨u, rfl, ou, hb⟩; obtain ⟨a9, k9, d9, rfl⟩ := ownsRow_shape ou; have OU := Lib.hid ou; clear ou; have hk := Held.below hb (l := [(⟨w.heap.size, 0, none⟩, v), (⟨w.heap.size, 1, none⟩, v'), (⟨w.heap.size + 1, 0, none⟩, .float .f32 y), (⟨w.heap.size + 1 + 1, 0, none⟩, .slice none 0 0), (⟨w.heap.size + 1 + 1, 1, none⟩, .slice none 0 0)]) (by simp [Held, go_sem]); simp only [Held, and_true] at hk) | (go_at_call 105; refine (levelOkC_any _ _).mono ?_; rintro e w' ⟨n9, rfl, rfl⟩; rw [hl]))
    refine bodyPost_ret (v := ?_) (by first | (simp [results, Try.results107, go_sem, *]; rfl) | (simp [results, Try.results107, go_sem, *]; done)) rfl ?_
    rw [Bool.and_false, Bool.false_and]
    refine ⟨_, _, rfl, ownsRow_nil', ownsRow_nil', (fun i hi => by cases hi), ?_⟩
    (repeat (first | assumption | (with_reducible exact Below.refl _ _) | (with_reducible refine Below.drewN ?_ _) | (with_reducible refine Below.drew ?_) | (with_reducible refine Below.allocS ?_ _) | ((with_reducible refine Below.setCell ?_ ?_ _); rotate_left; focus (first | omega | (simp; done) | (simp; omega))) | (with_reducible refine Below.step ?_ (by assumption))))
  have hc : clocksB n l m lk = true := by
    simp only [Bool.and_eq_true] at hr
    exact hr.1
  have c1 := (clocks_parts hc).1
  have c2 := (clocks_parts hc).2.1
  have HR9 := Lib.hid hr
  clear hc hr
  go_enter Try.func107, Try.ntmps107
  go_wp2_with (first | (go_at_call 151; refine (implRatesOf_lit HR9.out v v' _ ?_ ?_).mono ?_; (focus (refine RowAt.below H.out ?_; (repeat (first | assumption | (with_reducible exact Below.refl _ _) | (with_reducible refine Below.drewN ?_ _) | (with_reducible refine Below.drew ?_) | (with_reducible refine Below.allocS ?_ _) | ((with_reducible refine Below.setCell ?_ ?_ _); rotate_left; focus (first | omega | (simp; done) | (simp; omega))) | (with_reducible refine Below.step ?_ (by assumption)))); done)); (focus (refine RowAt.below H'.out ?_; (repeat (first | assumption | (with_reducible exact Below.refl _ _) | (with_reducible refine Below.drewN ?_ _) | (with_reducible refine Below.drew ?_) | (with_reducible refine Below.allocS ?_ _) | ((with_reducible refine Below.setCell ?_ ?_ _); rotate_left; focus (first | omega | (simp; done) | (simp; omega))) | (with_reducible refine Below.step ?_ (by assumption)))); done)); rintro e w1 ⟨u, rfl, ou, hb⟩; obtain ⟨a9, k9, d9, rfl⟩ := ownsRow_shape ou; have OU := Lib.hid ou; clear ou; have hk := Held.below hb (l := [(⟨w.heap.size, 0, none⟩, v), (⟨w.heap.size, 1, none⟩, v'), (⟨w.heap.size + 1, 0, none⟩, .float .f32 y), (⟨w.heap.size + 1 + 1, 0, none⟩, .slice none 0 0), (⟨w.heap.size + 1 + 1, 1, none⟩, .slice none 0 0)]) (by simp [Held, go_sem]); simp only [Held, and_true] at hk) | (go_at_call 105; refine (levelOkC_any _ _).mono ?_; rintro e w' ⟨n9, rfl, rfl⟩; rw [hl]))
  have hBw1 : Below w.heap.size w w1 := by (repeat (first | assumption | (with_reducible exact Below.refl _ _) | (with_reducible refine Below.drewN ?_ _) | (with_reducible refine Below.drew ?_) | (with_reducible refine Below.allocS ?_ _) | ((with_reducible refine Below.setCell ?_ ?_ _); rotate_left; focus (first | omega | (simp; done) | (simp; omega))) | (with_reducible refine Below.step ?_ (by assumption))))
  have hzw : w.heap.size + 1 + 1 < w1.heap.size := by omega
  refine (turnEach_any v v' n m l lk 153 #[.pointer (some ⟨w.heap.size, 0, none⟩), .pointer (some ⟨w.heap.size + 1, 0, none⟩), .pointer (some ⟨w1.heap.size, 0, none⟩)] (stepQ n l lk y) _ ?_ ?_ ?_ ?_).mono ?_
  · refine RowAt.below H.out ?_
    (repeat (first | assumption | (with_reducible exact Below.refl _ _) | (with_reducible refine Below.drewN ?_ _) | (with_reducible refine Below.drew ?_) | (with_reducible refine Below.allocS ?_ _) | ((with_reducible refine Below.setCell ?_ ?_ _); rotate_left; focus (first | omega | (simp; done) | (simp; omega))) | (with_reducible refine Below.step ?_ (by assumption))))
  · refine RowAt.below H'.out ?_
    (repeat (first | assumption | (with_reducible exact Below.refl _ _) | (with_reducible refine Below.drewN ?_ _) | (with_reducible refine Below.drew ?_) | (with_reducible refine Below.allocS ?_ _) | ((with_reducible refine Below.setCell ?_ ?_ _); rotate_left; focus (first | omega | (simp; done) | (simp; omega))) | (with_reducible refine Below.step ?_ (by assumption))))
  · intro w2 x
    simp [go_sem]
  · intro _ i w2 hi hb2
    have hb0 : Below w.heap.size w w2 := by (repeat (first | assumption | (with_reducible exact Below.refl _ _) | (with_reducible refine Below.drewN ?_ _) | (with_reducible refine Below.drew ?_) | (with_reducible refine Below.allocS ?_ _) | ((with_reducible refine Below.setCell ?_ ?_ _); rotate_left; focus (first | omega | (simp; done) | (simp; omega))) | (with_reducible refine Below.step ?_ (by assumption))))
    have hu := (ownsRow_rowAt OU.out).below (by
      show Below w1.heap.size w1 w2
      refine Below.step ?_ hb2
      (repeat (first | (with_reducible exact Below.refl _ _) | (with_reducible refine Below.drewN ?_ _) | (with_reducible refine Below.drew ?_) | (with_reducible refine Below.allocS ?_ _) | ((with_reducible refine Below.setCell ?_ ?_ _); rotate_left; focus (first | omega | (simp; done) | (simp; omega))))))
    exact StepClocks1_any v v' _ n l lk _ _ _ y i w2 (H.out.below hb0) hu (Held.below hb2 (by simp [Held, go_sem, *])) (Held.below hb2 (by simp [Held, go_sem, *])) (Held.below hb2 (by simp [Held, go_sem, *])) hi c2
  rintro e w4 ⟨u0, u1, rfl, ou0, ou1, une, hb4⟩
  obtain ⟨a0, k0, d0, rfl⟩ := ownsRow_shape ou0
  obtain ⟨a1, k1, d1, rfl⟩ := ownsRow_shape ou1
  have hk4 := Held.below hb4 (l := [(⟨w.heap.size + 1 + 1, 0, none⟩, .slice none 0 0), (⟨w.heap.size + 1 + 1, 1, none⟩, .slice none 0 0)]) (by simp [Held, go_sem, *])
  simp only [Held, and_true] at hk4
  have OU0 := Lib.hid (ownsRow_base (base' := w1.heap.size) (by simp) ou0)
  have OU1 := Lib.hid (ownsRow_base (base' := w1.heap.size) (by simp) ou1)
  clear ou0 ou1
  go_wp2_with fail
  refine bodyPost_ret (v := ?_) (by first | (simp [results, Try.results107, go_sem, *]; rfl) | (simp [results, Try.results107, go_sem, *]; done)) rfl ?_
  rw [Bool.and_true]
  refine ⟨_, _, rfl, ?_, ?_, une, ?_⟩
  · refine ownsRow_base (base := w1.heap.size) (by omega) ?_
    have := OU0.out
    (repeat (first | (with_reducible refine World.ownsRow.alloc ?_ _) | (with_reducible refine ownsRow_drewN ?_ _) | ((with_reducible refine ownsRow_setCell_below ?_ ?_ _); rotate_left; focus (first | omega | (simp; done) | (simp; omega)))))
    exact this
  · refine ownsRow_base (base := w1.heap.size) (by omega) ?_
    have := OU1.out
    (repeat (first | (with_reducible refine World.ownsRow.alloc ?_ _) | (with_reducible refine ownsRow_drewN ?_ _) | ((with_reducible refine ownsRow_setCell_below ?_ ?_ _); rotate_left; focus (first | omega | (simp; done) | (simp; omega)))))
    exact this
  · (repeat (first | assumption | (with_reducible exact Below.refl _ _) | (with_reducible refine Below.drewN ?_ _) | (with_reducible refine Below.drew ?_) | (with_reducible refine Below.allocS ?_ _) | ((with_reducible refine Below.setCell ?_ ?_ _); rotate_left; focus (first | omega | (simp; done) | (simp; omega))) | (with_reducible refine Below.step ?_ (by assumption))))




theorem implStepClocks_lit {n m : Nat} {l lk : List Nat} {y2 : Nat} {B : Bool} (hB : ((clocksB n l m lk && levelB y2) && upto (fun j => finB .f32 (stepQ n l lk y2 j)) n) = B) (v v' : Value) (w : World) (h : RowAt w v 2 n (fl l)) (h' : RowAt w v' 1 m (fl lk)) : Calls Try.prog 107 #[.agg #[v, v'], .float .f32 y2] w (GiveC (cN B (n)) (cL B (turned l (stepQ n l lk y2) n)) (cN B (m)) (cL B (lk)) B w) := hB ▸ implStepClocks_any v v' n m l lk y2 w h h'


end Go.Proofs.Ytbmabpnolheghaa
