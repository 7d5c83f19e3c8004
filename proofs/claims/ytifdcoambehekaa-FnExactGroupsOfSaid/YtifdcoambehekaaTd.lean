/-
  The walks of clocks' order.
-/
import Derived.Test.YtifdcoambehekaaTc
import Derived.Test.YtifdcoambehekaaWz
set_option linter.unusedVariables false
set_option linter.unusedSimpArgs false
namespace Go.Proofs.Ytifdcoambehekaa
open Go.RowKit

/-- The sums over the first 'k' clocks. -/
def sumX (l : List Nat) : Nat → Nat
  | 0 => 0
  | k + 1 => fbin .add .f32 (sumX l k) (sineQ (fbin .add .f32 (cn .f32 (l.getD (k * 2) 0)) 1048576000))
def sumY (l : List Nat) : Nat → Nat
  | 0 => 0
  | k + 1 => fbin .add .f32 (sumY l k) (sineQ (cn .f32 (l.getD (k * 2) 0)))
def nF (n : Nat) : Nat := cn .f32 (floatOfInt .f32 (n : Int))
def ordX (n : Nat) (l : List Nat) : Nat := fbin .quo .f32 (sumX l n) (nF n)
def ordY (n : Nat) (l : List Nat) : Nat := fbin .quo .f32 (sumY l n) (nF n)
def ordR (n : Nat) (l : List Nat) : Nat := rootQ (fbin .add .f32 (fbin .mul .f32 (ordX n l) (ordX n l)) (fbin .mul .f32 (ordY n l) (ordY n l)))
def ordA (n : Nat) (l : List Nat) : Nat := angleQ (ordY n l) (ordX n l)
theorem cn_q : cn .f32 1048576000 = 1048576000 := by decide +kernel
/-- Two floats. -/
def PO (X Y : Nat) (w : World) (e : Ending) (w' : World) : Prop := ∃ r s, e = .returned (.tuple #[.float .f32 r, .float .f32 s]) ∧ cn .f32 r = X ∧ cn .f32 s = Y ∧ Below w.heap.size w w'
def PO3 (X Y : Nat) (b : Bool) (w : World) (e : Ending) (w' : World) : Prop := ∃ r s, e = .returned (.tuple #[.float .f32 r, .float .f32 s, .bool b]) ∧ cn .f32 r = X ∧ cn .f32 s = Y ∧ Below w.heap.size w w'

set_option maxRecDepth 100000 in
set_option maxHeartbeats 8000000 in
theorem l05Order_any (v v' : Value) (n : Nat) (l : List Nat) (p : Nat) (w : World) (h : RowAt w v 2 n (fl l)) (hp : Held [(⟨p, 0, none⟩, v), (⟨p, 1, none⟩, v')] w) (hn0 : 0 < n) (hn : n ≤ 12) : Calls Try.prog 92 #[.pointer (some ⟨p, 0, none⟩)] w (PO (ordR n l) (ordA n l) w) := by
  obtain ⟨h1, h2, ao, cap, rfl, h3⟩ := h
  obtain ⟨b, o, rfl, hbl, hcell⟩ := h3.resolve_left (by omega)
  clear h3
  rw [fl_length] at h1
  have HC := Lib.hid hcell
  clear hcell
  have HL : Hid (l.length = n * 2) := h1
  clear h1 h2
  have HP := Lib.hid hp
  simp only [Held, and_true] at hp
  go_enter Try.func92, Try.ntmps92
  go_wp2_with fail
  go_loopw [19, 5, 6] (fun jv xv yv wr => ∃ k : Nat, k ≤ n ∧ jv = .int .i64 (k : Int) ∧ ∃ sx sy, xv = .float .f32 sx ∧ yv = .float .f32 sy ∧ cn .f32 sx = sumX l k ∧ cn .f32 sy = sumY l k ∧ Below w.heap.size w wr) (fun jv xv yv _ => n - (intOf jv).toNat)
  case atStart => exact ⟨0, Nat.zero_le _, rfl, 0, 0, rfl, rfl, cn_zero, cn_zero, by (repeat (first | assumption | (with_reducible exact Below.refl _ _) | (with_reducible refine Below.drewN ?_ _) | (with_reducible refine Below.drew ?_) | (with_reducible refine Below.allocS ?_ _) | ((with_reducible refine Below.setCell ?_ ?_ _); rotate_left; focus (first | omega | (simp; done) | (simp; omega))) | (with_reducible refine Below.step ?_ (by assumption))))⟩
  case round =>
    obtain ⟨k, hk, rfl, sx, sy, rfl, rfl, hsx, hsy, hB⟩ := hrel
    have HX := Lib.hid hsx
    have HY := Lib.hid hsy
    clear hsx hsy
    have hk2 := Held.below hB HP.out
    simp only [Held, and_true] at hk2
    by_cases hlt : k < n
    · have d1 : decide ((k : Int) < (n : Int)) = true := decide_eq_true (by omega)
      obtain ⟨x0, hx0⟩ : ∃ x, Hid (l.getD (k * 2) 0 = x) := ⟨_, rfl⟩
      obtain ⟨x0', hx0'⟩ : ∃ x, Hid (l.getD (k * 2 + 1) 0 = x) := ⟨_, rfl⟩
      have f0 := HC.out (k * 2) (.float .f32 x0) (by rw [← hx0.out]; exact fl_get (by rw [HL.out]; omega))
      have f0' := HC.out (k * 2 + 1) (.float .f32 x0') (by rw [← hx0'.out]; exact fl_get (by rw [HL.out]; omega))
      simp only [← Nat.add_assoc] at f0'
      have hc := Held.below hB (l := [(⟨b, o + k * 2, none⟩, .float .f32 x0), (⟨b, o + k * 2 + 1, none⟩, .float .f32 x0')]) ⟨⟨hbl, f0⟩, ⟨hbl, f0'⟩, trivial⟩
      simp only [Held, and_true] at hc
      clear f0 f0'
      go_wp2_with (first | (refine wpList_fbin rfl rfl rfl rfl rfl (fun r n9 hr => ?_)) | (go_at_call 94; refine (l01Sine_any _ _).mono ?_; rintro e w3 ⟨rr, m1, rfl, hq, rfl⟩; have HR := Lib.hid hq; clear hq))
      go_roundw
      case rel =>
        refine ⟨k + 1, hlt, by go_num, _, _, rfl, rfl, ?_, ?_, by (repeat (first | assumption | (with_reducible exact Below.refl _ _) | (with_reducible refine Below.drewN ?_ _) | (with_reducible refine Below.drew ?_) | (with_reducible refine Below.allocS ?_ _) | ((with_reducible refine Below.setCell ?_ ?_ _); rotate_left; focus (first | omega | (simp; done) | (simp; omega))) | (with_reducible refine Below.step ?_ (by assumption))))⟩
        · show _ = fbin .add .f32 (sumX l k) (sineQ (fbin .add .f32 (cn .f32 (l.getD (k * 2) 0)) 1048576000))
          rw [hx0.out]
          simp only [Hid] at *
          simp only [*, cn_q]
        · show _ = fbin .add .f32 (sumY l k) (sineQ (cn .f32 (l.getD (k * 2) 0)))
          rw [hx0.out]
          simp only [Hid] at *
          simp only [*]
      case measure => simp [intOf]; omega
    · obtain rfl : k = n := by omega
      have d1 : decide ((k : Int) < (k : Int)) = false := decide_eq_false (by omega)
      go_wp2_with (first | (refine wpList_fbin rfl rfl rfl rfl rfl (fun r n9 hr => ?_)) | (go_at_call 116; refine (l01Sqrt_any _ _).mono ?_; rintro e w3 ⟨rr, m1, rfl, hq, rfl⟩; have HR := Lib.hid hq; clear hq) | (go_at_call 117; refine (l01Angle_any _ _ _).mono ?_; rintro e w4 ⟨ra, m2, rfl, hq, rfl⟩; have HA := Lib.hid hq; clear hq))
      go_ret2
      refine ⟨_, _, rfl, ?_, ?_, by (repeat (first | assumption | (with_reducible exact Below.refl _ _) | (with_reducible refine Below.drewN ?_ _) | (with_reducible refine Below.drew ?_) | (with_reducible refine Below.allocS ?_ _) | ((with_reducible refine Below.setCell ?_ ?_ _); rotate_left; focus (first | omega | (simp; done) | (simp; omega))) | (with_reducible refine Below.step ?_ (by assumption))))⟩
      · unfold ordR ordX ordY nF
        simp only [Hid] at *
        simp only [*]
      · unfold ordA ordX ordY nF
        simp only [Hid] at *
        simp only [*]

set_option maxRecDepth 100000 in
set_option maxHeartbeats 8000000 in
theorem orderC_any (v v' : Value) (n : Nat) (l : List Nat) (p : Nat) (w : World) (h : RowAt w v 2 n (fl l)) (hp : Held [(⟨p, 0, none⟩, v), (⟨p, 1, none⟩, v')] w) (hn0 : 0 < n) (hn : n ≤ 12) : Calls Try.prog 93 #[.pointer (some ⟨p, 0, none⟩)] w (PO (ordR n l) (ordA n l) w) := by
  obtain ⟨h1, h2, ao, cap, rfl, h3⟩ := h
  obtain ⟨b, o, rfl, hbl, hcell⟩ := h3.resolve_left (by omega)
  clear h3
  rw [fl_length] at h1
  have HC := Lib.hid hcell
  clear hcell
  have HL : Hid (l.length = n * 2) := h1
  clear h1 h2
  have HP := Lib.hid hp
  simp only [Held, and_true] at hp
  go_enter Try.func93, Try.ntmps93
  go_wp2_with fail
  have hst : stableV [] := by intro q hq; cases hq
  refine region_calmV w [(⟨p, 0, none⟩, .slice (some ⟨b, o, none⟩) n cap), (⟨p, 1, none⟩, v')] (fun _ _ _ => False) [] (by kernel_rfl) (by kernel_rfl) (by kernel_rfl) ⟨by simp [Held, go_sem, *], by (repeat (first | assumption | (with_reducible exact Below.refl _ _) | (with_reducible refine Below.drewN ?_ _) | (with_reducible refine Below.drew ?_) | (with_reducible refine Below.allocS ?_ _) | ((with_reducible refine Below.setCell ?_ ?_ _); rotate_left; focus (first | omega | (simp; done) | (simp; omega))) | (with_reducible refine Below.step ?_ (by assumption))))⟩ ?_
  repeat (first | (first | (refine calmV_plain hst rfl rfl ?_ (fun K hK w1 hC => ?_); (focus (intro _ _; simp [RVF]; done)); have hC' := hC.1; simp only [Held, and_true] at hC'; go_wp2_with (first | (refine wpList_fbin rfl rfl rfl rfl rfl (fun r n9 hr => ?_)) | (refine wpList_widen rfl rfl Try.underlying44 Try.underlying22 rfl (fun r n9 hr => ?_))); refine ⟨rfl, (by first | exact Below.refl _ _ | exact below_drewN _), hK _ ?_⟩; clear hC hC' hK K w1) | (refine calmV_check rfl rfl rfl ?_ ?_; (focus (intro _ _; simp [RVF]; done))) | (refine calmV_skip rfl ?_ ?_; (focus (intro _ _; simp [RVF]; done)); simp [Act.put])) | (refine calmV_op (Tv := fun v => v = .int .i64 (n : Int)) hst rfl (fun w1 hC => ⟨_, w1, ?_, rfl, ?_, Below.refl _ _⟩) ?_; (focus (simp [execOp, go_sem]; done)); (focus (simp [RVF]; done)); rintro v rfl))
  refine calmV_nil ?_
  intro w1 hC hF
  have hB1 : Below w.heap.size w w1 := hC.2
  have hC' := hC.1
  simp only [Held, and_true] at hC'
  clear hC hF hst
  go_wp2_with fail
  go_loopw [20, 4, 5] (fun jv xv yv wr => ∃ k : Nat, k ≤ n ∧ jv = .int .i64 (k : Int) ∧ ∃ sx sy, xv = .float .f32 sx ∧ yv = .float .f32 sy ∧ cn .f32 sx = sumX l k ∧ cn .f32 sy = sumY l k ∧ Below w.heap.size w wr) (fun jv xv yv _ => n - (intOf jv).toNat)
  case atStart => exact ⟨0, Nat.zero_le _, rfl, 0, 0, rfl, rfl, cn_zero, cn_zero, by (repeat (first | assumption | (with_reducible exact Below.refl _ _) | (with_reducible refine Below.drewN ?_ _) | (with_reducible refine Below.drew ?_) | (with_reducible refine Below.allocS ?_ _) | ((with_reducible refine Below.setCell ?_ ?_ _); rotate_left; focus (first | omega | (simp; done) | (simp; omega))) | (with_reducible refine Below.step ?_ (by assumption))))⟩
  case round =>
    obtain ⟨k, hk, rfl, sx, sy, rfl, rfl, hsx, hsy, hB⟩ := hrel
    have HX := Lib.hid hsx
    have HY := Lib.hid hsy
    clear hsx hsy
    have hk2 := Held.below hB HP.out
    simp only [Held, and_true] at hk2
    by_cases hlt : k < n
    · have d1 : decide ((k : Int) < (n : Int)) = true := decide_eq_true (by omega)
      obtain ⟨x0, hx0⟩ : ∃ x, Hid (l.getD (k * 2) 0 = x) := ⟨_, rfl⟩
      obtain ⟨x0', hx0'⟩ : ∃ x, Hid (l.getD (k * 2 + 1) 0 = x) := ⟨_, rfl⟩
      have f0 := HC.out (k * 2) (.float .f32 x0) (by rw [← hx0.out]; exact fl_get (by rw [HL.out]; omega))
      have f0' := HC.out (k * 2 + 1) (.float .f32 x0') (by rw [← hx0'.out]; exact fl_get (by rw [HL.out]; omega))
      simp only [← Nat.add_assoc] at f0'
      have hc := Held.below hB (l := [(⟨b, o + k * 2, none⟩, .float .f32 x0), (⟨b, o + k * 2 + 1, none⟩, .float .f32 x0')]) ⟨⟨hbl, f0⟩, ⟨hbl, f0'⟩, trivial⟩
      simp only [Held, and_true] at hc
      clear f0 f0'
      go_wp2_with (first | (refine wpList_fbin rfl rfl rfl rfl rfl (fun r n9 hr => ?_)) | (go_at_call 96; refine (SineTurns_any _ _).mono ?_; rintro e w3 ⟨rr, m1, rfl, hq, rfl⟩; have HR := Lib.hid hq; clear hq))
      go_roundw
      case rel =>
        refine ⟨k + 1, hlt, by go_num, _, _, rfl, rfl, ?_, ?_, by (repeat (first | assumption | (with_reducible exact Below.refl _ _) | (with_reducible refine Below.drewN ?_ _) | (with_reducible refine Below.drew ?_) | (with_reducible refine Below.allocS ?_ _) | ((with_reducible refine Below.setCell ?_ ?_ _); rotate_left; focus (first | omega | (simp; done) | (simp; omega))) | (with_reducible refine Below.step ?_ (by assumption))))⟩
        · show _ = fbin .add .f32 (sumX l k) (sineQ (fbin .add .f32 (cn .f32 (l.getD (k * 2) 0)) 1048576000))
          rw [hx0.out]
          simp only [Hid] at *
          simp only [*, cn_q]
        · show _ = fbin .add .f32 (sumY l k) (sineQ (cn .f32 (l.getD (k * 2) 0)))
          rw [hx0.out]
          simp only [Hid] at *
          simp only [*]
      case measure => simp [intOf]; omega
    · obtain rfl : k = n := by omega
      have d1 : decide ((k : Int) < (k : Int)) = false := decide_eq_false (by omega)
      go_wp2_with (first | (refine wpList_fbin rfl rfl rfl rfl rfl (fun r n9 hr => ?_)) | (go_at_call 118; refine (RootNumber_any _ _).mono ?_; rintro e w3 ⟨rr, m1, rfl, hq, rfl⟩; have HR := Lib.hid hq; clear hq) | (go_at_call 119; refine (AngleTurns_any _ _ _).mono ?_; rintro e w4 ⟨ra, rfl, hq, hb4⟩; have HA := Lib.hid hq; clear hq))
      go_ret2
      refine ⟨_, _, rfl, ?_, ?_, by (repeat (first | assumption | (with_reducible exact Below.refl _ _) | (with_reducible refine Below.drewN ?_ _) | (with_reducible refine Below.drew ?_) | (with_reducible refine Below.allocS ?_ _) | ((with_reducible refine Below.setCell ?_ ?_ _); rotate_left; focus (first | omega | (simp; done) | (simp; omega))) | (with_reducible refine Below.step ?_ (by assumption))))⟩
      · unfold ordR ordX ordY nF
        simp only [Hid] at *
        simp only [*]
      · unfold ordA ordX ordY nF
        simp only [Hid] at *
        simp only [*]

set_option maxRecDepth 100000 in
set_option maxHeartbeats 8000000 in
theorem specOrderOf_any (v v' : Value) (n m : Nat) (l lk : List Nat) (w : World) (h : RowAt w v 2 n (fl l)) (h' : RowAt w v' 1 m (fl lk)) : Calls Try.prog 46 #[.agg #[v, v']] w (PO3 (condF (clocksB n l m lk) (ordR n l)) (condF (clocksB n l m lk) (ordA n l)) (clocksB n l m lk) w) := by
  have H := Lib.hid h
  have H' := Lib.hid h'
  clear h h'
  cases hc : clocksB n l m lk
  · go_enter Try.func46, Try.ntmps46
    go_wp2_with (first | (go_at_call 77; refine (l05Is_any v v' n m l lk _ _ ?_ ?_ ?_).mono ?_; (focus (refine RowAt.below H.out ?_; (repeat (first | assumption | (with_reducible exact Below.refl _ _) | (with_reducible refine Below.drewN ?_ _) | (with_reducible refine Below.drew ?_) | (with_reducible refine Below.allocS ?_ _) | ((with_reducible refine Below.setCell ?_ ?_ _); rotate_left; focus (first | omega | (simp; done) | (simp; omega))) | (with_reducible refine Below.step ?_ (by assumption)))); done)); (focus (refine RowAt.below H'.out ?_; (repeat (first | assumption | (with_reducible exact Below.refl _ _) | (with_reducible refine Below.drewN ?_ _) | (with_reducible refine Below.drew ?_) | (with_reducible refine Below.allocS ?_ _) | ((with_reducible refine Below.setCell ?_ ?_ _); rotate_left; focus (first | omega | (simp; done) | (simp; omega))) | (with_reducible refine Below.step ?_ (by assumption)))); done)); (focus (simp [Held, go_sem]; done)); rintro e w1 ⟨c, rfl, rfl⟩; rw [hc]))
    refine bodyPost_ret (v := ?_) (by first | (simp [results, Try.results46, go_sem, *]; rfl) | (simp [results, Try.results46, go_sem, *]; done)) rfl ?_
    exact ⟨_, _, rfl, cn_zero, cn_zero, by (repeat (first | assumption | (with_reducible exact Below.refl _ _) | (with_reducible refine Below.drewN ?_ _) | (with_reducible refine Below.drew ?_) | (with_reducible refine Below.allocS ?_ _) | ((with_reducible refine Below.setCell ?_ ?_ _); rotate_left; focus (first | omega | (simp; done) | (simp; omega))) | (with_reducible refine Below.step ?_ (by assumption))))⟩
  obtain ⟨c1, c2, c3, c4, c5⟩ := clocks_parts hc
  clear c4 c3 c5
  go_enter Try.func46, Try.ntmps46
  go_wp2_with (first | (go_at_call 77; refine (l05Is_any v v' n m l lk _ _ ?_ ?_ ?_).mono ?_; (focus (refine RowAt.below H.out ?_; (repeat (first | assumption | (with_reducible exact Below.refl _ _) | (with_reducible refine Below.drewN ?_ _) | (with_reducible refine Below.drew ?_) | (with_reducible refine Below.allocS ?_ _) | ((with_reducible refine Below.setCell ?_ ?_ _); rotate_left; focus (first | omega | (simp; done) | (simp; omega))) | (with_reducible refine Below.step ?_ (by assumption)))); done)); (focus (refine RowAt.below H'.out ?_; (repeat (first | assumption | (with_reducible exact Below.refl _ _) | (with_reducible refine Below.drewN ?_ _) | (with_reducible refine Below.drew ?_) | (with_reducible refine Below.allocS ?_ _) | ((with_reducible refine Below.setCell ?_ ?_ _); rotate_left; focus (first | omega | (simp; done) | (simp; omega))) | (with_reducible refine Below.step ?_ (by assumption)))); done)); (focus (simp [Held, go_sem]; done)); rintro e w1 ⟨c, rfl, rfl⟩; rw [hc]) | (go_at_call 92; refine (l05Order_any v v' n l _ _ (H.out.below (by (repeat (first | assumption | (with_reducible exact Below.refl _ _) | (with_reducible refine Below.drewN ?_ _) | (with_reducible refine Below.drew ?_) | (with_reducible refine Below.allocS ?_ _) | ((with_reducible refine Below.setCell ?_ ?_ _); rotate_left; focus (first | omega | (simp; done) | (simp; omega))) | (with_reducible refine Below.step ?_ (by assumption)))))) (by simp [Held, go_sem, *]) (by omega) c2).mono ?_; rintro e w2 ⟨r, s, rfl, hq, hq2, hb2⟩; have HQ := Lib.hid hq; have HQ2 := Lib.hid hq2; clear hq hq2))
  refine bodyPost_ret (v := ?_) (by first | (simp [results, Try.results46, go_sem, *]; rfl) | (simp [results, Try.results46, go_sem, *]; done)) rfl ?_
  exact ⟨_, _, rfl, HQ.out, HQ2.out, by (repeat (first | assumption | (with_reducible exact Below.refl _ _) | (with_reducible refine Below.drewN ?_ _) | (with_reducible refine Below.drew ?_) | (with_reducible refine Below.allocS ?_ _) | ((with_reducible refine Below.setCell ?_ ?_ _); rotate_left; focus (first | omega | (simp; done) | (simp; omega))) | (with_reducible refine Below.step ?_ (by assumption))))⟩

set_option maxRecDepth 100000 in
set_option maxHeartbeats 8000000 in
theorem implOrderOf_any (v v' : Value) (n m : Nat) (l lk : List Nat) (w : World) (h : RowAt w v 2 n (fl l)) (h' : RowAt w v' 1 m (fl lk)) : Calls Try.prog 47 #[.agg #[v, v']] w (PO3 (condF (clocksB n l m lk) (ordR n l)) (condF (clocksB n l m lk) (ordA n l)) (clocksB n l m lk) w) := by
  have H := Lib.hid h
  have H' := Lib.hid h'
  clear h h'
  cases hc : clocksB n l m lk
  · go_enter Try.func47, Try.ntmps47
    go_wp2_with (first | (go_at_call 56; refine (implValidClocks_any v v' n m l lk _ ?_ ?_).mono ?_; (focus (refine RowAt.below H.out ?_; (repeat (first | assumption | (with_reducible exact Below.refl _ _) | (with_reducible refine Below.drewN ?_ _) | (with_reducible refine Below.drew ?_) | (with_reducible refine Below.allocS ?_ _) | ((with_reducible refine Below.setCell ?_ ?_ _); rotate_left; focus (first | omega | (simp; done) | (simp; omega))) | (with_reducible refine Below.step ?_ (by assumption)))); done)); (focus (refine RowAt.below H'.out ?_; (repeat (first | assumption | (with_reducible exact Below.refl _ _) | (with_reducible refine Below.drewN ?_ _) | (with_reducible refine Below.drew ?_) | (with_reducible refine Below.allocS ?_ _) | ((with_reducible refine Below.setCell ?_ ?_ _); rotate_left; focus (first | omega | (simp; done) | (simp; omega))) | (with_reducible refine Below.step ?_ (by assumption)))); done)); rintro e w1 ⟨rfl, hb⟩; rw [hc]; have hk := Held.below hb (l := [(⟨w.heap.size, 0, none⟩, v), (⟨w.heap.size, 1, none⟩, v')]) (by simp [Held, go_sem]); simp only [Held, and_true] at hk))
    refine bodyPost_ret (v := ?_) (by first | (simp [results, Try.results47, go_sem, *]; rfl) | (simp [results, Try.results47, go_sem, *]; done)) rfl ?_
    exact ⟨_, _, rfl, cn_zero, cn_zero, by (repeat (first | assumption | (with_reducible exact Below.refl _ _) | (with_reducible refine Below.drewN ?_ _) | (with_reducible refine Below.drew ?_) | (with_reducible refine Below.allocS ?_ _) | ((with_reducible refine Below.setCell ?_ ?_ _); rotate_left; focus (first | omega | (simp; done) | (simp; omega))) | (with_reducible refine Below.step ?_ (by assumption))))⟩
  obtain ⟨c1, c2, c3, c4, c5⟩ := clocks_parts hc
  clear c4 c3 c5
  go_enter Try.func47, Try.ntmps47
  go_wp2_with (first | (go_at_call 56; refine (implValidClocks_any v v' n m l lk _ ?_ ?_).mono ?_; (focus (refine RowAt.below H.out ?_; (repeat (first | assumption | (with_reducible exact Below.refl _ _) | (with_reducible refine Below.drewN ?_ _) | (with_reducible refine Below.drew ?_) | (with_reducible refine Below.allocS ?_ _) | ((with_reducible refine Below.setCell ?_ ?_ _); rotate_left; focus (first | omega | (simp; done) | (simp; omega))) | (with_reducible refine Below.step ?_ (by assumption)))); done)); (focus (refine RowAt.below H'.out ?_; (repeat (first | assumption | (with_reducible exact Below.refl _ _) | (with_reducible refine Below.drewN ?_ _) | (with_reducible refine Below.drew ?_) | (with_reducible refine Below.allocS ?_ _) | ((with_reducible refine Below.setCell ?_ ?_ _); rotate_left; focus (first | omega | (simp; done) | (simp; omega))) | (with_reducible refine Below.step ?_ (by assumption)))); done)); rintro e w1 ⟨rfl, hb⟩; rw [hc]; have hk := Held.below hb (l := [(⟨w.heap.size, 0, none⟩, v), (⟨w.heap.size, 1, none⟩, v')]) (by simp [Held, go_sem]); simp only [Held, and_true] at hk) | (go_at_call 93; refine (orderC_any v v' n l _ _ (H.out.below (by (repeat (first | assumption | (with_reducible exact Below.refl _ _) | (with_reducible refine Below.drewN ?_ _) | (with_reducible refine Below.drew ?_) | (with_reducible refine Below.allocS ?_ _) | ((with_reducible refine Below.setCell ?_ ?_ _); rotate_left; focus (first | omega | (simp; done) | (simp; omega))) | (with_reducible refine Below.step ?_ (by assumption)))))) (by simp [Held, go_sem, *]) (by omega) c2).mono ?_; rintro e w2 ⟨r, s, rfl, hq, hq2, hb2⟩; have HQ := Lib.hid hq; have HQ2 := Lib.hid hq2; clear hq hq2))
  refine bodyPost_ret (v := ?_) (by first | (simp [results, Try.results47, go_sem, *]; rfl) | (simp [results, Try.results47, go_sem, *]; done)) rfl ?_
  exact ⟨_, _, rfl, HQ.out, HQ2.out, by (repeat (first | assumption | (with_reducible exact Below.refl _ _) | (with_reducible refine Below.drewN ?_ _) | (with_reducible refine Below.drew ?_) | (with_reducible refine Below.allocS ?_ _) | ((with_reducible refine Below.setCell ?_ ?_ _); rotate_left; focus (first | omega | (simp; done) | (simp; omega))) | (with_reducible refine Below.step ?_ (by assumption))))⟩

set_option maxRecDepth 100000 in
set_option maxHeartbeats 8000000 in
theorem lawPullOn_walk (v0 : Value) (n0 : Nat) (l0 : List Nat) (v1 : Value) (n1 : Nat) (l1 : List Nat) (i2 : Int) (w : World) (h0 : RowAt w v0 2 n0 (fl l0)) (h1 : RowAt w v1 1 n1 (fl l1)) (hb0 : ∀ x ∈ l0, x < 4294967296) (hb1 : ∀ x ∈ l1, x < 4294967296) (hb_i2 : (Lit.int .i64 i2).wf = true) : Calls Try.prog 6 #[.agg #[v0, v1], .int .i64 i2] w fun e w' => e = .returned (.bool true) ∧ Below w.heap.size w w' := by
  have H0 := Lib.hid h0
  have H1 := Lib.hid h1
  have HB0 := Lib.hid hb0
  clear hb0
  have HB1 := Lib.hid hb1
  clear hb1
  clear h0 h1
  go_enter Try.func6, Try.ntmps6
  go_wp2_with fail
  refine (szClocks_any v0 n0 (fl l0) v1 n1 (fl l1) (1048576) _ ?_ ?_ (by omega)).mono ?_
  · refine RowAt.below H0.out ?_
    (repeat (first | assumption | (with_reducible exact Below.refl _ _) | (with_reducible refine Below.drewN ?_ _) | (with_reducible refine Below.drew ?_) | (with_reducible refine Below.allocS ?_ _) | ((with_reducible refine Below.setCell ?_ ?_ _); rotate_left; focus (first | omega | (simp; done) | (simp; omega))) | (with_reducible refine Below.step ?_ (by assumption))))
  · refine RowAt.below H1.out ?_
    (repeat (first | assumption | (with_reducible exact Below.refl _ _) | (with_reducible refine Below.drewN ?_ _) | (with_reducible refine Below.drew ?_) | (with_reducible refine Below.allocS ?_ _) | ((with_reducible refine Below.setCell ?_ ?_ _); rotate_left; focus (first | omega | (simp; done) | (simp; omega))) | (with_reducible refine Below.step ?_ (by assumption))))
  rintro e ws0 ⟨rfl, hcs0⟩
  have hk := Held.below hcs0 (l := [(⟨w.heap.size, 0, none⟩, v0), (⟨w.heap.size, 1, none⟩, v1)]) (by simp [Held, go_sem, *])
  simp only [Held, and_true] at hk
  have hBs0 : Below w.heap.size w ws0 := by (repeat (first | assumption | (with_reducible exact Below.refl _ _) | (with_reducible refine Below.drewN ?_ _) | (with_reducible refine Below.drew ?_) | (with_reducible refine Below.allocS ?_ _) | ((with_reducible refine Below.setCell ?_ ?_ _); rotate_left; focus (first | omega | (simp; done) | (simp; omega))) | (with_reducible refine Below.step ?_ (by assumption))))
  clear hcs0
  by_cases hs0 : n0 + n1 ≤ 1048576
  case neg =>
    rw [if_neg hs0]
    go_wp2_with fail
    go_ret
    refine ⟨rfl, ?_⟩
    (repeat (first | assumption | (with_reducible exact Below.refl _ _) | (with_reducible refine Below.drewN ?_ _) | (with_reducible refine Below.drew ?_) | (with_reducible refine Below.allocS ?_ _) | ((with_reducible refine Below.setCell ?_ ?_ _); rotate_left; focus (first | omega | (simp; done) | (simp; omega))) | (with_reducible refine Below.step ?_ (by assumption))))
  rw [if_pos hs0]
  go_wp2_with fail
  refine (toClocks_any v0 n0 v1 n1 l0 l1 _ ?_ ?_ (by omega) (by omega)).mono ?_
  · refine RowAt.below H0.out ?_
    (repeat (first | assumption | (with_reducible exact Below.refl _ _) | (with_reducible refine Below.drewN ?_ _) | (with_reducible refine Below.drew ?_) | (with_reducible refine Below.allocS ?_ _) | ((with_reducible refine Below.setCell ?_ ?_ _); rotate_left; focus (first | omega | (simp; done) | (simp; omega))) | (with_reducible refine Below.step ?_ (by assumption))))
  · refine RowAt.below H1.out ?_
    (repeat (first | assumption | (with_reducible exact Below.refl _ _) | (with_reducible refine Below.drewN ?_ _) | (with_reducible refine Below.drew ?_) | (with_reducible refine Below.allocS ?_ _) | ((with_reducible refine Below.setCell ?_ ?_ _); rotate_left; focus (first | omega | (simp; done) | (simp; omega))) | (with_reducible refine Below.step ?_ (by assumption))))
  rintro e w1 ⟨g0, g1, rfl, o0, o1, one0, c1⟩
  have hk := Held.below c1 (l := [(⟨w.heap.size, 0, none⟩, v0), (⟨w.heap.size, 1, none⟩, v1)]) (by simp [Held, go_sem, *])
  simp only [Held, and_true] at hk
  have hBw1 : Below w.heap.size w w1 := by (repeat (first | assumption | (with_reducible exact Below.refl _ _) | (with_reducible refine Below.drewN ?_ _) | (with_reducible refine Below.drew ?_) | (with_reducible refine Below.allocS ?_ _) | ((with_reducible refine Below.setCell ?_ ?_ _); rotate_left; focus (first | omega | (simp; done) | (simp; omega))) | (with_reducible refine Below.step ?_ (by assumption))))
  go_wp2_with fail
  refine (specPullOn_any _ _ n0 n1 l0 l1 i2 _ (ownsRow_rowAt o0) (ownsRow_rowAt o1)).mono ?_
  rintro e w2 ⟨r0_0, rfl, q0_0, c2⟩
  have Hq0_0 := Lib.hid q0_0
  clear q0_0
  have hk := Held.below c2 (l := [(⟨w.heap.size, 0, none⟩, v0), (⟨w.heap.size, 1, none⟩, v1)]) (by simp [Held, go_sem, *])
  simp only [Held, and_true] at hk
  have hBw2 : Below w.heap.size w w2 := by (repeat (first | assumption | (with_reducible exact Below.refl _ _) | (with_reducible refine Below.drewN ?_ _) | (with_reducible refine Below.drew ?_) | (with_reducible refine Below.allocS ?_ _) | ((with_reducible refine Below.setCell ?_ ?_ _); rotate_left; focus (first | omega | (simp; done) | (simp; omega))) | (with_reducible refine Below.step ?_ (by assumption))))
  clear o0 o1
  go_wp2_with fail
  refine (toClocks_any v0 n0 v1 n1 l0 l1 _ ?_ ?_ (by omega) (by omega)).mono ?_
  · refine RowAt.below H0.out ?_
    (repeat (first | assumption | (with_reducible exact Below.refl _ _) | (with_reducible refine Below.drewN ?_ _) | (with_reducible refine Below.drew ?_) | (with_reducible refine Below.allocS ?_ _) | ((with_reducible refine Below.setCell ?_ ?_ _); rotate_left; focus (first | omega | (simp; done) | (simp; omega))) | (with_reducible refine Below.step ?_ (by assumption))))
  · refine RowAt.below H1.out ?_
    (repeat (first | assumption | (with_reducible exact Below.refl _ _) | (with_reducible refine Below.drewN ?_ _) | (with_reducible refine Below.drew ?_) | (with_reducible refine Below.allocS ?_ _) | ((with_reducible refine Below.setCell ?_ ?_ _); rotate_left; focus (first | omega | (simp; done) | (simp; omega))) | (with_reducible refine Below.step ?_ (by assumption))))
  rintro e w3 ⟨g0, g1, rfl, o0, o1, one0, c3⟩
  have hk := Held.below c3 (l := [(⟨w.heap.size, 0, none⟩, v0), (⟨w.heap.size, 1, none⟩, v1)]) (by simp [Held, go_sem, *])
  simp only [Held, and_true] at hk
  have hBw3 : Below w.heap.size w w3 := by (repeat (first | assumption | (with_reducible exact Below.refl _ _) | (with_reducible refine Below.drewN ?_ _) | (with_reducible refine Below.drew ?_) | (with_reducible refine Below.allocS ?_ _) | ((with_reducible refine Below.setCell ?_ ?_ _); rotate_left; focus (first | omega | (simp; done) | (simp; omega))) | (with_reducible refine Below.step ?_ (by assumption))))
  have hb3 : ¬ w.heap.size = w3.heap.size := by omega
  go_wp2_with fail
  refine (implPullOn_any _ _ n0 n1 l0 l1 i2 _ ((ownsRow_rowAt o0).below (by (repeat (first | (with_reducible exact Below.refl _ _) | (with_reducible refine Below.drewN ?_ _) | (with_reducible refine Below.drew ?_) | (with_reducible refine Below.allocS ?_ _) | ((with_reducible refine Below.setCell ?_ ?_ _); rotate_left; focus (first | omega | (simp; done) | (simp; omega))))))) ((ownsRow_rowAt o1).below (by (repeat (first | (with_reducible exact Below.refl _ _) | (with_reducible refine Below.drewN ?_ _) | (with_reducible refine Below.drew ?_) | (with_reducible refine Below.allocS ?_ _) | ((with_reducible refine Below.setCell ?_ ?_ _); rotate_left; focus (first | omega | (simp; done) | (simp; omega)))))))).mono ?_
  rintro e w4 ⟨r1_0, rfl, q1_0, c4⟩
  have Hq1_0 := Lib.hid q1_0
  clear q1_0
  have hk := Held.below c4 (l := [(⟨w.heap.size, 0, none⟩, v0), (⟨w.heap.size, 1, none⟩, v1), (⟨w3.heap.size, 0, none⟩, .slice (some ⟨g0, 0, none⟩) n0 n0), (⟨w3.heap.size, 1, none⟩, .slice (some ⟨g1, 0, none⟩) n1 n1)]) (by simp [Held, go_sem, *])
  simp only [Held, and_true] at hk
  have hBw4 : Below w.heap.size w w4 := by (repeat (first | assumption | (with_reducible exact Below.refl _ _) | (with_reducible refine Below.drewN ?_ _) | (with_reducible refine Below.drew ?_) | (with_reducible refine Below.allocS ?_ _) | ((with_reducible refine Below.setCell ?_ ?_ _); rotate_left; focus (first | omega | (simp; done) | (simp; omega))) | (with_reducible refine Below.step ?_ (by assumption))))
  have q4 : Below w3.heap.size w3 w4 := by
    refine Below.step ?_ c4
    (repeat (first | (with_reducible exact Below.refl _ _) | (with_reducible refine Below.drewN ?_ _) | (with_reducible refine Below.drew ?_) | (with_reducible refine Below.allocS ?_ _) | ((with_reducible refine Below.setCell ?_ ?_ _); rotate_left; focus (first | omega | (simp; done) | (simp; omega)))))
  have R0 := Lib.hid ((ownsRow_rowAt o0).below q4)
  have R1 := Lib.hid ((ownsRow_rowAt o1).below q4)
  clear o0 o1
  go_wp2_with (first | (refine wpList_widen rfl rfl Try.underlying44 Try.underlying22 rfl (fun r n9 hr => ?_)) | (refine wpList_widen_g rfl rfl Try.underlying44 Try.underlying22 rfl (fun r n9 hr => ?_)) | (go_at_call 28; refine (sameFloat_any _ _ _ (widen_same (Hid.out (by assumption)) (Hid.out (by assumption)) (Hq1_0.out.trans Hq0_0.out.symm))).mono ?_; rintro e w' ⟨n9, rfl, rfl⟩))
  have hst : stableV [(2, 44, (fun v w => ∃ s0 s1, v = .agg #[s0, s1] ∧ RowAt w s0 2 n0 (fl l0) ∧ RowAt w s1 1 n1 (fl l1)))] := by
    intro q hq
    obtain rfl := List.mem_singleton.1 hq
    intro v w w' hb hh
    obtain ⟨s0, s1, rfl, r0, r1⟩ := hh; exact ⟨s0, s1, rfl, r0.below hb, r1.below hb⟩
  refine region_calmV w4 [(⟨w.heap.size, 0, none⟩, v0), (⟨w.heap.size, 1, none⟩, v1), (⟨w3.heap.size, 0, none⟩, .slice (some ⟨g0, 0, none⟩) n0 n0), (⟨w3.heap.size, 1, none⟩, .slice (some ⟨g1, 0, none⟩) n1 n1)] (fun f _ v => (f = 22 ∧ ∃ s0 s1, v = .agg #[s0, s1]) ∨ (f = 17 ∧ v = .bool true)) [(2, 44, (fun v w => ∃ s0 s1, v = .agg #[s0, s1] ∧ RowAt w s0 2 n0 (fl l0) ∧ RowAt w s1 1 n1 (fl l1)))] (by kernel_rfl) (by kernel_rfl) (by kernel_rfl) ⟨by simp [Held, go_sem, *], by (repeat (first | assumption | (with_reducible exact Below.refl _ _) | (with_reducible refine Below.drewN ?_ _) | (with_reducible refine Below.drew ?_) | (with_reducible refine Below.allocS ?_ _) | ((with_reducible refine Below.setCell ?_ ?_ _); rotate_left; focus (first | omega | (simp; done) | (simp; omega))) | (with_reducible refine Below.step ?_ (by assumption))))⟩ ?_
  repeat (first | (first | (refine calmV_plain hst rfl rfl ?_ (fun K hK w1 hC => ?_); (focus (intro _ _; simp [RVF]; done)); have hC' := hC.1; simp only [Held, and_true] at hC'; go_wp2_with (first | (refine wpList_fbin rfl rfl rfl rfl rfl (fun r n hr => ?_)) | (refine wpList_widen rfl rfl Try.underlying44 Try.underlying22 rfl (fun r n hr => ?_))); refine ⟨rfl, (by first | exact Below.refl _ _ | exact below_drewN _), hK _ ?_⟩; clear hC hC' hK K w1) | (refine calmV_check rfl rfl rfl ?_ ?_; (focus (intro _ _; simp [RVF]; done))) | (refine calmV_skip rfl ?_ ?_; (focus (intro _ _; simp [RVF]; done)); simp [Act.put])) | (refine calmV_call (f := 22) (args := _) hst rfl (by (intro w1; simp [execOp, resolve, invoke, go_sem]; with_reducible rfl)) (fun w1 hC hD => ?_) ?_; (focus (refine (toClocks_any v0 n0 v1 n1 l0 l1 _ ?_ ?_ (by omega) (by omega)).mono ?_; (focus (refine RowAt.below H0.out ?_; have hB9 := hC.2; (repeat (first | assumption | (with_reducible exact Below.refl _ _) | (with_reducible refine Below.drewN ?_ _) | (with_reducible refine Below.drew ?_) | (with_reducible refine Below.allocS ?_ _) | ((with_reducible refine Below.setCell ?_ ?_ _); rotate_left; focus (first | omega | (simp; done) | (simp; omega))) | (with_reducible refine Below.step ?_ (by assumption)))); done)); (focus (refine RowAt.below H1.out ?_; have hB9 := hC.2; (repeat (first | assumption | (with_reducible exact Below.refl _ _) | (with_reducible refine Below.drewN ?_ _) | (with_reducible refine Below.drew ?_) | (with_reducible refine Below.allocS ?_ _) | ((with_reducible refine Below.setCell ?_ ?_ _); rotate_left; focus (first | omega | (simp; done) | (simp; omega))) | (with_reducible refine Below.step ?_ (by assumption)))); done)); rintro e w2 ⟨g'0, g'1, rfl, o'0, o'1, o'ne0, hb2⟩; exact ⟨_, rfl, .inl ⟨rfl, _, _, rfl⟩, (by simp [RVF, Act.put, Act.eval]; exact ⟨_, _, ⟨rfl, rfl⟩, ownsRow_rowAt o'0, ownsRow_rowAt o'1⟩), hb2⟩)); (intro v hv; simp at hv; obtain ⟨s0, s1, rfl⟩ := hv)) | (refine calmV_call (f := 17) (args := _) hst rfl (by (intro w1; simp [execOp, resolve, invoke, go_sem]; with_reducible rfl)) (fun w1 hC hD => ?_) ?_; (focus (have hf := RVF_get (depV hD (ia := 2) (by kernel_rfl)) (List.mem_singleton.2 rfl); simp [Act.put, Act.eval] at hf; obtain ⟨t0, t1, ⟨rfl, rfl⟩, hf0, hf1⟩ := hf; refine (eqClocks_any _ _ n0 _ _ n1 l0 l0 l1 l1 _ ?_ ?_ rfl ?_ ?_ rfl).mono ?_; (focus (exact R0.out.below hC.2)); (focus (exact hf0)); (focus (exact R1.out.below hC.2)); (focus (exact hf1)); rintro e w2 ⟨rfl, hb2⟩; exact ⟨_, rfl, .inr ⟨rfl, rfl⟩, (by simp [RVF]), hb2⟩)); (intro v hv; simp at hv; subst hv)))
  refine calmV_nil ?_
  intro w' hC hF
  have hC' := hC.1
  simp only [Held, and_true] at hC'
  go_wp2_with fail
  go_ret
  refine ⟨rfl, ?_⟩
  have hB := hC.2
  (repeat (first | assumption | (with_reducible exact Below.refl _ _) | (with_reducible refine Below.drewN ?_ _) | (with_reducible refine Below.drew ?_) | (with_reducible refine Below.allocS ?_ _) | ((with_reducible refine Below.setCell ?_ ?_ _); rotate_left; focus (first | omega | (simp; done) | (simp; omega))) | (with_reducible refine Below.step ?_ (by assumption))))

set_option maxRecDepth 100000 in
set_option maxHeartbeats 8000000 in
theorem lawOrderOf_walk (v0 : Value) (n0 : Nat) (l0 : List Nat) (v1 : Value) (n1 : Nat) (l1 : List Nat) (w : World) (h0 : RowAt w v0 2 n0 (fl l0)) (h1 : RowAt w v1 1 n1 (fl l1)) (hb0 : ∀ x ∈ l0, x < 4294967296) (hb1 : ∀ x ∈ l1, x < 4294967296) : Calls Try.prog 12 #[.agg #[v0, v1]] w fun e w' => e = .returned (.bool true) ∧ Below w.heap.size w w' := by
  have H0 := Lib.hid h0
  have H1 := Lib.hid h1
  have HB0 := Lib.hid hb0
  clear hb0
  have HB1 := Lib.hid hb1
  clear hb1
  clear h0 h1
  go_enter Try.func12, Try.ntmps12
  go_wp2_with fail
  refine (szClocks_any v0 n0 (fl l0) v1 n1 (fl l1) (1048576) _ ?_ ?_ (by omega)).mono ?_
  · refine RowAt.below H0.out ?_
    (repeat (first | assumption | (with_reducible exact Below.refl _ _) | (with_reducible refine Below.drewN ?_ _) | (with_reducible refine Below.drew ?_) | (with_reducible refine Below.allocS ?_ _) | ((with_reducible refine Below.setCell ?_ ?_ _); rotate_left; focus (first | omega | (simp; done) | (simp; omega))) | (with_reducible refine Below.step ?_ (by assumption))))
  · refine RowAt.below H1.out ?_
    (repeat (first | assumption | (with_reducible exact Below.refl _ _) | (with_reducible refine Below.drewN ?_ _) | (with_reducible refine Below.drew ?_) | (with_reducible refine Below.allocS ?_ _) | ((with_reducible refine Below.setCell ?_ ?_ _); rotate_left; focus (first | omega | (simp; done) | (simp; omega))) | (with_reducible refine Below.step ?_ (by assumption))))
  rintro e ws0 ⟨rfl, hcs0⟩
  have hk := Held.below hcs0 (l := [(⟨w.heap.size, 0, none⟩, v0), (⟨w.heap.size, 1, none⟩, v1)]) (by simp [Held, go_sem, *])
  simp only [Held, and_true] at hk
  have hBs0 : Below w.heap.size w ws0 := by (repeat (first | assumption | (with_reducible exact Below.refl _ _) | (with_reducible refine Below.drewN ?_ _) | (with_reducible refine Below.drew ?_) | (with_reducible refine Below.allocS ?_ _) | ((with_reducible refine Below.setCell ?_ ?_ _); rotate_left; focus (first | omega | (simp; done) | (simp; omega))) | (with_reducible refine Below.step ?_ (by assumption))))
  clear hcs0
  by_cases hs0 : n0 + n1 ≤ 1048576
  case neg =>
    rw [if_neg hs0]
    go_wp2_with fail
    go_ret
    refine ⟨rfl, ?_⟩
    (repeat (first | assumption | (with_reducible exact Below.refl _ _) | (with_reducible refine Below.drewN ?_ _) | (with_reducible refine Below.drew ?_) | (with_reducible refine Below.allocS ?_ _) | ((with_reducible refine Below.setCell ?_ ?_ _); rotate_left; focus (first | omega | (simp; done) | (simp; omega))) | (with_reducible refine Below.step ?_ (by assumption))))
  rw [if_pos hs0]
  go_wp2_with fail
  refine (toClocks_any v0 n0 v1 n1 l0 l1 _ ?_ ?_ (by omega) (by omega)).mono ?_
  · refine RowAt.below H0.out ?_
    (repeat (first | assumption | (with_reducible exact Below.refl _ _) | (with_reducible refine Below.drewN ?_ _) | (with_reducible refine Below.drew ?_) | (with_reducible refine Below.allocS ?_ _) | ((with_reducible refine Below.setCell ?_ ?_ _); rotate_left; focus (first | omega | (simp; done) | (simp; omega))) | (with_reducible refine Below.step ?_ (by assumption))))
  · refine RowAt.below H1.out ?_
    (repeat (first | assumption | (with_reducible exact Below.refl _ _) | (with_reducible refine Below.drewN ?_ _) | (with_reducible refine Below.drew ?_) | (with_reducible refine Below.allocS ?_ _) | ((with_reducible refine Below.setCell ?_ ?_ _); rotate_left; focus (first | omega | (simp; done) | (simp; omega))) | (with_reducible refine Below.step ?_ (by assumption))))
  rintro e w1 ⟨g0, g1, rfl, o0, o1, one0, c1⟩
  have hk := Held.below c1 (l := [(⟨w.heap.size, 0, none⟩, v0), (⟨w.heap.size, 1, none⟩, v1)]) (by simp [Held, go_sem, *])
  simp only [Held, and_true] at hk
  have hBw1 : Below w.heap.size w w1 := by (repeat (first | assumption | (with_reducible exact Below.refl _ _) | (with_reducible refine Below.drewN ?_ _) | (with_reducible refine Below.drew ?_) | (with_reducible refine Below.allocS ?_ _) | ((with_reducible refine Below.setCell ?_ ?_ _); rotate_left; focus (first | omega | (simp; done) | (simp; omega))) | (with_reducible refine Below.step ?_ (by assumption))))
  go_wp2_with fail
  refine (specOrderOf_any _ _ n0 n1 l0 l1  _ (ownsRow_rowAt o0) (ownsRow_rowAt o1)).mono ?_
  rintro e w2 ⟨r0_0, r0_1, rfl, q0_0, q0_1, c2⟩
  have Hq0_0 := Lib.hid q0_0
  clear q0_0
  have Hq0_1 := Lib.hid q0_1
  clear q0_1
  have hk := Held.below c2 (l := [(⟨w.heap.size, 0, none⟩, v0), (⟨w.heap.size, 1, none⟩, v1)]) (by simp [Held, go_sem, *])
  simp only [Held, and_true] at hk
  have hBw2 : Below w.heap.size w w2 := by (repeat (first | assumption | (with_reducible exact Below.refl _ _) | (with_reducible refine Below.drewN ?_ _) | (with_reducible refine Below.drew ?_) | (with_reducible refine Below.allocS ?_ _) | ((with_reducible refine Below.setCell ?_ ?_ _); rotate_left; focus (first | omega | (simp; done) | (simp; omega))) | (with_reducible refine Below.step ?_ (by assumption))))
  clear o0 o1
  go_wp2_with fail
  refine (toClocks_any v0 n0 v1 n1 l0 l1 _ ?_ ?_ (by omega) (by omega)).mono ?_
  · refine RowAt.below H0.out ?_
    (repeat (first | assumption | (with_reducible exact Below.refl _ _) | (with_reducible refine Below.drewN ?_ _) | (with_reducible refine Below.drew ?_) | (with_reducible refine Below.allocS ?_ _) | ((with_reducible refine Below.setCell ?_ ?_ _); rotate_left; focus (first | omega | (simp; done) | (simp; omega))) | (with_reducible refine Below.step ?_ (by assumption))))
  · refine RowAt.below H1.out ?_
    (repeat (first | assumption | (with_reducible exact Below.refl _ _) | (with_reducible refine Below.drewN ?_ _) | (with_reducible refine Below.drew ?_) | (with_reducible refine Below.allocS ?_ _) | ((with_reducible refine Below.setCell ?_ ?_ _); rotate_left; focus (first | omega | (simp; done) | (simp; omega))) | (with_reducible refine Below.step ?_ (by assumption))))
  rintro e w3 ⟨g0, g1, rfl, o0, o1, one0, c3⟩
  have hk := Held.below c3 (l := [(⟨w.heap.size, 0, none⟩, v0), (⟨w.heap.size, 1, none⟩, v1)]) (by simp [Held, go_sem, *])
  simp only [Held, and_true] at hk
  have hBw3 : Below w.heap.size w w3 := by (repeat (first | assumption | (with_reducible exact Below.refl _ _) | (with_reducible refine Below.drewN ?_ _) | (with_reducible refine Below.drew ?_) | (with_reducible refine Below.allocS ?_ _) | ((with_reducible refine Below.setCell ?_ ?_ _); rotate_left; focus (first | omega | (simp; done) | (simp; omega))) | (with_reducible refine Below.step ?_ (by assumption))))
  have hb3 : ¬ w.heap.size = w3.heap.size := by omega
  go_wp2_with fail
  refine (implOrderOf_any _ _ n0 n1 l0 l1  _ ((ownsRow_rowAt o0).below (by (repeat (first | (with_reducible exact Below.refl _ _) | (with_reducible refine Below.drewN ?_ _) | (with_reducible refine Below.drew ?_) | (with_reducible refine Below.allocS ?_ _) | ((with_reducible refine Below.setCell ?_ ?_ _); rotate_left; focus (first | omega | (simp; done) | (simp; omega))))))) ((ownsRow_rowAt o1).below (by (repeat (first | (with_reducible exact Below.refl _ _) | (with_reducible refine Below.drewN ?_ _) | (with_reducible refine Below.drew ?_) | (with_reducible refine Below.allocS ?_ _) | ((with_reducible refine Below.setCell ?_ ?_ _); rotate_left; focus (first | omega | (simp; done) | (simp; omega)))))))).mono ?_
  rintro e w4 ⟨r1_0, r1_1, rfl, q1_0, q1_1, c4⟩
  have Hq1_0 := Lib.hid q1_0
  clear q1_0
  have Hq1_1 := Lib.hid q1_1
  clear q1_1
  have hk := Held.below c4 (l := [(⟨w.heap.size, 0, none⟩, v0), (⟨w.heap.size, 1, none⟩, v1), (⟨w3.heap.size, 0, none⟩, .slice (some ⟨g0, 0, none⟩) n0 n0), (⟨w3.heap.size, 1, none⟩, .slice (some ⟨g1, 0, none⟩) n1 n1)]) (by simp [Held, go_sem, *])
  simp only [Held, and_true] at hk
  have hBw4 : Below w.heap.size w w4 := by (repeat (first | assumption | (with_reducible exact Below.refl _ _) | (with_reducible refine Below.drewN ?_ _) | (with_reducible refine Below.drew ?_) | (with_reducible refine Below.allocS ?_ _) | ((with_reducible refine Below.setCell ?_ ?_ _); rotate_left; focus (first | omega | (simp; done) | (simp; omega))) | (with_reducible refine Below.step ?_ (by assumption))))
  have q4 : Below w3.heap.size w3 w4 := by
    refine Below.step ?_ c4
    (repeat (first | (with_reducible exact Below.refl _ _) | (with_reducible refine Below.drewN ?_ _) | (with_reducible refine Below.drew ?_) | (with_reducible refine Below.allocS ?_ _) | ((with_reducible refine Below.setCell ?_ ?_ _); rotate_left; focus (first | omega | (simp; done) | (simp; omega)))))
  have R0 := Lib.hid ((ownsRow_rowAt o0).below q4)
  have R1 := Lib.hid ((ownsRow_rowAt o1).below q4)
  clear o0 o1
  go_wp2_with (first | (refine wpList_widen rfl rfl Try.underlying44 Try.underlying22 rfl (fun r n9 hr => ?_)) | (refine wpList_widen_g rfl rfl Try.underlying44 Try.underlying22 rfl (fun r n9 hr => ?_)) | (go_at_call 28; refine (sameFloat_any _ _ _ (widen_same (Hid.out (by assumption)) (Hid.out (by assumption)) (Hq1_0.out.trans Hq0_0.out.symm))).mono ?_; rintro e w' ⟨n9, rfl, rfl⟩) | (go_at_call 28; refine (sameFloat_any _ _ _ (widen_same (Hid.out (by assumption)) (Hid.out (by assumption)) (Hq1_1.out.trans Hq0_1.out.symm))).mono ?_; rintro e w' ⟨n9, rfl, rfl⟩))
  have hst : stableV [(2, 52, (fun v w => ∃ s0 s1, v = .agg #[s0, s1] ∧ RowAt w s0 2 n0 (fl l0) ∧ RowAt w s1 1 n1 (fl l1)))] := by
    intro q hq
    obtain rfl := List.mem_singleton.1 hq
    intro v w w' hb hh
    obtain ⟨s0, s1, rfl, r0, r1⟩ := hh; exact ⟨s0, s1, rfl, r0.below hb, r1.below hb⟩
  refine region_calmV w4 [(⟨w.heap.size, 0, none⟩, v0), (⟨w.heap.size, 1, none⟩, v1), (⟨w3.heap.size, 0, none⟩, .slice (some ⟨g0, 0, none⟩) n0 n0), (⟨w3.heap.size, 1, none⟩, .slice (some ⟨g1, 0, none⟩) n1 n1)] (fun f _ v => (f = 22 ∧ ∃ s0 s1, v = .agg #[s0, s1]) ∨ (f = 17 ∧ v = .bool true)) [(2, 52, (fun v w => ∃ s0 s1, v = .agg #[s0, s1] ∧ RowAt w s0 2 n0 (fl l0) ∧ RowAt w s1 1 n1 (fl l1)))] (by kernel_rfl) (by kernel_rfl) (by kernel_rfl) ⟨by simp [Held, go_sem, *], by (repeat (first | assumption | (with_reducible exact Below.refl _ _) | (with_reducible refine Below.drewN ?_ _) | (with_reducible refine Below.drew ?_) | (with_reducible refine Below.allocS ?_ _) | ((with_reducible refine Below.setCell ?_ ?_ _); rotate_left; focus (first | omega | (simp; done) | (simp; omega))) | (with_reducible refine Below.step ?_ (by assumption))))⟩ ?_
  repeat (first | (first | (refine calmV_plain hst rfl rfl ?_ (fun K hK w1 hC => ?_); (focus (intro _ _; simp [RVF]; done)); have hC' := hC.1; simp only [Held, and_true] at hC'; go_wp2_with (first | (refine wpList_fbin rfl rfl rfl rfl rfl (fun r n hr => ?_)) | (refine wpList_widen rfl rfl Try.underlying44 Try.underlying22 rfl (fun r n hr => ?_))); refine ⟨rfl, (by first | exact Below.refl _ _ | exact below_drewN _), hK _ ?_⟩; clear hC hC' hK K w1) | (refine calmV_check rfl rfl rfl ?_ ?_; (focus (intro _ _; simp [RVF]; done))) | (refine calmV_skip rfl ?_ ?_; (focus (intro _ _; simp [RVF]; done)); simp [Act.put])) | (refine calmV_call (f := 22) (args := _) hst rfl (by (intro w1; simp [execOp, resolve, invoke, go_sem]; with_reducible rfl)) (fun w1 hC hD => ?_) ?_; (focus (refine (toClocks_any v0 n0 v1 n1 l0 l1 _ ?_ ?_ (by omega) (by omega)).mono ?_; (focus (refine RowAt.below H0.out ?_; have hB9 := hC.2; (repeat (first | assumption | (with_reducible exact Below.refl _ _) | (with_reducible refine Below.drewN ?_ _) | (with_reducible refine Below.drew ?_) | (with_reducible refine Below.allocS ?_ _) | ((with_reducible refine Below.setCell ?_ ?_ _); rotate_left; focus (first | omega | (simp; done) | (simp; omega))) | (with_reducible refine Below.step ?_ (by assumption)))); done)); (focus (refine RowAt.below H1.out ?_; have hB9 := hC.2; (repeat (first | assumption | (with_reducible exact Below.refl _ _) | (with_reducible refine Below.drewN ?_ _) | (with_reducible refine Below.drew ?_) | (with_reducible refine Below.allocS ?_ _) | ((with_reducible refine Below.setCell ?_ ?_ _); rotate_left; focus (first | omega | (simp; done) | (simp; omega))) | (with_reducible refine Below.step ?_ (by assumption)))); done)); rintro e w2 ⟨g'0, g'1, rfl, o'0, o'1, o'ne0, hb2⟩; exact ⟨_, rfl, .inl ⟨rfl, _, _, rfl⟩, (by simp [RVF, Act.put, Act.eval]; exact ⟨_, _, ⟨rfl, rfl⟩, ownsRow_rowAt o'0, ownsRow_rowAt o'1⟩), hb2⟩)); (intro v hv; simp at hv; obtain ⟨s0, s1, rfl⟩ := hv)) | (refine calmV_call (f := 17) (args := _) hst rfl (by (intro w1; simp [execOp, resolve, invoke, go_sem]; with_reducible rfl)) (fun w1 hC hD => ?_) ?_; (focus (have hf := RVF_get (depV hD (ia := 2) (by kernel_rfl)) (List.mem_singleton.2 rfl); simp [Act.put, Act.eval] at hf; obtain ⟨t0, t1, ⟨rfl, rfl⟩, hf0, hf1⟩ := hf; refine (eqClocks_any _ _ n0 _ _ n1 l0 l0 l1 l1 _ ?_ ?_ rfl ?_ ?_ rfl).mono ?_; (focus (exact R0.out.below hC.2)); (focus (exact hf0)); (focus (exact R1.out.below hC.2)); (focus (exact hf1)); rintro e w2 ⟨rfl, hb2⟩; exact ⟨_, rfl, .inr ⟨rfl, rfl⟩, (by simp [RVF]), hb2⟩)); (intro v hv; simp at hv; subst hv)))
  refine calmV_nil ?_
  intro w' hC hF
  have hC' := hC.1
  simp only [Held, and_true] at hC'
  go_wp2_with fail
  go_ret
  refine ⟨rfl, ?_⟩
  have hB := hC.2
  (repeat (first | assumption | (with_reducible exact Below.refl _ _) | (with_reducible refine Below.drewN ?_ _) | (with_reducible refine Below.drew ?_) | (with_reducible refine Below.allocS ?_ _) | ((with_reducible refine Below.setCell ?_ ?_ _); rotate_left; focus (first | omega | (simp; done) | (simp; omega))) | (with_reducible refine Below.step ?_ (by assumption))))

end Go.Proofs.Ytifdcoambehekaa
