/-
  The walks of clocks' order.
-/
import Derived.Test.YtbmabpnolheghaaTc
import Derived.Test.YtbmabpnolheghaaWz
set_option linter.unusedVariables false
set_option linter.unusedSimpArgs false
namespace Go.Proofs.Ytbmabpnolheghaa
open Go.RowKit

/-- The sums over the first 'k' clocks. -/
def sumX (l : List Nat) : Nat → Nat
  | 0 => 0
  | k + 1 => fbin .add .f32 (sumX l k) (sineQ (fbin .add .f32 (cn .f32 (l.getD (k * 2) 0)) 1048576000))
def sumY (l : List Nat) : Nat → Nat
  | 0 => 0
  | k + 1 => fbin .add .f32 (sumY l k) (sineQ (cn .f32 (l.getD (k * 2) 0)))
def nF (n : Nat) : Nat := cn .f32 (floatOfInt .f32 (n : Int))
def ordX (n : Nat) (l : List Nat) : Nat := fbin .quo .f32 (sumX l n) (nF n)
def ordY (n : Nat) (l : List Nat) : Nat := fbin .quo .f32 (sumY l n) (nF n)
def ordR (n : Nat) (l : List Nat) : Nat := rootQ (fbin .add .f32 (fbin .mul .f32 (ordX n l) (ordX n l)) (fbin .mul .f32 (ordY n l) (ordY n l)))
def ordA (n : Nat) (l : List Nat) : Nat := angleQ (ordY n l) (ordX n l)
theorem cn_q : cn .f32 1048576000 = 1048576000 := by decide +kernel
/-- Two floats. -/
def PO (X Y : Nat) (w : World) (e : Ending) (w' : World) : Prop := ∃ r s, e = .returned (.tuple #[.float .f32 r, .float .f32 s]) ∧ cn .f32 r = X ∧ cn .f32 s = Y ∧ Below w.heap.size w w'
def PO3 (X Y : Nat) (b : Bool) (w : World) (e : Ending) (w' : World) : Prop := ∃ r s, e = .returned (.tuple #[.float .f32 r, .float .f32 s, .bool b]) ∧ cn .f32 r = X ∧ cn .f32 s = Y ∧ Below w.heap.size w w'

set_option maxRecDepth 100000 in
set_option maxHeartbeats 8000000 in
theorem l05Order_any (v v' : Value) (n : Nat) (l : List Nat) (p : Nat) (w : World) (h : RowAt w v 2 n (fl l)) (hp : Held [(⟨p, 0, none⟩, v), (⟨p, 1, none⟩, v')] w) (hn0 : 0 < n) (hn : n ≤ 12) : Calls Try.prog 104 #[.pointer (some ⟨p, 0, none⟩)] w (PO (ordR n l) (ordA n l) w) := by
  obtain ⟨h1, h2, ao, cap, rfl, h3⟩ := h
  obtain ⟨b, o, rfl, hbl, hcell⟩ := h3.resolve_left (by omega)
  clear h3
  rw [fl_length] at h1
  have HC := Lib.hid hcell
  clear hcell
  have HL : Hid (l.length = n * 2) := h1
  clear h1 h2
  have HP := Lib.hid hp
  simp only [Held, and_true] at hp
  go_enter Try.func104, Try.ntmps104
  go_wp2_with fail
  go_loopw [19, 5, 6] (fun jv xv yv wr => ∃ k : Nat, k ≤ n ∧ jv = .int .i64 (k : Int) ∧ ∃ sx sy, xv = .float .f32 sx ∧ yv = .float .f32 sy ∧ cn .f32 sx = sumX l k ∧ cn .f32 sy = sumY l k ∧ Below w.heap.size w wr) (fun jv xv yv _ => n - (intOf jv).toNat)
  case atStart => exact ⟨0, Nat.zero_le _, rfl, 0, 0, rfl, rfl, cn_zero, cn_zero, by (repeat (first | assumption | (with_reducible exact Below.refl _ _) | (with_reducible refine Below.drewN ?_ _) | (with_reducible refine Below.drew ?_) | (with_reducible refine Below.allocS ?_ _) | ((with_reducible refine Below.setCell ?_ ?_ _); rotate_left; focus (first | omega | (simp; done) | (simp; omega))) | (with_reducible refine Below.step ?_ (by assumption))))⟩
  case round =>
    obtain ⟨k, hk, rfl, sx, sy, rfl, rfl, hsx, hsy, hB⟩ := hrel
    have HX := Lib.hid hsx
    have HY := Lib.hid hsy
    clear hsx hsy
    have hk2 := Held.below hB HP.out
    simp only [Held, and_true] at hk2
    by_cases hlt : k < n
    · have d1 : decide ((k : Int) < (n : Int)) = true := decide_eq_true (by omega)
      obtain ⟨x0, hx0⟩ : ∃ x, Hid (l.getD (k * 2) 0 = x) := ⟨_, rfl⟩
      obtain ⟨x0', hx0'⟩ : ∃ x, Hid (l.getD (k * 2 + 1) 0 = x) := ⟨_, rfl⟩
      have f0 := HC.out (k * 2) (.float .f32 x0) (by rw [← hx0.out]; exact fl_get (by rw [HL.out]; omega))
      have f0' := HC.out (k * 2 + 1) (.float .f32 x0') (by rw [← hx0'.out]; exact fl_get (by rw [HL.out]; omega))
      simp only [← Nat.add_assoc] at f0'
      have hc := Held.below hB (l := [(⟨b, o + k * 2, none⟩, .float .f32 x0), (⟨b, o + k * 2 + 1, none⟩, .float .f32 x0')]) ⟨⟨hbl, f0⟩, ⟨hbl, f0'⟩, trivial⟩
      simp only [Held, and_true] at hc
      clear f0 f0'
      go_wp2_with (first | (refine wpList_fbin rfl rfl rfl rfl rfl (fun r n9 hr => ?_)) | (go_at_call 146; refine (l01Sine_any _ _).mono ?_; rintro e w3 ⟨rr, m1, rfl, hq, rfl⟩; have HR := Lib.hid hq; clear hq))
      go_roundw
      case rel =>
        refine ⟨k + 1, hlt, by go_num, _, _, rfl, rfl, ?_, ?_, by (repeat (first | assumption | (with_reducible exact Below.refl _ _) | (with_reducible refine Below.drewN ?_ _) | (with_reducible refine Below.drew ?_) | (with_reducible refine Below.allocS ?_ _) | ((with_reducible refine Below.setCell ?_ ?_ _); rotate_left; focus (first | omega | (simp; done) | (simp; omega))) | (with_reducible refine Below.step ?_ (by assumption))))⟩
        · show _ = fbin .add .f32 (sumX l k) (sineQ (fbin .add .f32 (cn .f32 (l.getD (k * 2) 0)) 1048576000))
          rw [hx0.out]
          simp only [Hid] at *
          simp only [*, cn_q]
        · show _ = fbin .add .f32 (sumY l k) (sineQ (cn .f32 (l.getD (k * 2) 0)))
          rw [hx0.out]
          simp only [Hid] at *
          simp only [*]
      case measure => simp [intOf]; omega
    · obtain rfl : k = n := by omega
      have d1 : decide ((k : Int) < (k : Int)) = false := decide_eq_false (by omega)
      go_wp2_with (first | (refine wpList_fbin rfl rfl rfl rfl rfl (fun r n9 hr => ?_)) | (go_at_call 147; refine (l01Sqrt_any _ _).mono ?_; rintro e w3 ⟨rr, m1, rfl, hq, rfl⟩; have HR := Lib.hid hq; clear hq) | (go_at_call 148; refine (l01Angle_any _ _ _).mono ?_; rintro e w4 ⟨ra, m2, rfl, hq, rfl⟩; have HA := Lib.hid hq; clear hq))
      go_ret2
      refine ⟨_, _, rfl, ?_, ?_, by (repeat (first | assumption | (with_reducible exact Below.refl _ _) | (with_reducible refine Below.drewN ?_ _) | (with_reducible refine Below.drew ?_) | (with_reducible refine Below.allocS ?_ _) | ((with_reducible refine Below.setCell ?_ ?_ _); rotate_left; focus (first | omega | (simp; done) | (simp; omega))) | (with_reducible refine Below.step ?_ (by assumption))))⟩
      · unfold ordR ordX ordY nF
        simp only [Hid] at *
        simp only [*]
      · unfold ordA ordX ordY nF
        simp only [Hid] at *
        simp only [*]

set_option maxRecDepth 100000 in
set_option maxHeartbeats 8000000 in
theorem orderC_any (v v' : Value) (n : Nat) (l : List Nat) (p : Nat) (w : World) (h : RowAt w v 2 n (fl l)) (hp : Held [(⟨p, 0, none⟩, v), (⟨p, 1, none⟩, v')] w) (hn0 : 0 < n) (hn : n ≤ 12) : Calls Try.prog 108 #[.pointer (some ⟨p, 0, none⟩)] w (PO (ordR n l) (ordA n l) w) := by
  obtain ⟨h1, h2, ao, cap, rfl, h3⟩ := h
  obtain ⟨b, o, rfl, hbl, hcell⟩ := h3.resolve_left (by omega)
  clear h3
  rw [fl_length] at h1
  have HC := Lib.hid hcell
  clear hcell
  have HL : Hid (l.length = n * 2) := h1
  clear h1 h2
  have HP := Lib.hid hp
  simp only [Held, and_true] at hp
  go_enter Try.func108, Try.ntmps108
  go_wp2_with fail
  have hst : stableV [] := by intro q hq; cases hq
  refine region_calmV w [(⟨p, 0, none⟩, .slice (some ⟨b, o, none⟩) n cap), (⟨p, 1, none⟩, v')] (fun _ _ _ => False) [] (by kernel_rfl) (by kernel_rfl) (by kernel_rfl) ⟨by simp [Held, go_sem, *], by (repeat (first | assumption | (with_reducible exact Below.refl _ _) | (with_reducible refine Below.drewN ?_ _) | (with_reducible refine Below.drew ?_) | (with_reducible refine Below.allocS ?_ _) | ((with_reducible refine Below.setCell ?_ ?_ _); rotate_left; focus (first | omega | (simp; done) | (simp; omega))) | (with_reducible refine Below.step ?_ (by assumption))))⟩ ?_
  repeat (first | (first | (refine calmV_plain hst rfl rfl ?_ (fun K hK w1 hC => ?_); (focus (intro _ _; simp [RVF]; done)); have hC' := hC.1; simp only [Held, and_true] at hC'; go_wp2_with (first | (refine wpList_fbin rfl rfl rfl rfl rfl (fun r n9 hr => ?_)) | (refine wpList_widen rfl rfl Try.underlying85 Try.underlying23 rfl (fun r n9 hr => ?_))); refine ⟨rfl, (by first | exact Below.refl _ _ | exact below_drewN _), hK _ ?_⟩; clear hC hC' hK K w1) | (refine calmV_check rfl rfl rfl ?_ ?_; (focus (intro _ _; simp [RVF]; done))) | (refine calmV_skip rfl ?_ ?_; (focus (intro _ _; simp [RVF]; done)); simp [Act.put])) | (refine calmV_op (Tv := fun v => v = .int .i64 (n : Int)) hst rfl (fun w1 hC => ⟨_, w1, ?_, rfl, ?_, Below.refl _ _⟩) ?_; (focus (simp [execOp, go_sem]; done)); (focus (simp [RVF]; done)); rintro v rfl))
  refine calmV_nil ?_
  intro w1 hC hF
  have hB1 : Below w.heap.size w w1 := hC.2
  have hC' := hC.1
  simp only [Held, and_true] at hC'
  clear hC hF hst
  go_wp2_with fail
  go_loopw [20, 4, 5] (fun jv xv yv wr => ∃ k : Nat, k ≤ n ∧ jv = .int .i64 (k : Int) ∧ ∃ sx sy, xv = .float .f32 sx ∧ yv = .float .f32 sy ∧ cn .f32 sx = sumX l k ∧ cn .f32 sy = sumY l k ∧ Below w.heap.size w wr) (fun jv xv yv _ => n - (intOf jv).toNat)
  case atStart => exact ⟨0, Nat.zero_le _, rfl, 0, 0, rfl, rfl, cn_zero, cn_zero, by (repeat (first | assumption | (with_reducible exact Below.refl _ _) | (with_reducible refine Below.drewN ?_ _) | (with_reducible refine Below.drew ?_) | (with_reducible refine Below.allocS ?_ _) | ((with_reducible refine Below.setCell ?_ ?_ _); rotate_left; focus (first | omega | (simp; done) | (simp; omega))) | (with_reducible refine Below.step ?_ (by assumption))))⟩
  case round =>
    obtain ⟨k, hk, rfl, sx, sy, rfl, rfl, hsx, hsy, hB⟩ := hrel
    have HX := Lib.hid hsx
    have HY := Lib.hid hsy
    clear hsx hsy
    have hk2 := Held.below hB HP.out
    simp only [Held, and_true] at hk2
    by_cases hlt : k < n
    · have d1 : decide ((k : Int) < (n : Int)) = true := decide_eq_true (by omega)
      obtain ⟨x0, hx0⟩ : ∃ x, Hid (l.getD (k * 2) 0 = x) := ⟨_, rfl⟩
      obtain ⟨x0', hx0'⟩ : ∃ x, Hid (l.getD (k * 2 + 1) 0 = x) := ⟨_, rfl⟩
      have f0 := HC.out (k * 2) (.float .f32 x0) (by rw [← hx0.out]; exact fl_get (by rw [HL.out]; omega))
      have f0' := HC.out (k * 2 + 1) (.float .f32 x0') (by rw [← hx0'.out]; exact fl_get (by rw [HL.out]; omega))
      simp only [← Nat.add_assoc] at f0'
      have hc := Held.below hB (l := [(⟨b, o + k * 2, none⟩, .float .f32 x0), (⟨b, o + k * 2 + 1, none⟩, .float .f32 x0')]) ⟨⟨hbl, f0⟩, ⟨hbl, f0'⟩, trivial⟩
      simp only [Held, and_true] at hc
      clear f0 f0'
      go_wp2_with (first | (refine wpList_fbin rfl rfl rfl rfl rfl (fun r n9 hr => ?_)) | (go_at_call 154; refine (SineTurns_any _ _).mono ?_; rintro e w3 ⟨rr, m1, rfl, hq, rfl⟩; have HR := Lib.hid hq; clear hq))
      go_roundw
      case rel =>
        refine ⟨k + 1, hlt, by go_num, _, _, rfl, rfl, ?_, ?_, by (repeat (first | assumption | (with_reducible exact Below.refl _ _) | (with_reducible refine Below.drewN ?_ _) | (with_reducible refine Below.drew ?_) | (with_reducible refine Below.allocS ?_ _) | ((with_reducible refine Below.setCell ?_ ?_ _); rotate_left; focus (first | omega | (simp; done) | (simp; omega))) | (with_reducible refine Below.step ?_ (by assumption))))⟩
        · show _ = fbin .add .f32 (sumX l k) (sineQ (fbin .add .f32 (cn .f32 (l.getD (k * 2) 0)) 1048576000))
          rw [hx0.out]
          simp only [Hid] at *
          simp only [*, cn_q]
        · show _ = fbin .add .f32 (sumY l k) (sineQ (cn .f32 (l.getD (k * 2) 0)))
          rw [hx0.out]
          simp only [Hid] at *
          simp only [*]
      case measure => simp [intOf]; omega
    · obtain rfl : k = n := by omega
      have d1 : decide ((k : Int) < (k : Int)) = false := decide_eq_false (by omega)
      go_wp2_with (first | (refine wpList_fbin rfl rfl rfl rfl rfl (fun r n9 hr => ?_)) | (go_at_call 142; refine (RootNumber_any _ _).mono ?_; rintro e w3 ⟨rr, m1, rfl, hq, rfl⟩; have HR := Lib.hid hq; clear hq) | (go_at_call 155; refine (AngleTurns_any _ _ _).mono ?_; rintro e w4 ⟨ra, rfl, hq, hb4⟩; have HA := Lib.hid hq; clear hq))
      go_ret2
      refine ⟨_, _, rfl, ?_, ?_, by (repeat (first | assumption | (with_reducible exact Below.refl _ _) | (with_reducible refine Below.drewN ?_ _) | (with_reducible refine Below.drew ?_) | (with_reducible refine Below.allocS ?_ _) | ((with_reducible refine Below.setCell ?_ ?_ _); rotate_left; focus (first | omega | (simp; done) | (simp; omega))) | (with_reducible refine Below.step ?_ (by assumption))))⟩
      · unfold ordR ordX ordY nF
        simp only [Hid] at *
        simp only [*]
      · unfold ordA ordX ordY nF
        simp only [Hid] at *
        simp only [*]





end Go.Proofs.Ytbmabpnolheghaa
