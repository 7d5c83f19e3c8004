/-
  The walks of wide periods.
-/
import Derived.Test.YtjfmcmdhkmcpiaaWx
set_option linter.unusedVariables false
set_option linter.unusedSimpArgs false
namespace Go.Proofs.Ytjfmcmdhkmcpiaa
open Go.RowKit

/-- From the least to the greatest. -/
def inB (n lo hi : Int) : Bool := decide (lo ≤ n) && decide (n ≤ hi)

theorem l00In_any (n lo hi : Int) (w : World) : Calls Try.prog 100 #[.int .i64 n, .int .i64 lo, .int .i64 hi] w fun e w' => e = .returned (.bool (inB n lo hi)) ∧ w' = w := by
  cases h1 : decide (lo ≤ n) <;> cases h2 : decide (n ≤ hi)
  all_goals
    go_enter Try.func100, Try.ntmps100
    go_wp2
    go_ret
    exact ⟨ret_bool (by unfold inB; simp_all), rfl⟩

theorem in_any (n lo hi : Int) (w : World) : Calls Try.prog 90 #[.int .i64 n, .int .i64 lo, .int .i64 hi] w fun e w' => e = .returned (.bool (inB n lo hi)) ∧ w' = w := by
  cases h1 : decide (lo ≤ n) <;> cases h2 : decide (n ≤ hi)
  all_goals
    go_enter Try.func90, Try.ntmps90
    go_wp2
    go_ret
    exact ⟨ret_bool (by unfold inB; simp_all), rfl⟩

/-- Both means, after some rounds. -/
def meanAB (b0 : Nat) : Nat → Nat × Nat
  | 0 => (1065353216, b0)
  | j + 1 => (fbin .mul .f32 1056964608 (fbin .add .f32 (meanAB b0 j).1 (meanAB b0 j).2), rootQ (fbin .mul .f32 (meanAB b0 j).1 (meanAB b0 j).2))
def wideB0 (t : Nat) : Nat := sineQ (fbin .add .f32 (fbin .mul .f32 1056964608 (cn .f32 t)) 1048576000)
def wideQ (x0 x1 t n : Nat) : Nat := fbin .quo .f32 (periodQ x0 x1) (meanAB (wideB0 t) n).1
def halfB (t : Nat) : Bool := gtF .f32 t 3204448256 && ltF .f32 t 1056964608
theorem cn_half : cn .f32 1056964608 = 1056964608 := by decide +kernel
theorem cn_two : cn .f32 1073741824 = 1073741824 := by decide +kernel
theorem cn_quarter : cn .f32 1048576000 = 1048576000 := by decide +kernel
theorem cn_one : cn .f32 1065353216 = 1065353216 := by decide +kernel

theorem quo_fin_left {x y : Nat} (h : finB .f32 (fbin .quo .f32 x y) = true) : finB .f32 x = true := by
  unfold fbin floatBits Ieee.Format.div at h
  have h' : finB .f32 ((((FloatKind.f32.decode x).quotient (FloatKind.f32.format.fractionBits + 2) (FloatKind.f32.decode y)).map FloatKind.f32.format.write).getD (nanOf .f32)) = true := h
  have hnan : finB .f32 (nanOf .f32) = false := by decide +kernel
  have hinf : ∀ s, finB .f32 (FloatKind.f32.format.write (.infinity s)) = false := fun s => by cases s <;> decide +kernel
  unfold finB finD
  cases hx : FloatKind.f32.decode x with
  | number s m p => rfl
  | nan s t => rw [hx, quotient_nan_left rfl] at h'; simp [hnan] at h'
  | infinity s =>
    rw [hx] at h'
    cases hy : FloatKind.f32.decode y with
    | number t n q => rw [hy] at h'; simp [Ieee.Datum.quotient, hinf] at h'
    | infinity t => rw [hy] at h'; simp [Ieee.Datum.quotient, hnan] at h'
    | nan t q => rw [hy, quotient_nan_right rfl] at h'; simp [hnan] at h'

set_option maxRecDepth 100000 in
set_option maxHeartbeats 8000000 in
theorem specWidePeriod_any (x0 x1 x2 x3 x4 t : Nat) (n : Int) (w : World) : Calls Try.prog 46 #[.agg #[.float .f32 x0, .float .f32 x1, .float .f32 x2, .float .f32 x3, .float .f32 x4], .float .f32 t, .int .i64 n] w (PF (condF ((pendB x0 x1 x2 x3 x4 && halfB t && inB n 0 16) && finB .f32 (wideQ x0 x1 t n.toNat)) (wideQ x0 x1 t n.toNat)) ((pendB x0 x1 x2 x3 x4 && halfB t && inB n 0 16) && finB .f32 (wideQ x0 x1 t n.toNat)) w) := by
  cases h1 : pendB x0 x1 x2 x3 x4
  · go_enter Try.func46, Try.ntmps46
    go_wp2_with (first | (go_at_call 55; refine (l02Is_any x0 x1 x2 x3 x4 _ _ ?_ ?_ ?_ ?_ ?_).mono ?_; (focus (simp [go_sem]; done)); (focus (simp [go_sem]; done)); (focus (simp [go_sem]; done)); (focus (simp [go_sem]; done)); (focus (simp [go_sem]; done)); rintro e w' ⟨n, rfl, rfl⟩))
    go_ret2
    ((refine pf_none (by simp) ?_); (repeat (first | assumption | (with_reducible exact Below.refl _ _) | (with_reducible refine Below.drewN ?_ _) | (with_reducible refine Below.drew ?_) | (with_reducible refine Below.allocS ?_ _) | ((with_reducible refine Below.setCell ?_ ?_ _); rotate_left; focus (first | omega | (simp; done) | (simp; omega))) | (with_reducible refine Below.step ?_ (by assumption)))); done)
  cases h2 : gtF .f32 t 3204448256
  · go_enter Try.func46, Try.ntmps46
    go_wp2_with (first | (go_at_call 55; refine (l02Is_any x0 x1 x2 x3 x4 _ _ ?_ ?_ ?_ ?_ ?_).mono ?_; (focus (simp [go_sem]; done)); (focus (simp [go_sem]; done)); (focus (simp [go_sem]; done)); (focus (simp [go_sem]; done)); (focus (simp [go_sem]; done)); rintro e w' ⟨n, rfl, rfl⟩))
    go_ret2
    ((refine pf_none (by simp [halfB, h2]) ?_); (repeat (first | assumption | (with_reducible exact Below.refl _ _) | (with_reducible refine Below.drewN ?_ _) | (with_reducible refine Below.drew ?_) | (with_reducible refine Below.allocS ?_ _) | ((with_reducible refine Below.setCell ?_ ?_ _); rotate_left; focus (first | omega | (simp; done) | (simp; omega))) | (with_reducible refine Below.step ?_ (by assumption)))); done)
  cases h3 : ltF .f32 t 1056964608
  · go_enter Try.func46, Try.ntmps46
    go_wp2_with (first | (go_at_call 55; refine (l02Is_any x0 x1 x2 x3 x4 _ _ ?_ ?_ ?_ ?_ ?_).mono ?_; (focus (simp [go_sem]; done)); (focus (simp [go_sem]; done)); (focus (simp [go_sem]; done)); (focus (simp [go_sem]; done)); (focus (simp [go_sem]; done)); rintro e w' ⟨n, rfl, rfl⟩))
    go_ret2
    ((refine pf_none (by simp [halfB, h3]) ?_); (repeat (first | assumption | (with_reducible exact Below.refl _ _) | (with_reducible refine Below.drewN ?_ _) | (with_reducible refine Below.drew ?_) | (with_reducible refine Below.allocS ?_ _) | ((with_reducible refine Below.setCell ?_ ?_ _); rotate_left; focus (first | omega | (simp; done) | (simp; omega))) | (with_reducible refine Below.step ?_ (by assumption)))); done)
  cases h4 : inB n 0 16
  · go_enter Try.func46, Try.ntmps46
    go_wp2_with (first | (go_at_call 55; refine (l02Is_any x0 x1 x2 x3 x4 _ _ ?_ ?_ ?_ ?_ ?_).mono ?_; (focus (simp [go_sem]; done)); (focus (simp [go_sem]; done)); (focus (simp [go_sem]; done)); (focus (simp [go_sem]; done)); (focus (simp [go_sem]; done)); rintro e w' ⟨n, rfl, rfl⟩) | (go_at_call 100; refine (l00In_any _ _ _ _).mono ?_; rintro e w' ⟨rfl, rfl⟩))
    go_ret2
    ((refine pf_none (by simp) ?_); (repeat (first | assumption | (with_reducible exact Below.refl _ _) | (with_reducible refine Below.drewN ?_ _) | (with_reducible refine Below.drew ?_) | (with_reducible refine Below.allocS ?_ _) | ((with_reducible refine Below.setCell ?_ ?_ _); rotate_left; focus (first | omega | (simp; done) | (simp; omega))) | (with_reducible refine Below.step ?_ (by assumption)))); done)
  obtain ⟨N, rfl⟩ : ∃ N : Nat, n = (N : Int) := ⟨n.toNat, by unfold inB at h4; simp at h4; omega⟩
  have hN : N ≤ 16 := by unfold inB at h4; simp at h4; omega
  have hBB : halfB t = true := by unfold halfB; rw [h2, h3]; rfl
  have HBB := Lib.hid hBB
  clear hBB
  simp only [Int.toNat_natCast]
  go_enter Try.func46, Try.ntmps46
  go_wp2_with (first | (refine wpList_fbin rfl rfl rfl rfl rfl (fun r n hr => ?_)) | (go_at_call 55; refine (l02Is_any x0 x1 x2 x3 x4 _ _ ?_ ?_ ?_ ?_ ?_).mono ?_; (focus (simp [go_sem]; done)); (focus (simp [go_sem]; done)); (focus (simp [go_sem]; done)); (focus (simp [go_sem]; done)); (focus (simp [go_sem]; done)); rintro e w' ⟨n, rfl, rfl⟩) | (go_at_call 100; refine (l00In_any _ _ _ _).mono ?_; rintro e w' ⟨rfl, rfl⟩) | (go_at_call 66; refine (l01Sine_any _ _).mono ?_; rintro e w3 ⟨rb, m1, rfl, hq, rfl⟩; have HB := Lib.hid hq; clear hq))
  go_loopw [8, 9, 10] (fun a b k wr => ∃ j : Nat, j ≤ N ∧ k = .int .i64 (j : Int) ∧ ∃ ra rb, a = .float .f32 ra ∧ b = .float .f32 rb ∧ cn .f32 ra = (meanAB (wideB0 t) j).1 ∧ cn .f32 rb = (meanAB (wideB0 t) j).2 ∧ Held [(⟨w.heap.size, 0, none⟩, .float .f32 x0), (⟨w.heap.size, 1, none⟩, .float .f32 x1), (⟨w.heap.size, 2, none⟩, .float .f32 x2), (⟨w.heap.size, 3, none⟩, .float .f32 x3), (⟨w.heap.size, 4, none⟩, .float .f32 x4)] wr ∧ Below w.heap.size w wr) (fun _ _ k _ => N - (intOf k).toNat)
  case atStart =>
    refine ⟨0, Nat.zero_le _, rfl, _, _, rfl, rfl, cn_one, ?_, by simp [Held, go_sem], by (repeat (first | assumption | (with_reducible exact Below.refl _ _) | (with_reducible refine Below.drewN ?_ _) | (with_reducible refine Below.drew ?_) | (with_reducible refine Below.allocS ?_ _) | ((with_reducible refine Below.setCell ?_ ?_ _); rotate_left; focus (first | omega | (simp; done) | (simp; omega))) | (with_reducible refine Below.step ?_ (by assumption))))⟩
    show _ = wideB0 t
    unfold wideB0
    simp only [Hid] at *
    simp only [*, cn_half, cn_quarter]
  case round =>
    obtain ⟨j, hj, rfl, ra, rb', rfl, rfl, ha, hb, hH, hBel⟩ := hrel
    have HA := Lib.hid ha
    have HB2 := Lib.hid hb
    have HH := Lib.hid hH
    clear ha hb hH
    by_cases hlt : j < N
    · have d1 : decide ((j : Int) < (N : Int)) = true := decide_eq_true (by omega)
      go_wp2_with (first | (refine wpList_fbin rfl rfl rfl rfl rfl (fun r n hr => ?_)) | (go_at_call 79; refine (l01Sqrt_any _ _).mono ?_; rintro e w3 ⟨rr, m1, rfl, hq, rfl⟩; have HR := Lib.hid hq; clear hq))
      go_roundw
      case rel =>
        refine ⟨j + 1, hlt, by go_num, _, _, rfl, rfl, ?_, ?_, (by refine Held.below ?_ HH.out; (repeat (first | assumption | (with_reducible exact Below.refl _ _) | (with_reducible refine Below.drewN ?_ _) | (with_reducible refine Below.drew ?_) | (with_reducible refine Below.allocS ?_ _) | ((with_reducible refine Below.setCell ?_ ?_ _); rotate_left; focus (first | omega | (simp; done) | (simp; omega))) | (with_reducible refine Below.step ?_ (by assumption))))), by (repeat (first | assumption | (with_reducible exact Below.refl _ _) | (with_reducible refine Below.drewN ?_ _) | (with_reducible refine Below.drew ?_) | (with_reducible refine Below.allocS ?_ _) | ((with_reducible refine Below.setCell ?_ ?_ _); rotate_left; focus (first | omega | (simp; done) | (simp; omega))) | (with_reducible refine Below.step ?_ (by assumption))))⟩
        · unfold meanAB
          simp only [Hid] at *
          simp only [*, cn_half]
        · unfold meanAB
          simp only [Hid] at *
          simp only [*]
      case measure => simp [intOf]; omega
    · obtain rfl : j = N := by omega
      have d1 : decide ((j : Int) < (j : Int)) = false := decide_eq_false (by omega)
      go_wp2_with (first | (refine wpList_fbin rfl rfl rfl rfl rfl (fun r n hr => ?_)) | (go_at_call 101; refine (l02Small_any x0 x1 x2 x3 x4 _ _ HH.out).mono ?_; rintro e w4 ⟨rs, rfl, hq, hb⟩; have HS := Lib.hid hq; clear hq) | (go_at_call 57; refine (l02Number_any _ _).mono ?_; rintro e w5 ⟨m2, rfl, rfl⟩))
      go_ret2
      refine pf_told (Q := wideQ x0 x1 t j) ?_ (by rw [HBB.out]; simp) ?_
      · unfold wideQ
        simp only [Hid] at *
        simp only [*]
      · (repeat (first | assumption | (with_reducible exact Below.refl _ _) | (with_reducible refine Below.drewN ?_ _) | (with_reducible refine Below.drew ?_) | (with_reducible refine Below.allocS ?_ _) | ((with_reducible refine Below.setCell ?_ ?_ _); rotate_left; focus (first | omega | (simp; done) | (simp; omega))) | (with_reducible refine Below.step ?_ (by assumption))))

set_option maxRecDepth 100000 in
set_option maxHeartbeats 8000000 in
theorem implWidePeriod_any (x0 x1 x2 x3 x4 t : Nat) (n : Int) (w : World) : Calls Try.prog 47 #[.agg #[.float .f32 x0, .float .f32 x1, .float .f32 x2, .float .f32 x3, .float .f32 x4], .float .f32 t, .int .i64 n] w (PF (condF ((pendB x0 x1 x2 x3 x4 && halfB t && inB n 0 16) && finB .f32 (wideQ x0 x1 t n.toNat)) (wideQ x0 x1 t n.toNat)) ((pendB x0 x1 x2 x3 x4 && halfB t && inB n 0 16) && finB .f32 (wideQ x0 x1 t n.toNat)) w) := by
  cases h1 : (pendB x0 x1 x2 x3 x4 && finB .f32 (periodQ x0 x1))
  · have hz : ((pendB x0 x1 x2 x3 x4 && halfB t && inB n 0 16) && finB .f32 (wideQ x0 x1 t n.toNat)) = false := by
      cases hp : pendB x0 x1 x2 x3 x4
      · simp
      · rw [hp, Bool.true_and] at h1
        cases hf : finB .f32 (wideQ x0 x1 t n.toNat)
        · simp
        · unfold wideQ at hf
          rw [quo_fin_left hf] at h1
          cases h1
    go_enter Try.func47, Try.ntmps47
    go_wp2_with (first | (go_at_call 49; refine (implSmallPeriod_any x0 x1 x2 x3 x4 _).mono ?_; rintro e w2 ⟨rs, rfl, hq, hb⟩; rw [h1] at hq; have HS := Lib.hid hq; clear hq; have hB2 : Below w.heap.size w w2 := by (repeat (first | assumption | (with_reducible exact Below.refl _ _) | (with_reducible refine Below.drewN ?_ _) | (with_reducible refine Below.drew ?_) | (with_reducible refine Below.allocS ?_ _) | ((with_reducible refine Below.setCell ?_ ?_ _); rotate_left; focus (first | omega | (simp; done) | (simp; omega))) | (with_reducible refine Below.step ?_ (by assumption))))))
    go_ret2
    ((refine pf_none hz ?_); (repeat (first | assumption | (with_reducible exact Below.refl _ _) | (with_reducible refine Below.drewN ?_ _) | (with_reducible refine Below.drew ?_) | (with_reducible refine Below.allocS ?_ _) | ((with_reducible refine Below.setCell ?_ ?_ _); rotate_left; focus (first | omega | (simp; done) | (simp; omega))) | (with_reducible refine Below.step ?_ (by assumption)))); done)
  have hpp : pendB x0 x1 x2 x3 x4 = true := by simp at h1; exact h1.1
  have HPP := Lib.hid hpp
  clear hpp
  cases h2 : gtF .f32 t 3204448256
  · go_enter Try.func47, Try.ntmps47
    go_wp2_with (first | (go_at_call 49; refine (implSmallPeriod_any x0 x1 x2 x3 x4 _).mono ?_; rintro e w2 ⟨rs, rfl, hq, hb⟩; rw [h1] at hq; have HS := Lib.hid hq; clear hq; have hB2 : Below w.heap.size w w2 := by (repeat (first | assumption | (with_reducible exact Below.refl _ _) | (with_reducible refine Below.drewN ?_ _) | (with_reducible refine Below.drew ?_) | (with_reducible refine Below.allocS ?_ _) | ((with_reducible refine Below.setCell ?_ ?_ _); rotate_left; focus (first | omega | (simp; done) | (simp; omega))) | (with_reducible refine Below.step ?_ (by assumption))))))
    go_ret2
    ((refine pf_none (by simp [halfB, h2]) ?_); (repeat (first | assumption | (with_reducible exact Below.refl _ _) | (with_reducible refine Below.drewN ?_ _) | (with_reducible refine Below.drew ?_) | (with_reducible refine Below.allocS ?_ _) | ((with_reducible refine Below.setCell ?_ ?_ _); rotate_left; focus (first | omega | (simp; done) | (simp; omega))) | (with_reducible refine Below.step ?_ (by assumption)))); done)
  cases h3 : ltF .f32 t 1056964608
  · go_enter Try.func47, Try.ntmps47
    go_wp2_with (first | (go_at_call 49; refine (implSmallPeriod_any x0 x1 x2 x3 x4 _).mono ?_; rintro e w2 ⟨rs, rfl, hq, hb⟩; rw [h1] at hq; have HS := Lib.hid hq; clear hq; have hB2 : Below w.heap.size w w2 := by (repeat (first | assumption | (with_reducible exact Below.refl _ _) | (with_reducible refine Below.drewN ?_ _) | (with_reducible refine Below.drew ?_) | (with_reducible refine Below.allocS ?_ _) | ((with_reducible refine Below.setCell ?_ ?_ _); rotate_left; focus (first | omega | (simp; done) | (simp; omega))) | (with_reducible refine Below.step ?_ (by assumption))))))
    go_ret2
    ((refine pf_none (by simp [halfB, h3]) ?_); (repeat (first | assumption | (with_reducible exact Below.refl _ _) | (with_reducible refine Below.drewN ?_ _) | (with_reducible refine Below.drew ?_) | (with_reducible refine Below.allocS ?_ _) | ((with_reducible refine Below.setCell ?_ ?_ _); rotate_left; focus (first | omega | (simp; done) | (simp; omega))) | (with_reducible refine Below.step ?_ (by assumption)))); done)
  cases h4 : inB n 0 16
  · go_enter Try.func47, Try.ntmps47
    go_wp2_with (first | (go_at_call 49; refine (implSmallPeriod_any x0 x1 x2 x3 x4 _).mono ?_; rintro e w2 ⟨rs, rfl, hq, hb⟩; rw [h1] at hq; have HS := Lib.hid hq; clear hq; have hB2 : Below w.heap.size w w2 := by (repeat (first | assumption | (with_reducible exact Below.refl _ _) | (with_reducible refine Below.drewN ?_ _) | (with_reducible refine Below.drew ?_) | (with_reducible refine Below.allocS ?_ _) | ((with_reducible refine Below.setCell ?_ ?_ _); rotate_left; focus (first | omega | (simp; done) | (simp; omega))) | (with_reducible refine Below.step ?_ (by assumption))))) | (go_at_call 90; refine (in_any _ _ _ _).mono ?_; rintro e w' ⟨rfl, rfl⟩))
    go_ret2
    ((refine pf_none (by simp) ?_); (repeat (first | assumption | (with_reducible exact Below.refl _ _) | (with_reducible refine Below.drewN ?_ _) | (with_reducible refine Below.drew ?_) | (with_reducible refine Below.allocS ?_ _) | ((with_reducible refine Below.setCell ?_ ?_ _); rotate_left; focus (first | omega | (simp; done) | (simp; omega))) | (with_reducible refine Below.step ?_ (by assumption)))); done)
  obtain ⟨N, rfl⟩ : ∃ N : Nat, n = (N : Int) := ⟨n.toNat, by unfold inB at h4; simp at h4; omega⟩
  have hN : N ≤ 16 := by unfold inB at h4; simp at h4; omega
  have hBB : halfB t = true := by unfold halfB; rw [h2, h3]; rfl
  have HBB := Lib.hid hBB
  clear hBB
  simp only [Int.toNat_natCast]
  go_enter Try.func47, Try.ntmps47
  go_wp2_with (first | (refine wpList_fbin rfl rfl rfl rfl rfl (fun r n hr => ?_)) | (go_at_call 49; refine (implSmallPeriod_any x0 x1 x2 x3 x4 _).mono ?_; rintro e w2 ⟨rs, rfl, hq, hb⟩; rw [h1] at hq; have HS := Lib.hid hq; clear hq; have hB2 : Below w.heap.size w w2 := by (repeat (first | assumption | (with_reducible exact Below.refl _ _) | (with_reducible refine Below.drewN ?_ _) | (with_reducible refine Below.drew ?_) | (with_reducible refine Below.allocS ?_ _) | ((with_reducible refine Below.setCell ?_ ?_ _); rotate_left; focus (first | omega | (simp; done) | (simp; omega))) | (with_reducible refine Below.step ?_ (by assumption))))) | (go_at_call 90; refine (in_any _ _ _ _).mono ?_; rintro e w' ⟨rfl, rfl⟩) | (go_at_call 68; refine (SineTurns_any _ _).mono ?_; rintro e w3 ⟨rb, m1, rfl, hq, rfl⟩; have HB := Lib.hid hq; clear hq))
  go_loopw [10, 11, 38] (fun a b k wr => ∃ j : Nat, j ≤ N ∧ k = .int .i64 (j : Int) ∧ ∃ ra rb, a = .float .f32 ra ∧ b = .float .f32 rb ∧ cn .f32 ra = (meanAB (wideB0 t) j).1 ∧ cn .f32 rb = (meanAB (wideB0 t) j).2 ∧ Below w.heap.size w wr) (fun _ _ k _ => N - (intOf k).toNat)
  case atStart =>
    refine ⟨0, Nat.zero_le _, rfl, _, _, rfl, rfl, cn_one, ?_, by (repeat (first | assumption | (with_reducible exact Below.refl _ _) | (with_reducible refine Below.drewN ?_ _) | (with_reducible refine Below.drew ?_) | (with_reducible refine Below.allocS ?_ _) | ((with_reducible refine Below.setCell ?_ ?_ _); rotate_left; focus (first | omega | (simp; done) | (simp; omega))) | (with_reducible refine Below.step ?_ (by assumption))))⟩
    show _ = wideB0 t
    unfold wideB0
    simp only [Hid] at *
    simp only [*, half_law, cn_two, cn_quarter]
  case round =>
    obtain ⟨j, hj, rfl, ra, rb', rfl, rfl, ha, hb, hBel⟩ := hrel
    have HA := Lib.hid ha
    have HB2 := Lib.hid hb
    clear ha hb
    by_cases hlt : j < N
    · have d1 : decide ((j : Int) < (N : Int)) = true := decide_eq_true (by omega)
      go_wp2_with (first | (refine wpList_fbin rfl rfl rfl rfl rfl (fun r n hr => ?_)) | (go_at_call 84; refine (RootNumber_any _ _).mono ?_; rintro e w3 ⟨rr, m1, rfl, hq, rfl⟩; have HR := Lib.hid hq; clear hq))
      go_roundw
      case rel =>
        refine ⟨j + 1, hlt, by go_num, _, _, rfl, rfl, ?_, ?_, by (repeat (first | assumption | (with_reducible exact Below.refl _ _) | (with_reducible refine Below.drewN ?_ _) | (with_reducible refine Below.drew ?_) | (with_reducible refine Below.allocS ?_ _) | ((with_reducible refine Below.setCell ?_ ?_ _); rotate_left; focus (first | omega | (simp; done) | (simp; omega))) | (with_reducible refine Below.step ?_ (by assumption))))⟩
        · unfold meanAB
          simp only [Hid] at *
          simp only [*, half_law, cn_two]
        · unfold meanAB
          simp only [Hid] at *
          simp only [*]
      case measure => simp [intOf]; omega
    · obtain rfl : j = N := by omega
      have d1 : decide ((j : Int) < (j : Int)) = false := decide_eq_false (by omega)
      go_wp2_with (first | (refine wpList_fbin rfl rfl rfl rfl rfl (fun r n hr => ?_)) | (go_at_call 82; refine (toldNumber_any _ _).mono ?_; rintro e w5 ⟨m2, rfl, rfl⟩))
      go_ret2
      refine pf_told (Q := wideQ x0 x1 t j) ?_ (by rw [HBB.out, HPP.out]; simp) ?_
      · unfold wideQ
        simp only [Hid] at *
        simp only [*, condF, if_true]
      · (repeat (first | assumption | (with_reducible exact Below.refl _ _) | (with_reducible refine Below.drewN ?_ _) | (with_reducible refine Below.drew ?_) | (with_reducible refine Below.allocS ?_ _) | ((with_reducible refine Below.setCell ?_ ?_ _); rotate_left; focus (first | omega | (simp; done) | (simp; omega))) | (with_reducible refine Below.step ?_ (by assumption))))

set_option maxRecDepth 100000 in
set_option maxHeartbeats 4000000 in
theorem lawWidePeriod_walk (x0 x1 x2 x3 x4 : Nat) (z1 : Nat) (z2 : Int) (_ : x0 < 4294967296) (_ : x1 < 4294967296) (_ : x2 < 4294967296) (_ : x3 < 4294967296) (_ : x4 < 4294967296) (_ : z1 < 4294967296) (_ : (Lit.int .i64 z2).wf = true) (w : World) : Calls Try.prog 12 #[.agg #[.float .f32 x0, .float .f32 x1, .float .f32 x2, .float .f32 x3, .float .f32 x4], .float .f32 z1, .int .i64 z2] w fun e w' => e = .returned (.bool true) ∧ Below w.heap.size w w' := by
  go_enter Try.func12, Try.ntmps12
  go_wp2_with fail
  refine (toPendulum_any x0 x1 x2 x3 x4 _).mono ?_
  rintro e w0 ⟨rfl, hb⟩
  have hk := Held.below hb (l := [(⟨w.heap.size, 0, none⟩, .float .f32 x0), (⟨w.heap.size, 1, none⟩, .float .f32 x1), (⟨w.heap.size, 2, none⟩, .float .f32 x2), (⟨w.heap.size, 3, none⟩, .float .f32 x3), (⟨w.heap.size, 4, none⟩, .float .f32 x4)]) (by simp [Held, go_sem, *])
  simp only [Held, and_true] at hk
  go_wp2_with fail
  refine (specWidePeriod_any x0 x1 x2 x3 x4 z1 z2 _).mono ?_
  rintro e w1 ⟨r0_0, rfl, q0_0, hb⟩
  have Hq0_0 := Lib.hid q0_0
  clear q0_0
  have hk := Held.below hb (l := [(⟨w.heap.size, 0, none⟩, .float .f32 x0), (⟨w.heap.size, 1, none⟩, .float .f32 x1), (⟨w.heap.size, 2, none⟩, .float .f32 x2), (⟨w.heap.size, 3, none⟩, .float .f32 x3), (⟨w.heap.size, 4, none⟩, .float .f32 x4)]) (by simp [Held, go_sem, *])
  simp only [Held, and_true] at hk
  go_wp2_with fail
  refine (toPendulum_any x0 x1 x2 x3 x4 _).mono ?_
  rintro e w2 ⟨rfl, hb⟩
  have hk := Held.below hb (l := [(⟨w.heap.size, 0, none⟩, .float .f32 x0), (⟨w.heap.size, 1, none⟩, .float .f32 x1), (⟨w.heap.size, 2, none⟩, .float .f32 x2), (⟨w.heap.size, 3, none⟩, .float .f32 x3), (⟨w.heap.size, 4, none⟩, .float .f32 x4)]) (by simp [Held, go_sem, *])
  simp only [Held, and_true] at hk
  go_wp2_with fail
  refine (implWidePeriod_any x0 x1 x2 x3 x4 z1 z2 _).mono ?_
  rintro e w3 ⟨r1_0, rfl, q1_0, hb⟩
  have Hq1_0 := Lib.hid q1_0
  clear q1_0
  have hk := Held.below hb (l := [(⟨w.heap.size, 0, none⟩, .float .f32 x0), (⟨w.heap.size, 1, none⟩, .float .f32 x1), (⟨w.heap.size, 2, none⟩, .float .f32 x2), (⟨w.heap.size, 3, none⟩, .float .f32 x3), (⟨w.heap.size, 4, none⟩, .float .f32 x4)]) (by simp [Held, go_sem, *])
  simp only [Held, and_true] at hk
  go_wp2_with (first | (refine wpList_widen rfl rfl Try.underlying30 Try.underlying22 rfl (fun r n hr => ?_)) | (go_at_call 18; refine (sameFloat_any _ _ _ (widen_same (Hid.out (by assumption)) (Hid.out (by assumption)) (Hq1_0.out.trans Hq0_0.out.symm))).mono ?_; rintro e w' ⟨n, rfl, rfl⟩))
  go_ret
  refine ⟨rfl, ?_⟩
  (try have hB := hC.1.2)
  (repeat (first | assumption | (with_reducible exact Below.refl _ _) | (with_reducible refine Below.drewN ?_ _) | (with_reducible refine Below.drew ?_) | (with_reducible refine Below.allocS ?_ _) | ((with_reducible refine Below.setCell ?_ ?_ _); rotate_left; focus (first | omega | (simp; done) | (simp; omega))) | (with_reducible refine Below.step ?_ (by assumption))))

end Go.Proofs.Ytjfmcmdhkmcpiaa
