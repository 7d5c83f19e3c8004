/-
  The sine of turns in float64 as a plain function of bits; it is small, and no NaN comes up on the way.
-/
import Derived.Test.YtoiomgofbohmoaaNw
import Derived.Laws.Cover2
set_option linter.unusedVariables false
set_option linter.unusedSimpArgs false
namespace Go.Proofs.Ytoiomgofbohmoaa
open Go.RowKit

theorem gr_of {b : Nat} {e : Int} (h : (match FloatKind.f64.decode b with | .number _ m p => decide (m ≠ 0 ∧ e ≤ p + (m.log2 : Int)) | _ => false) = true) : Gr .f64 e b := by
  cases hd : FloatKind.f64.decode b with
  | number s m p =>
    rw [hd] at h
    simp only [decide_eq_true_eq] at h
    exact ⟨s, m, p, hd, h⟩
  | infinity s => rw [hd] at h; cases h
  | nan s t => rw [hd] at h; cases h
theorem sm_of {b : Nat} {e : Int} (h : (match FloatKind.f64.decode b with | .number _ m p => decide (m = 0 ∨ (p ≤ e ∧ m ≤ 2 ^ (e - p).toNat)) | _ => false) = true) : Sm .f64 e b := by
  cases hd : FloatKind.f64.decode b with
  | number s m p =>
    rw [hd] at h
    simp only [decide_eq_true_eq] at h
    exact ⟨s, m, p, hd, magLe_iff.2 h⟩
  | infinity s => rw [hd] at h; cases h
  | nan s t => rw [hd] at h; cases h

theorem sm_one : Sm .f64 0 4607182418800017408 := sm_of (by decide +kernel)
theorem sm_half : Sm .f64 0 4602678819172646912 := sm_of (by decide +kernel)
theorem sm_tau : Sm .f64 3 4618760256179416344 := sm_of (by decide +kernel)

/-- The divisor of a round of the sine. -/
def sinD (j : Nat) : Nat := floatOfInt .f64 (2 * (8 - (j : Int)) * (2 * (8 - (j : Int)) + 1))
theorem sinD_gr {j : Nat} (h : j < 8) : Gr .f64 2 (sinD j) := by
  match j, h with
  | 0, _ => exact gr_of (by decide +kernel)
  | 1, _ => exact gr_of (by decide +kernel)
  | 2, _ => exact gr_of (by decide +kernel)
  | 3, _ => exact gr_of (by decide +kernel)
  | 4, _ => exact gr_of (by decide +kernel)
  | 5, _ => exact gr_of (by decide +kernel)
  | 6, _ => exact gr_of (by decide +kernel)
  | 7, _ => exact gr_of (by decide +kernel)

def sinP (u : Nat) : Nat → Nat
  | 0 => 4607182418800017408
  | j + 1 => fbin .sub .f64 4607182418800017408 (fbin .quo .f64 (fbin .mul .f64 u (sinP u j)) (sinD j))
theorem sinP_all {u : Nat} (hu : Sm .f64 12 u) : ∀ j : Nat, j ≤ 8 → Sm .f64 (11 * (j : Int)) (sinP u j)
  | 0, _ => sm_one
  | j + 1, h => by
    have ih := sinP_all hu j (by omega)
    have h1 : Sm .f64 (12 + 11 * (j : Int)) (fbin .mul .f64 u (sinP u j)) := sm_mul hu ih (by omega) (by omega) (by omega)
    have h2 : Sm .f64 (10 + 11 * (j : Int)) (fbin .quo .f64 (fbin .mul .f64 u (sinP u j)) (sinD j)) := sm_quo h1 (sinD_gr (by omega)) (by omega) (by omega) (by omega)
    exact sm_sub sm_one h2 (by omega) (by omega) (by omega) (by omega)
theorem sinP_mul {u : Nat} (hu : Sm .f64 12 u) {j : Nat} (h : j < 8) : Sm .f64 (12 + 11 * (j : Int)) (fbin .mul .f64 u (sinP u j)) := sm_mul hu (sinP_all hu j (by omega)) (by omega) (by omega) (by omega)
theorem sinP_quo {u : Nat} (hu : Sm .f64 12 u) {j : Nat} (h : j < 8) : Sm .f64 (10 + 11 * (j : Int)) (fbin .quo .f64 (fbin .mul .f64 u (sinP u j)) (sinD j)) := sm_quo (sinP_mul hu h) (sinD_gr h) (by omega) (by omega) (by omega)

/-- What is left of a number less its whole part; a number without one stays. -/
def sin0 (y : Nat) : Nat := if eqF .f64 (fwhole .zero y) 0 then y else fbin .sub .f64 y (fwhole .zero y)
def sin1 (f : Nat) : Nat := if ltF .f64 f 0 then fbin .add .f64 f 4607182418800017408 else f
def sin2 (f : Nat) : Nat := if geF .f64 (sin1 f) 4602678819172646912 then fbin .sub .f64 (sin1 f) 4602678819172646912 else sin1 f
def sin3 (f : Nat) : Nat := if gtF .f64 (sin2 f) 4598175219545276416 then fbin .sub .f64 4602678819172646912 (sin2 f) else sin2 f
def sinZ (f : Nat) : Nat := fbin .mul .f64 (sin3 f) 4618760256179416344
def sinU (f : Nat) : Nat := fbin .mul .f64 (sinZ f) (sinZ f)
def sinM (f : Nat) : Nat := fbin .mul .f64 (sinZ f) (sinP (sinU f) 8)
def sinR (f : Nat) : Nat := if geF .f64 (sin1 f) 4602678819172646912 then Op.negFloat .f64 (sinM f) else sinM f
theorem stage1 {f : Nat} (h : Sm .f64 0 f) : ∃ f1, Hid (sin1 f = f1) ∧ Sm .f64 1 f1 ∧ ((ltF .f64 f 0 = true ∧ fbin .add .f64 f 4607182418800017408 = f1 ∧ Sm .f64 1 (fbin .add .f64 f 4607182418800017408)) ∨ (ltF .f64 f 0 = false ∧ f = f1)) := by
  cases hc : ltF .f64 f 0
  · exact ⟨f, (by unfold sin1; rw [hc]; rfl : sin1 f = f), h.mono (by decide), .inr ⟨rfl, rfl⟩⟩
  · have hs : Sm .f64 1 (fbin .add .f64 f 4607182418800017408) := sm_add h sm_one (by decide) (by decide) (by decide) (by decide)
    exact ⟨_, (by unfold sin1; rw [hc]; rfl : sin1 f = fbin .add .f64 f 4607182418800017408), hs, .inl ⟨rfl, rfl, hs⟩⟩
theorem stage2 {f f1 : Nat} (q : Hid (sin1 f = f1)) (h : Sm .f64 1 f1) : ∃ f2, Hid (sin2 f = f2) ∧ Sm .f64 2 f2 ∧ ((geF .f64 f1 4602678819172646912 = true ∧ fbin .sub .f64 f1 4602678819172646912 = f2 ∧ Sm .f64 2 (fbin .sub .f64 f1 4602678819172646912)) ∨ (geF .f64 f1 4602678819172646912 = false ∧ f1 = f2)) := by
  cases hc : geF .f64 f1 4602678819172646912
  · exact ⟨f1, (by unfold sin2; rw [q.out, hc]; rfl : sin2 f = f1), h.mono (by decide), .inr ⟨rfl, rfl⟩⟩
  · have hs : Sm .f64 2 (fbin .sub .f64 f1 4602678819172646912) := sm_sub h sm_half (by decide) (by decide) (by decide) (by decide)
    exact ⟨_, (by unfold sin2; rw [q.out, hc]; rfl : sin2 f = fbin .sub .f64 f1 4602678819172646912), hs, .inl ⟨rfl, rfl, hs⟩⟩
theorem stage3 {f f2 : Nat} (q : Hid (sin2 f = f2)) (h : Sm .f64 2 f2) : ∃ f3, Hid (sin3 f = f3) ∧ Sm .f64 3 f3 ∧ ((gtF .f64 f2 4598175219545276416 = true ∧ fbin .sub .f64 4602678819172646912 f2 = f3 ∧ Sm .f64 3 (fbin .sub .f64 4602678819172646912 f2)) ∨ (gtF .f64 f2 4598175219545276416 = false ∧ f2 = f3)) := by
  cases hc : gtF .f64 f2 4598175219545276416
  · exact ⟨f2, (by unfold sin3; rw [q.out, hc]; rfl : sin3 f = f2), h.mono (by decide), .inr ⟨rfl, rfl⟩⟩
  · have hs : Sm .f64 3 (fbin .sub .f64 4602678819172646912 f2) := sm_sub sm_half h (by decide) (by decide) (by decide) (by decide)
    exact ⟨_, (by unfold sin3; rw [q.out, hc]; rfl : sin3 f = fbin .sub .f64 4602678819172646912 f2), hs, .inl ⟨rfl, rfl, hs⟩⟩
theorem stageZ {f f3 : Nat} (q : Hid (sin3 f = f3)) (h : Sm .f64 3 f3) : ∃ z u, Hid (sinM f = fbin .mul .f64 z (sinP u 8)) ∧ fbin .mul .f64 f3 4618760256179416344 = z ∧ Sm .f64 6 (fbin .mul .f64 f3 4618760256179416344) ∧ fbin .mul .f64 z z = u ∧ Sm .f64 12 (fbin .mul .f64 z z) ∧ Sm .f64 12 u ∧ Sm .f64 94 (fbin .mul .f64 z (sinP u 8)) := by
  have hz : Sm .f64 6 (fbin .mul .f64 f3 4618760256179416344) := sm_mul h sm_tau (by decide) (by decide) (by decide)
  have hu : Sm .f64 12 (fbin .mul .f64 (fbin .mul .f64 f3 4618760256179416344) (fbin .mul .f64 f3 4618760256179416344)) := sm_mul hz hz (by decide) (by decide) (by decide)
  exact ⟨_, _, (by unfold sinM sinU sinZ; rw [q.out] : sinM f = _), rfl, hz, rfl, hu, hu, sm_mul hz (sinP_all hu 8 (by decide)) (by decide) (by decide) (by decide)⟩
theorem sm_neg {e : Int} {b : Nat} (hb : b < width2 .f64) (h : Sm .f64 e b) : Sm .f64 e (Op.negFloat .f64 b) := by
  have hn := h.not_nan
  obtain ⟨s, m, p, h1, h2⟩ := h
  exact ⟨!s, m, p, by rw [decode_neg .f64 hb hn, h1]; rfl, h2⟩
theorem sinM_sm {f : Nat} (h : Sm .f64 0 f) : Sm .f64 94 (sinM f) := by
  obtain ⟨f1, q1, s1, _⟩ := stage1 h
  obtain ⟨f2, q2, s2, _⟩ := stage2 q1 s1
  obtain ⟨f3, q3, s3, _⟩ := stage3 q2 s2
  obtain ⟨z, u, qm, _, _, _, _, _, hs⟩ := stageZ q3 s3
  rw [qm.out]; exact hs
theorem sinR_sm {f : Nat} (h : Sm .f64 0 f) : Sm .f64 94 (sinR f) := by
  unfold sinR
  split
  · exact sm_neg (fbin_lt ..) (sinM_sm h)
  · exact sinM_sm h

/-- Of at least 2 ^ 52, whatever its sign. -/
def bigB (y : Nat) : Bool := geF .f64 y 4841369599423283200 || leF .f64 y 14064741636278059008
/-- The sine of a float32, every NaN taken as one. -/
def sineQ (x : Nat) : Nat :=
  if finB .f32 x then (if bigB (fconv .f32 .f64 x) then 0 else fconv .f64 .f32 (sinR (sin0 (fconv .f32 .f64 x)))) else nanOf .f32

/-! ### Numbers of less than 2 ^ 52 -/

theorem wide_dec (b : Nat) (h : FloatKind.f64.decode b = .number false 4503599627370496 0) (s : Bool) (m : Nat) (p : Int) :
    (Ieee.Datum.number s m p).order (FloatKind.f64.decode b) = some (compare (Ieee.signed s m (p - min p 0).toNat) (Ieee.signed false 4503599627370496 (0 - min p 0).toNat)) := by
  rw [h]; rfl

theorem cmp_ge (a b : Int) : (some (compare a b) == some Ordering.gt || some (compare a b) == some Ordering.eq) = decide (b ≤ a) := by
  rw [Bool.eq_iff_iff]
  simp only [Bool.or_eq_true, beq_iff_eq, Option.some.injEq, Int.compare_eq_gt, Int.compare_eq_eq, decide_eq_true_eq]
  omega
theorem cmp_le (a b : Int) : (some (compare a b) == some Ordering.lt || some (compare a b) == some Ordering.eq) = decide (a ≤ b) := by
  rw [Bool.eq_iff_iff]
  simp only [Bool.or_eq_true, beq_iff_eq, Option.some.injEq, Int.compare_eq_lt, Int.compare_eq_eq, decide_eq_true_eq]
  omega
theorem c52 : FloatKind.f64.decode 4841369599423283200 = .number false 4503599627370496 0 := by decide +kernel
theorem c52n : FloatKind.f64.decode 14064741636278059008 = .number true 4503599627370496 0 := by decide +kernel
theorem ge_num {y b : Nat} {s t : Bool} {m n : Nat} {p q : Int} (hy : FloatKind.f64.decode y = .number s m p) (hb : FloatKind.f64.decode b = .number t n q) :
    geF .f64 y b = decide (Ieee.signed t n (q - min p q).toNat ≤ Ieee.signed s m (p - min p q).toNat) := by
  unfold geF gtF eqF Ieee.Format.order
  show ((FloatKind.f64.decode y).order (FloatKind.f64.decode b) == some .gt || (FloatKind.f64.decode y).order (FloatKind.f64.decode b) == some .eq) = _
  rw [hy, hb]
  exact cmp_ge _ _
theorem le_num {y b : Nat} {s t : Bool} {m n : Nat} {p q : Int} (hy : FloatKind.f64.decode y = .number s m p) (hb : FloatKind.f64.decode b = .number t n q) :
    leF .f64 y b = decide (Ieee.signed s m (p - min p q).toNat ≤ Ieee.signed t n (q - min p q).toNat) := by
  unfold leF ltF eqF Ieee.Format.order
  show ((FloatKind.f64.decode y).order (FloatKind.f64.decode b) == some .lt || (FloatKind.f64.decode y).order (FloatKind.f64.decode b) == some .eq) = _
  rw [hy, hb]
  exact cmp_le _ _
theorem eq_num {y b : Nat} {s t : Bool} {m n : Nat} {p q : Int} (hy : FloatKind.f64.decode y = .number s m p) (hb : FloatKind.f64.decode b = .number t n q) :
    eqF .f64 y b = decide (Ieee.signed s m (p - min p q).toNat = Ieee.signed t n (q - min p q).toNat) := by
  unfold eqF Ieee.Format.order
  show ((FloatKind.f64.decode y).order (FloatKind.f64.decode b) == some .eq) = _
  rw [hy, hb]
  rw [Bool.eq_iff_iff]
  simp only [Ieee.Datum.order, beq_iff_eq, Option.some.injEq, Int.compare_eq_eq, decide_eq_true_eq]

theorem signed_neg (m u : Nat) : Ieee.signed true m u = -((m <<< u : Nat) : Int) := rfl
/-- 'big' by magnitude. -/
theorem big_num {y : Nat} {s : Bool} {m : Nat} {p : Int} (hy : FloatKind.f64.decode y = .number s m p) : bigB y = decide (4503599627370496 <<< (0 - min p 0).toNat ≤ m <<< (p - min p 0).toNat) := by
  have h0 : 0 < (4503599627370496 : Nat) <<< (0 - min p 0).toNat := by rw [Nat.shiftLeft_eq]; exact Nat.mul_pos (by decide) (Nat.two_pow_pos _)
  unfold bigB
  rw [ge_num hy c52, le_num hy c52n, signed_pos, signed_neg]
  generalize (4503599627370496 : Nat) <<< (0 - min p 0).toNat = C at *
  generalize hM : m <<< (p - min p 0).toNat = M
  rw [Bool.eq_iff_iff]
  simp only [Bool.or_eq_true, decide_eq_true_eq]
  cases s
  · rw [signed_pos, hM]; omega
  · rw [signed_neg, hM]; omega

/-- The bits without the sign. -/
theorem dec_abs {y : Nat} {s : Bool} {m : Nat} {p : Int} (hy : FloatKind.f64.decode y = .number s m p) : FloatKind.f64.decode (y % 9223372036854775808) = .number false m p := by
  have e4 : FloatKind.f64.format.signWeight = 9223372036854775808 := by decide +kernel
  unfold FloatKind.decode Ieee.Format.read at hy ⊢
  dsimp only at hy ⊢
  rw [e4] at hy ⊢
  rw [Nat.mod_mod]
  have h2 : y % 9223372036854775808 / 9223372036854775808 % 2 = 0 := by omega
  rw [h2]
  split at hy
  · rename_i h; rw [if_pos h]; cases hy; rfl
  · split at hy
    · rename_i h h'; rw [if_neg h, if_pos h']; cases hy; rfl
    · split at hy <;> cases hy
theorem abs_ge {y : Nat} {s : Bool} {m : Nat} {p : Int} (hy : FloatKind.f64.decode y = .number s m p) : geF .f64 (y % 9223372036854775808) 4841369599423283200 = bigB y := by
  rw [big_num hy, ge_num (dec_abs hy) c52, signed_pos, signed_pos]
  rw [Bool.eq_iff_iff]
  simp only [decide_eq_true_eq]
  omega

/-- The whole part of a number. -/
theorem whole_num (way : Ieee.Toward) {y : Nat} {s : Bool} {m : Nat} {p : Int} (hy : FloatKind.f64.decode y = .number s m p) : fwhole way y = FloatKind.f64.format.nearest s (way.cut s (m <<< p.toNat) (-p).toNat) 0 := by
  have hn : isN .f64 y = false := by unfold isN; rw [hy]; rfl
  unfold fwhole FloatKind.encode
  rw [if_neg (by rw [hn]; decide), hy]
  rfl
theorem less_zero {y : Nat} {s : Bool} {m : Nat} {p : Int} (hy : FloatKind.f64.decode y = .number s m p) (hw : y < width2 .f64) : fbin .sub .f64 y 0 = y := by
  have h0 : FloatKind.f64.decode 0 = .number false 0 (-1074) := by decide +kernel
  have hp := (double_mag hy).2
  unfold fbin floatBits Ieee.Format.sub
  show (((FloatKind.f64.decode y).sum (FloatKind.f64.decode 0).opposite).map FloatKind.f64.format.write).getD _ = y
  rw [hy, h0]
  simp only [Ieee.Datum.opposite, Ieee.Datum.sum, Option.map_some, Option.getD_some, Bool.not_false]
  rw [Int.min_eq_right hp]
  have z : Ieee.signed true 0 ((-1074 : Int) - -1074).toNat = 0 := by decide
  rw [z, Int.add_zero, signed_abs]
  have hs : (if Ieee.signed s m (p - -1074).toNat = 0 then s && true else decide (Ieee.signed s m (p - -1074).toNat < 0)) = s := by
    split
    · simp
    · rename_i h
      cases s
      · rw [signed_pos]
        generalize m <<< (p - -1074).toNat = M
        exact decide_eq_false (by omega)
      · rw [signed_neg] at h ⊢
        generalize m <<< (p - -1074).toNat = M at h ⊢
        exact decide_eq_true (by omega)
  rw [hs]
  show FloatKind.f64.format.nearest s (m <<< (p - -1074).toNat) (-1074) = y
  rw [Nat.shiftLeft_eq, nearest_scale, show (-1074 : Int) + ((p - -1074).toNat : Nat) = p by omega]
  exact nearest_same .f64 hy hw

/-- A number of less than 2 ^ 52: its whole part fits an int64. -/
theorem small_num {y : Nat} {s : Bool} {m : Nat} {p : Int} (hy : FloatKind.f64.decode y = .number s m p) (hb : bigB y = false) : Ieee.Toward.zero.cut s (m <<< p.toNat) (-p).toNat < 4503599627370496 := by
  rw [big_num hy, decide_eq_false_iff_not, Nat.not_le] at hb
  rcases Int.lt_or_le p 0 with h | h
  · have z : p.toNat = 0 := by omega
    have z2 : (p - min p 0).toNat = 0 := by omega
    have z3 : (0 - min p 0).toNat = (-p).toNat := by omega
    rw [z2, z3, Nat.shiftLeft_zero, Nat.shiftLeft_eq] at hb
    rw [z, Nat.shiftLeft_zero]
    obtain ⟨more, hc⟩ : ∃ more : Nat, more = 0 ∧ Ieee.Toward.zero.cut s m (-p).toNat = m / (1 <<< min (-p).toNat (m.log2 + 2)) + more := ⟨_, rfl, rfl⟩
    rw [hc.2, hc.1, Nat.add_zero]
    rcases Nat.le_total (-p).toNat (m.log2 + 2) with g | g
    · rw [Nat.min_eq_left g, Nat.one_shiftLeft]
      exact (Nat.div_lt_iff_lt_mul (Nat.two_pow_pos _)).2 hb
    · rw [Nat.min_eq_right g, Nat.one_shiftLeft, Nat.div_eq_of_lt (Nat.lt_of_lt_of_le Nat.lt_log2_self (Nat.pow_le_pow_right (by decide) (by omega)))]
      decide
  · have z : (-p).toNat = 0 := by omega
    have z2 : (0 - min p 0).toNat = 0 := by omega
    have z3 : p - min p 0 = p := by omega
    rw [z2, z3, Nat.shiftLeft_zero] at hb
    rw [z]
    have hc0 : Ieee.Toward.zero.cut s (m <<< p.toNat) 0 = m <<< p.toNat := by
      unfold Ieee.Toward.cut
      simp [Nat.mod_one]
    rw [hc0]
    exact hb

/-- 'int64(y)'. -/
def intOfF (y : Nat) : Int := ((FloatKind.f64.decode y).toInt .zero).getD 0
theorem toInt_num {y : Nat} {s : Bool} {m : Nat} {p : Int} (hy : FloatKind.f64.decode y = .number s m p) : (FloatKind.f64.decode y).toInt .zero = some (Ieee.signed s (Ieee.Toward.zero.cut s (m <<< p.toNat) (-p).toNat) 0) := by
  rw [hy]; rfl
theorem int_of_small {y : Nat} {s : Bool} {m : Nat} {p : Int} (hy : FloatKind.f64.decode y = .number s m p) (hb : bigB y = false) : floatToIntVal .f64 y .i64 = some (intOfF y) := by
  have hc := small_num hy hb
  unfold floatToIntVal intOfF
  rw [toInt_num hy]
  generalize Ieee.Toward.zero.cut s (m <<< p.toNat) (-p).toNat = c at *
  have hi : -4503599627370496 < Ieee.signed s c 0 ∧ Ieee.signed s c 0 < 4503599627370496 := by
    have := signed_abs s c 0
    rw [Nat.shiftLeft_zero] at this
    omega
  have e1 : IntKind.i64.min = -9223372036854775808 := by decide
  have e2 : IntKind.i64.max = 9223372036854775807 := by decide
  dsimp only
  rw [e1, e2, if_pos (by omega)]
  rfl

/-- Less the whole part by an int64, or by the whole part itself where there is one. -/
theorem less_int {y : Nat} {s : Bool} {m : Nat} {p : Int} (hy : FloatKind.f64.decode y = .number s m p) (hw : y < width2 .f64) (hb : bigB y = false) : fbin .sub .f64 y (floatOfInt .f64 (intOfF y)) = sin0 y := by
  have hc := small_num hy hb
  have hi : intOfF y = Ieee.signed s (Ieee.Toward.zero.cut s (m <<< p.toNat) (-p).toNat) 0 := by unfold intOfF; rw [toInt_num hy]; rfl
  have hF := whole_num .zero hy
  generalize Ieee.Toward.zero.cut s (m <<< p.toNat) (-p).toNat = c at *
  have h53 : (2 : Nat) ^ 53 = 9007199254740992 := by decide
  obtain ⟨q, hq1, hq2, hd⟩ := read_exact s c 0 (by omega) (by decide) (by decide)
  rw [← hF] at hd
  have h0 : FloatKind.f64.decode 0 = .number false 0 (-1074) := by decide +kernel
  have hz : eqF .f64 (fwhole .zero y) 0 = decide (c = 0) := by
    rw [eq_num hd h0]
    rw [Bool.eq_iff_iff]
    simp only [decide_eq_true_eq]
    have g1 := signed_abs s (c <<< (0 - q).toNat) (q - min q (-1074)).toNat
    have g2 : Ieee.signed false 0 (-1074 - min q (-1074)).toNat = 0 := by rw [signed_pos, Nat.zero_shiftLeft]; rfl
    rw [g2]
    constructor
    · intro h
      rw [h] at g1
      simp only [Int.natAbs_zero] at g1
      rw [Nat.shiftLeft_eq, Nat.shiftLeft_eq, eq_comm, Nat.mul_eq_zero, Nat.mul_eq_zero] at g1
      have := Nat.two_pow_pos (0 - q).toNat
      have := Nat.two_pow_pos (q - min q (-1074)).toNat
      omega
    · intro h
      subst h
      have g3 : (0 <<< (0 - q).toNat) <<< (q - min q (-1074)).toNat = 0 := by rw [Nat.zero_shiftLeft, Nat.zero_shiftLeft]
      have g4 := g1.trans g3
      omega
  unfold sin0
  rw [hz]
  by_cases hc0 : c = 0
  · subst hc0
    rw [decide_eq_true rfl, if_pos rfl, hi]
    have e : floatOfInt .f64 (Ieee.signed s 0 0) = 0 := by cases s <;> decide +kernel
    rw [e]
    exact less_zero hy hw
  · rw [decide_eq_false hc0, if_neg (by decide), hF, hi]
    congr 1
    have hneg : decide (Ieee.signed s c 0 < 0) = s := by
      cases s
      · rw [signed_pos]
        exact decide_eq_false (by omega)
      · rw [signed_neg, Nat.shiftLeft_zero]
        exact decide_eq_true (by omega)
    show FloatKind.f64.format.nearest (decide (Ieee.signed s c 0 < 0)) (Ieee.signed s c 0).natAbs 0 = _
    rw [hneg, signed_abs, Nat.shiftLeft_zero]

theorem sin0_sm {y : Nat} {s : Bool} {m : Nat} {p : Int} (hy : FloatKind.f64.decode y = .number s m p) (hw : y < width2 .f64) (hb : bigB y = false) : Sm .f64 0 (sin0 y) := by
  unfold sin0
  split
  · rename_i h
    have hc := small_num hy hb
    have hF := whole_num .zero hy
    have hn := cut_near .zero s (m <<< p.toNat) (-p).toNat
    generalize Ieee.Toward.zero.cut s (m <<< p.toNat) (-p).toNat = c at *
    have h53 : (2 : Nat) ^ 53 = 9007199254740992 := by decide
    obtain ⟨q, hq1, hq2, hd⟩ := read_exact s c 0 (by omega) (by decide) (by decide)
    rw [← hF] at hd
    have h0 : FloatKind.f64.decode 0 = .number false 0 (-1074) := by decide +kernel
    rw [eq_num hd h0] at h
    simp only [decide_eq_true_eq] at h
    have g1 := signed_abs s (c <<< (0 - q).toNat) (q - min q (-1074)).toNat
    have g2 : Ieee.signed false 0 (-1074 - min q (-1074)).toNat = 0 := by rw [signed_pos, Nat.zero_shiftLeft]; rfl
    rw [h, g2] at g1
    simp only [Int.natAbs_zero] at g1
    rw [Nat.shiftLeft_eq, Nat.shiftLeft_eq, eq_comm, Nat.mul_eq_zero, Nat.mul_eq_zero] at g1
    have hc0 : c = 0 := by
      have := Nat.two_pow_pos (0 - q).toNat
      have := Nat.two_pow_pos (q - min q (-1074)).toNat
      omega
    subst hc0
    refine ⟨s, m, p, hy, ?_⟩
    rw [magLe_iff]
    by_cases hm : m = 0
    · exact .inl hm
    · right
      have hn2 := hn.2
      rw [Nat.zero_mul, Nat.zero_add] at hn2
      rcases Int.lt_or_le p 0 with g | g
      · have z : p.toNat = 0 := by omega
        rw [z, Nat.shiftLeft_zero] at hn2
        refine ⟨by omega, ?_⟩
        rw [show (0 - p).toNat = (-p).toNat by omega]
        exact hn2
      · have z : (-p).toNat = 0 := by omega
        rw [z, Nat.shiftLeft_eq, Nat.pow_zero] at hn2
        have := Nat.two_pow_pos p.toNat
        have hmp : m * 1 ≤ m * 2 ^ p.toNat := Nat.mul_le_mul_left m this
        have hp2 : p = 0 := by
          rcases Int.lt_or_eq_of_le g with g' | g'
          · exfalso
            have h2 : 2 ≤ 2 ^ p.toNat := by
              calc 2 = 2 ^ 1 := rfl
                _ ≤ _ := Nat.pow_le_pow_right (by decide) (by omega)
            have : m * 2 ≤ m * 2 ^ p.toNat := Nat.mul_le_mul_left m h2
            omega
          · exact g'.symm
        refine ⟨by omega, ?_⟩
        rw [hp2]
        have e0 : ((0 : Int) - 0).toNat = 0 := rfl
        rw [e0, Nat.pow_zero]
        omega
  · exact frac_le .zero hy hw

end Go.Proofs.Ytoiomgofbohmoaa
