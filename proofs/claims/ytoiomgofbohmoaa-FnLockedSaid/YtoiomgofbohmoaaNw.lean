/-
  Plain facts: small numbers are float64s; what is left of a float64 less its whole part is at most 1.
-/
import Derived.Test.YtoiomgofbohmoaaNs
set_option linter.unusedVariables false
set_option linter.unusedSimpArgs false
namespace Go.Proofs.Ytoiomgofbohmoaa
open Go.RowKit

/-- A number of at most 53 digits is read as it was written. -/
theorem read_exact (s : Bool) (m : Nat) (p : Int) (hm : m < 2 ^ 53) (h1 : -1074 ≤ p) (h2 : p ≤ 900) : ∃ q : Int, q ≤ p ∧ -1074 ≤ q ∧ FloatKind.f64.decode (FloatKind.f64.format.nearest s m p) = .number s (m <<< (p - q).toNat) q := by
  have c1 : FloatKind.f64.format.binade = 4503599627370496 := by decide +kernel
  have c2 : FloatKind.f64.format.infRung = 9218868437227405312 := by decide +kernel
  have c3 : FloatKind.f64.format.leastPlace = -1074 := by decide +kernel
  have c5 : FloatKind.f64.format.fractionBits = 52 := by decide +kernel
  by_cases hm0 : m = 0
  · refine ⟨-1074, h1, by omega, ?_⟩
    subst hm0
    unfold Ieee.Format.nearest
    rw [if_pos rfl, decode_word .f64 s 0 (by rw [c2]; omega), if_pos (by rw [c1]; omega), c3]
    simp
  · have hl : m.log2 ≤ 52 := by have := (Nat.log2_lt hm0).2 hm; omega
    refine ⟨max (p + (m.log2 : Int) - 52) (-1074), by omega, by omega, ?_⟩
    unfold Ieee.Format.nearest
    rw [if_neg hm0]
    dsimp only
    rw [c1, c2, c3, c5]
    have e1 : max (p + (m.log2 : Int) - ((52 : Nat) : Int)) (-1074) = max (p + (m.log2 : Int) - 52) (-1074) := rfl
    rw [e1]
    generalize hlast : max (p + (m.log2 : Int) - 52) (-1074) = last
    have z1 : (last - p).toNat = 0 := by omega
    rw [z1, cut_zero]
    generalize hk : m <<< (p - last).toNat = kept
    have hkl : kept.log2 = m.log2 + (p - last).toNat := by rw [← hk, Nat.shiftLeft_eq, log2_mul_pow m _ hm0]
    have hk0 : kept ≠ 0 := by
      rw [← hk, Nat.shiftLeft_eq]
      exact Nat.mul_ne_zero hm0 (by have := Nat.two_pow_pos (p - last).toNat; omega)
    have hk53 : kept < 9007199254740992 := by
      have h3 : kept < 2 ^ (kept.log2 + 1) := Nat.lt_log2_self
      have h4 : 2 ^ (kept.log2 + 1) ≤ 2 ^ 53 := Nat.pow_le_pow_right (by decide) (by omega)
      have h5 : (2 : Nat) ^ 53 = 9007199254740992 := by decide
      omega
    rw [Nat.min_eq_left (by omega), decode_word .f64 s _ (by rw [c2]; omega), c1, c3]
    by_cases hlo : last = -1074
    · have z2 : (last - -1074).toNat = 0 := by omega
      rw [z2, Nat.zero_mul, Nat.zero_add]
      by_cases hkb : kept < 4503599627370496
      · rw [if_pos hkb, hlo]
      · rw [if_neg hkb]
        have d1 : kept / 4503599627370496 = 1 := by omega
        have d2 : 4503599627370496 + kept % 4503599627370496 = kept := by omega
        rw [d1, d2, hlo]
        rfl
    · have hkb : 4503599627370496 ≤ kept := by
        have h6 : 2 ^ kept.log2 ≤ kept := Nat.log2_self_le hk0
        have h7 : kept.log2 = 52 := by omega
        rw [h7] at h6
        have h5 : (2 : Nat) ^ 52 = 4503599627370496 := by decide
        omega
      obtain ⟨L, hL⟩ : ∃ L : Nat, (last - -1074).toNat = L + 1 := ⟨(last - -1074).toNat - 1, by omega⟩
      rw [hL, if_neg (by omega)]
      have d1 : ((L + 1) * 4503599627370496 + kept) / 4503599627370496 = L + 2 := by omega
      have d2 : 4503599627370496 + ((L + 1) * 4503599627370496 + kept) % 4503599627370496 = kept := by omega
      rw [d1, d2]
      have d3 : (-1074 : Int) + ((L + 2 - 1 : Nat) : Int) = last := by omega
      rw [d3]

theorem double_mag {b : Nat} {neg : Bool} {m : Nat} {p : Int} (h : FloatKind.f64.decode b = .number neg m p) : m < 2 ^ 53 ∧ -1074 ≤ p := by
  have e1 : FloatKind.f64.format.binade = 4503599627370496 := by decide +kernel
  have e2 : FloatKind.f64.format.infRung = 9218868437227405312 := by decide +kernel
  have e3 : FloatKind.f64.format.leastPlace = -1074 := by decide +kernel
  have h5 : (2 : Nat) ^ 53 = 9007199254740992 := by decide
  unfold FloatKind.decode Ieee.Format.read at h
  dsimp only at h
  rw [e1, e2, e3] at h
  split at h
  · cases h; omega
  · split at h
    · cases h; omega
    · split at h <;> cases h

theorem cut_form (way : Ieee.Toward) (s : Bool) (m d : Nat) : ∃ more : Bool, way.cut s m d = m / (1 <<< min d (m.log2 + 2)) + more.toNat := ⟨_, rfl⟩
/-- Cutting off at a place moves a number by less than a unit, or by just one. -/
theorem cut_near (way : Ieee.Toward) (s : Bool) (m d : Nat) : way.cut s m d * 2 ^ d ≤ m + 2 ^ d ∧ m ≤ way.cut s m d * 2 ^ d + 2 ^ d := by
  obtain ⟨more, hcut⟩ := cut_form way s m d
  rw [hcut]
  have hmt : more.toNat ≤ 1 := by cases more <;> decide
  rcases Nat.le_total d (m.log2 + 2) with h | h
  · rw [Nat.min_eq_left h, Nat.one_shiftLeft]
    have hdm := Nat.div_add_mod m (2 ^ d)
    have hr := Nat.mod_lt m (Nat.two_pow_pos d)
    generalize m % 2 ^ d = r at *
    generalize m / 2 ^ d = q at *
    rw [Nat.add_mul]
    rw [Nat.mul_comm] at hdm
    cases more
    · simp; omega
    · simp; omega
  · rw [Nat.min_eq_right h, Nat.one_shiftLeft]
    have hlt : m < 2 ^ (m.log2 + 2) := Nat.lt_of_lt_of_le Nat.lt_log2_self (Nat.pow_le_pow_right (by decide) (by omega))
    have hle : 2 ^ (m.log2 + 2) ≤ 2 ^ d := Nat.pow_le_pow_right (by decide) h
    rw [Nat.div_eq_of_lt hlt, Nat.zero_add]
    cases more
    · simp; omega
    · simp; omega

theorem cut_small (way : Ieee.Toward) (s : Bool) (m d : Nat) (hd : d ≠ 0) (hm : m < 2 ^ 53) : way.cut s m d < 2 ^ 53 := by
  have h := (cut_near way s m d).1
  have h1 : 2 ≤ 2 ^ d := by
    calc 2 = 2 ^ 1 := rfl
      _ ≤ 2 ^ d := Nat.pow_le_pow_right (by decide) (by omega)
  generalize way.cut s m d = c at *
  generalize 2 ^ d = g at *
  rcases Nat.lt_or_ge c (2 ^ 53) with h2 | h2
  · exact h2
  · exfalso
    have h53 : (2 : Nat) ^ 53 = 9007199254740992 := by decide
    obtain ⟨c', hc'⟩ : ∃ c', c = c' + 1 := ⟨c - 1, by omega⟩
    subst hc'
    rw [Nat.succ_mul] at h
    have h3 : c' * 2 ≤ c' * g := Nat.mul_le_mul_left _ h1
    have : (2 : Nat) ^ 53 = 9007199254740992 := by decide
    omega

theorem signed_less (s : Bool) (m n u v : Nat) : (Ieee.signed s m u + Ieee.signed (!s) n v).natAbs = (((m <<< u : Nat) : Int) - ((n <<< v : Nat) : Int)).natAbs := by
  unfold Ieee.signed
  cases s
  · rfl
  · simp only [Bool.not_true, if_true, Bool.false_eq_true, if_false]
    omega

/-- What is left of a number less its whole part is at most 1. -/
theorem frac_le (way : Ieee.Toward) {y : Nat} {s : Bool} {m : Nat} {p : Int} (hy : FloatKind.f64.decode y = .number s m p) (hw : y < width2 .f64) : Sm .f64 0 (fbin .sub .f64 y (fwhole way y)) := by
  obtain ⟨hm, hp⟩ := double_mag hy
  have hn : isN .f64 y = false := by unfold isN; rw [hy]; rfl
  have hF : fwhole way y = FloatKind.f64.format.nearest s (way.cut s (m <<< p.toNat) (-p).toNat) 0 := by
    unfold fwhole FloatKind.encode
    rw [if_neg (by rw [hn]; decide), hy]
    rfl
  rcases Int.lt_or_le p 0 with h0 | h0
  · have z : p.toNat = 0 := by omega
    rw [z, Nat.shiftLeft_zero] at hF
    have hc := cut_small way s m (-p).toNat (by omega) hm
    obtain ⟨q, hq1, hq2, hd⟩ := read_exact s (way.cut s m (-p).toNat) 0 hc (by omega) (by omega)
    rw [← hF] at hd
    obtain ⟨u, hu⟩ := fbin_sub_of hy hd
    rw [hu]
    refine sm_nearest64 _ _ _ 0 ?_ (by decide) (by decide)
    rw [signed_less, magLe_iff]
    right
    refine ⟨by omega, ?_⟩
    have hn2 := cut_near way s m (-p).toNat
    generalize way.cut s m (-p).toNat = c at *
    -- both in units of the lower place
    have a1 : (c <<< (0 - q).toNat) <<< (q - min p q).toNat = (c * 2 ^ (-p).toNat) * 2 ^ (p - min p q).toNat := by
      rw [Nat.shiftLeft_eq, Nat.shiftLeft_eq, Nat.mul_assoc, Nat.mul_assoc, ← Nat.pow_add, ← Nat.pow_add]
      congr 2
      omega
    have a2 : (0 - min p q).toNat = (-p).toNat + (p - min p q).toNat := by omega
    rw [a1, a2, Nat.pow_add, Nat.shiftLeft_eq]
    generalize 2 ^ (-p).toNat = g at *
    generalize 2 ^ (p - min p q).toNat = k at *
    have b1 : c * g * k ≤ (m + g) * k := Nat.mul_le_mul_right _ hn2.1
    have b2 : m * k ≤ (c * g + g) * k := Nat.mul_le_mul_right _ hn2.2
    rw [Nat.add_mul] at b1 b2
    omega
  · have z : (-p).toNat = 0 := by omega
    rw [z] at hF
    have hc0 : way.cut s (m <<< p.toNat) 0 = m <<< p.toNat := by
      unfold Ieee.Toward.cut
      cases way <;> simp [Nat.mod_one]
    rw [hc0, Nat.shiftLeft_eq, nearest_scale, show (0 : Int) + (p.toNat : Nat) = p by omega, nearest_same .f64 hy hw] at hF
    rw [hF, sub_self, if_pos (by unfold finB; rw [hy]; rfl)]
    exact ⟨false, 0, -1074, by decide +kernel, .inl rfl⟩

theorem fconv_lt (s k : FloatKind) (b : Nat) : fconv s k b < width2 k := by
  unfold fconv
  split
  · cases k <;> decide +kernel
  · have h := encode_wf k (s.decode b)
    cases k
    · simp [Lit.wf] at h; show _ < width2 .f32; have : width2 .f32 = 4294967296 := by decide +kernel
      omega
    · simp [Lit.wf] at h; show _ < width2 .f64; have : width2 .f64 = 18446744073709551616 := by decide +kernel
      omega

theorem fin_num {k : FloatKind} {b : Nat} (h : finB k b = true) : ∃ s m p, k.decode b = .number s m p := by
  unfold finB finD at h
  split at h
  · rename_i s m p hd; exact ⟨s, m, p, hd⟩
  · cases h

/-- What is left of a finite float32 less its whole part, in float64 and narrowed. -/
theorem frac32 (way : Ieee.Toward) {x : Nat} (h : finB .f32 x = true) : Sm .f64 0 (fbin .sub .f64 (fconv .f32 .f64 x) (fwhole way (fconv .f32 .f64 x))) := by
  obtain ⟨s, m, p, hd⟩ := fin_num h
  obtain ⟨s', m', p', h', _⟩ := widen_sm hd
  exact frac_le way h' (fconv_lt ..)
theorem narrow_sm {e : Int} {b : Nat} (h : Sm .f64 e b) (he : e ≤ 126) (he2 : -100 ≤ e) : Sm .f32 e (fconv .f64 .f32 b) := by
  obtain ⟨s, m, p, h1, h2⟩ := h
  have hn : isN .f64 b = false := by unfold isN; rw [h1]; rfl
  unfold fconv FloatKind.encode
  rw [if_neg (by rw [hn]; decide), h1]
  exact sm_nearest32 s m p e h2 he2 he

end Go.Proofs.Ytoiomgofbohmoaa
