/-
  Plain facts on floats: a half; how great the result of an operation is at most; so that a float64 is narrowed without passing the greatest float32.
-/
import Derived.Test.YtoiomgofbohmoaaFx
set_option linter.unusedVariables false
set_option linter.unusedSimpArgs false
namespace Go.Proofs.Ytoiomgofbohmoaa
open Go.RowKit

/-- 'x / 2' is '0.5 * x'. -/
theorem half_law (x : Nat) : fbin .quo .f32 x 1073741824 = fbin .mul .f32 1056964608 x := by
  have h1 : FloatKind.f32.decode 1073741824 = .number false 8388608 (-22) := by decide +kernel
  have h2 : FloatKind.f32.decode 1056964608 = .number false 8388608 (-24) := by decide +kernel
  unfold fbin floatBits Ieee.Format.mul Ieee.Format.div
  show (((FloatKind.f32.decode x).quotient (FloatKind.f32.format.fractionBits + 2) (FloatKind.f32.decode 1073741824)).map FloatKind.f32.format.write).getD _ = (((FloatKind.f32.decode 1056964608).product (FloatKind.f32.decode x)).map FloatKind.f32.format.write).getD _
  rw [h1, h2]
  have e25 : FloatKind.f32.format.fractionBits + 2 = 25 := by decide +kernel
  have l23 : Nat.log2 8388608 = 23 := by decide +kernel
  rw [e25]
  cases h : FloatKind.f32.decode x with
  | number s m p =>
    obtain ⟨hm, _, _⟩ := single_mag h
    simp only [Ieee.Datum.quotient, Ieee.Datum.product, l23, Bool.bne_false, Bool.false_bne, Option.map_some, Option.getD_some]
    rw [if_neg (by decide)]
    simp only [Option.map_some, Option.getD_some]
    show FloatKind.f32.format.nearest s _ _ = FloatKind.f32.format.nearest s (8388608 * m) (-24 + p)
    by_cases hm0 : m = 0
    · subst hm0
      simp [Ieee.Format.nearest]
    have hl : m.log2 < 24 := (Nat.log2_lt hm0).2 hm
    have e1 : m <<< (25 + 23 - m.log2) = m * 2 ^ (25 - m.log2) * 2 ^ 23 := by
      rw [Nat.shiftLeft_eq, Nat.mul_assoc, ← Nat.pow_add]
      congr 2
      omega
    rw [e1, show (8388608 : Nat) = 2 ^ 23 from rfl, Nat.mul_div_cancel _ (Nat.two_pow_pos 23), Nat.mul_mod_left]
    have e2 : 2 * (m * 2 ^ (25 - m.log2)) + ((0 : Nat) != 0).toNat = m * 2 ^ (26 - m.log2) := by
      have : 26 - m.log2 = (25 - m.log2) + 1 := by omega
      rw [this, Nat.pow_succ]
      simp
      rw [Nat.mul_comm 2, Nat.mul_assoc]
    rw [e2, nearest_scale, Nat.mul_comm (2 ^ 23) m, nearest_scale]
    congr 1
    omega
  | infinity s => cases s <;> simp [Ieee.Datum.quotient, Ieee.Datum.product]
  | nan s t => simp [Ieee.Datum.quotient, Ieee.Datum.product]

/-! ### How great -/

/-- 'm * 2 ^ p' is at most '2 ^ e'. -/
def MagLe (m : Nat) (p e : Int) : Prop := m = 0 ∨ (m.log2 : Int) + p < e ∨ (m = 2 ^ m.log2 ∧ (m.log2 : Int) + p = e)

theorem MagLe.mono {m : Nat} {p e e' : Int} (h : MagLe m p e) (he : e ≤ e') : MagLe m p e' := by
  rcases h with h | h | ⟨h1, h2⟩
  · exact .inl h
  · exact .inr (.inl (by omega))
  · by_cases hee : e = e'
    · exact .inr (.inr ⟨h1, by omega⟩)
    · exact .inr (.inl (by omega))

theorem magLe_of_le {m q : Nat} {p : Int} (h : m ≤ 2 ^ q) : MagLe m p (q + p) := by
  by_cases h0 : m = 0
  · exact .inl h0
  rcases Nat.lt_or_eq_of_le h with h | h
  · exact .inr (.inl (by have := (Nat.log2_lt h0).2 h; omega))
  · have : m.log2 = q := by rw [h]; exact Nat.log2_two_pow
    exact .inr (.inr ⟨by rw [this]; exact h, by omega⟩)

theorem cut_le (neg : Bool) (n d : Nat) : Ieee.Toward.even.cut neg n d ≤ n / 2 ^ min d (n.log2 + 2) + 1 := by
  unfold Ieee.Toward.cut
  dsimp only
  rw [Nat.one_shiftLeft]
  have : ∀ b : Bool, b.toNat ≤ 1 := fun b => by cases b <;> simp
  exact Nat.add_le_add_left (this _) _

theorem lt_pow_log2 (m : Nat) : m < 2 ^ (m.log2 + 1) := Nat.lt_log2_self

/-- The rung of what is at most '2 ^ e'. -/
theorem nearest_le (f : Ieee.Format) (neg : Bool) (m : Nat) (p e : Int) (h : MagLe m p e) (he : f.leastPlace + f.fractionBits ≤ e) :
    ∃ r, f.nearest neg m p = f.word neg r ∧ r ≤ (e - f.leastPlace - f.fractionBits + 1).toNat * f.binade := by
  have hb : f.binade = 2 ^ f.fractionBits := rfl
  have hbp : 0 < f.binade := Nat.two_pow_pos _
  by_cases hm : m = 0
  · refine ⟨0, ?_, Nat.zero_le _⟩
    unfold Ieee.Format.nearest
    rw [if_pos hm]
  have hL : (m.log2 : Int) + p < e ∨ (m = 2 ^ m.log2 ∧ (m.log2 : Int) + p = e) := by
    rcases h with h | h | h
    · exact absurd h hm
    · exact .inl h
    · exact .inr h
  refine ⟨_, by unfold Ieee.Format.nearest; rw [if_neg hm], Nat.le_trans (Nat.min_le_left ..) ?_⟩
  have hlt := lt_pow_log2 m
  by_cases hA : f.leastPlace ≤ p + m.log2 - f.fractionBits
  · have e1 : max (p + (m.log2 : Int) - f.fractionBits) f.leastPlace = p + m.log2 - f.fractionBits := by omega
    rw [e1]
    -- what is kept
    have hk : Ieee.Toward.even.cut neg (m <<< (p - (p + (m.log2 : Int) - f.fractionBits)).toNat) (p + (m.log2 : Int) - f.fractionBits - p).toNat ≤ 2 * f.binade ∧
        (m = 2 ^ m.log2 → Ieee.Toward.even.cut neg (m <<< (p - (p + (m.log2 : Int) - f.fractionBits)).toNat) (p + (m.log2 : Int) - f.fractionBits - p).toNat = f.binade) := by
      by_cases hf : m.log2 ≤ f.fractionBits
      · have a1 : (p - (p + (m.log2 : Int) - f.fractionBits)).toNat = f.fractionBits - m.log2 := by omega
        have a2 : (p + (m.log2 : Int) - f.fractionBits - p).toNat = 0 := by omega
        rw [a1, a2, cut_zero, Nat.shiftLeft_eq, hb]
        constructor
        · calc m * 2 ^ (f.fractionBits - m.log2) ≤ 2 ^ (m.log2 + 1) * 2 ^ (f.fractionBits - m.log2) := Nat.mul_le_mul_right _ (Nat.le_of_lt hlt)
            _ = 2 * 2 ^ f.fractionBits := by rw [← Nat.pow_add, show m.log2 + 1 + (f.fractionBits - m.log2) = f.fractionBits + 1 by omega, Nat.pow_succ, Nat.mul_comm]
        · intro hp
          conv => lhs; rw [hp]
          rw [Nat.log2_two_pow, ← Nat.pow_add]
          congr 1
          omega
      · have a1 : (p - (p + (m.log2 : Int) - f.fractionBits)).toNat = 0 := by omega
        have a2 : (p + (m.log2 : Int) - f.fractionBits - p).toNat = m.log2 - f.fractionBits := by omega
        rw [a1, a2, Nat.shiftLeft_zero]
        constructor
        · have hc := cut_le neg m (m.log2 - f.fractionBits)
          rw [Nat.min_eq_left (by omega)] at hc
          have hd : m / 2 ^ (m.log2 - f.fractionBits) < 2 ^ (f.fractionBits + 1) := by
            apply Nat.div_lt_of_lt_mul
            rw [← Nat.pow_add, show m.log2 - f.fractionBits + (f.fractionBits + 1) = m.log2 + 1 by omega]
            exact hlt
          rw [hb]
          rw [Nat.pow_succ] at hd
          omega
        · intro hp
          have := cut_exact neg 1 m.log2 (m.log2 - f.fractionBits) (by decide) (by omega)
          rw [Nat.one_mul, Nat.one_mul] at this
          conv => lhs; rw [hp]
          rw [Nat.log2_two_pow, this, hb]
          congr 1
          omega
    generalize Ieee.Toward.even.cut neg (m <<< (p - (p + (m.log2 : Int) - f.fractionBits)).toNat) (p + (m.log2 : Int) - f.fractionBits - p).toNat = kept at *
    rcases hL with hL | ⟨hp, hL⟩
    · have : (p + (m.log2 : Int) - f.fractionBits - f.leastPlace).toNat + 2 ≤ (e - f.leastPlace - f.fractionBits + 1).toNat := by omega
      calc (p + (m.log2 : Int) - f.fractionBits - f.leastPlace).toNat * f.binade + kept ≤ (p + (m.log2 : Int) - f.fractionBits - f.leastPlace).toNat * f.binade + 2 * f.binade := by omega
        _ = ((p + (m.log2 : Int) - f.fractionBits - f.leastPlace).toNat + 2) * f.binade := by rw [Nat.add_mul]
        _ ≤ _ := Nat.mul_le_mul_right _ this
    · rw [hk.2 hp]
      have : (p + (m.log2 : Int) - f.fractionBits - f.leastPlace).toNat + 1 = (e - f.leastPlace - f.fractionBits + 1).toNat := by omega
      rw [← this, Nat.add_mul, Nat.one_mul]
      exact Nat.le_refl _
  · have e1 : max (p + (m.log2 : Int) - f.fractionBits) f.leastPlace = f.leastPlace := by omega
    rw [e1]
    have e2 : (f.leastPlace - f.leastPlace).toNat = 0 := by omega
    rw [e2, Nat.zero_mul, Nat.zero_add]
    have hR : f.binade ≤ (e - f.leastPlace - f.fractionBits + 1).toNat * f.binade := Nat.le_mul_of_pos_left _ (by omega)
    refine Nat.le_trans ?_ hR
    by_cases hp : f.leastPlace ≤ p
    · have a2 : (f.leastPlace - p).toNat = 0 := by omega
      rw [a2, cut_zero, Nat.shiftLeft_eq, hb]
      calc m * 2 ^ (p - f.leastPlace).toNat ≤ 2 ^ (m.log2 + 1) * 2 ^ (p - f.leastPlace).toNat := Nat.mul_le_mul_right _ (Nat.le_of_lt hlt)
        _ = 2 ^ (m.log2 + 1 + (p - f.leastPlace).toNat) := by rw [← Nat.pow_add]
        _ ≤ 2 ^ f.fractionBits := Nat.pow_le_pow_right (by decide) (by omega)
    · have a1 : (p - f.leastPlace).toNat = 0 := by omega
      rw [a1, Nat.shiftLeft_zero]
      refine Nat.le_trans (cut_le neg m _) ?_
      generalize hd : (f.leastPlace - p).toNat = d
      rw [hb]
      by_cases hdl : d ≤ m.log2
      · rw [Nat.min_eq_left (by omega)]
        have h1 : m / 2 ^ d < 2 ^ (m.log2 + 1 - d) := by
          apply Nat.div_lt_of_lt_mul
          rw [← Nat.pow_add, show d + (m.log2 + 1 - d) = m.log2 + 1 by omega]
          exact hlt
        have h2 : 2 ^ (m.log2 + 1 - d) ≤ 2 ^ f.fractionBits := Nat.pow_le_pow_right (by decide) (by omega)
        omega
      · have h1 : m / 2 ^ min d (m.log2 + 2) = 0 := by
          apply Nat.div_eq_of_lt
          exact Nat.lt_of_lt_of_le hlt (Nat.pow_le_pow_right (by decide) (by omega))
        rw [h1]
        exact Nat.one_le_two_pow

/-- A finite word that is at most '2 ^ e'. -/
def Sm (k : FloatKind) (e : Int) (b : Nat) : Prop := ∃ s m p, k.decode b = .number s m p ∧ MagLe m p e

theorem Sm.mono {k : FloatKind} {e e' : Int} {b : Nat} (h : Sm k e b) (he : e ≤ e') : Sm k e' b := by
  obtain ⟨s, m, p, h1, h2⟩ := h
  exact ⟨s, m, p, h1, h2.mono he⟩

theorem decode_word (k : FloatKind) (neg : Bool) (r : Nat) (hr : r < k.format.infRung) : k.decode (k.format.word neg r) = (if r < k.format.binade then .number neg r k.format.leastPlace
    else .number neg (k.format.binade + r % k.format.binade) (k.format.leastPlace + (r / k.format.binade - 1 : Nat))) := by
  have hlt : k.format.infRung < k.format.signWeight := k.format.infRung_lt
  have hsp : 0 < k.format.signWeight := Nat.two_pow_pos _
  have hr' : r < k.format.signWeight := by omega
  have e1 : k.format.word neg r % k.format.signWeight = r := by
    unfold Ieee.Format.word
    cases neg
    · simp; exact Nat.mod_eq_of_lt hr'
    · simp; exact Nat.mod_eq_of_lt hr'
  have e2 : (k.format.word neg r / k.format.signWeight % 2 == 1) = neg := by
    unfold Ieee.Format.word
    cases neg
    · simp [Nat.div_eq_of_lt hr']
    · rw [if_pos rfl, Nat.add_div_left _ hsp, Nat.div_eq_of_lt hr']; rfl
  unfold FloatKind.decode Ieee.Format.read
  dsimp only
  rw [e1, e2]
  split
  · rfl
  · rfl

theorem sm_word (k : FloatKind) (neg : Bool) (r : Nat) (e : Int) (he : k.format.leastPlace + k.format.fractionBits ≤ e) (hr : r ≤ (e - k.format.leastPlace - k.format.fractionBits + 1).toNat * k.format.binade)
    (hi : (e - k.format.leastPlace - k.format.fractionBits + 1).toNat * k.format.binade < k.format.infRung) : Sm k e (k.format.word neg r) := by
  have hb : k.format.binade = 2 ^ k.format.fractionBits := rfl
  have hbp : 0 < k.format.binade := Nat.two_pow_pos _
  unfold Sm
  rw [decode_word k neg r (by omega)]
  by_cases h : r < k.format.binade
  · rw [if_pos h]
    refine ⟨_, _, _, rfl, (magLe_of_le (q := k.format.fractionBits) (by omega)).mono (by omega)⟩
  · rw [if_neg h]
    refine ⟨_, _, _, rfl, ?_⟩
    have hE : 1 ≤ r / k.format.binade := (Nat.one_le_div_iff hbp).2 (by omega)
    have hdm := Nat.div_add_mod r k.format.binade
    have hF : r % k.format.binade < k.format.binade := Nat.mod_lt _ hbp
    have hl : (k.format.binade + r % k.format.binade).log2 = k.format.fractionBits := log2_of (by omega) (by rw [Nat.pow_succ]; omega)
    have hle : r / k.format.binade ≤ (e - k.format.leastPlace - k.format.fractionBits + 1).toNat := by
      calc r / k.format.binade ≤ ((e - k.format.leastPlace - k.format.fractionBits + 1).toNat * k.format.binade) / k.format.binade := Nat.div_le_div_right hr
        _ = _ := Nat.mul_div_cancel _ hbp
    rcases Nat.lt_or_eq_of_le hle with hlt | heq
    · right; left
      rw [hl]
      generalize r / k.format.binade = E at *
      omega
    · right; right
      have hz : r % k.format.binade = 0 := by
        rw [heq] at hdm
        rw [Nat.mul_comm] at hdm
        omega
      rw [hl, hz, Nat.add_zero]
      refine ⟨hb, ?_⟩
      rw [heq]
      omega

/-- What is at most '2 ^ e' stays so when it is rounded. -/
theorem sm_nearest (k : FloatKind) (neg : Bool) (m : Nat) (p e : Int) (h : MagLe m p e) (he : k.format.leastPlace + k.format.fractionBits ≤ e)
    (hi : (e - k.format.leastPlace - k.format.fractionBits + 1).toNat * k.format.binade < k.format.infRung) : Sm k e (k.format.nearest neg m p) := by
  obtain ⟨r, hr, hle⟩ := nearest_le k.format neg m p e h he
  rw [hr]
  exact sm_word k neg r e he hle hi

theorem sm_nearest64 (neg : Bool) (m : Nat) (p e : Int) (h : MagLe m p e) (he : -1000 ≤ e) (hi : e ≤ 1000) : Sm .f64 e (FloatKind.f64.format.nearest neg m p) := by
  have e1 : FloatKind.f64.format.leastPlace = -1074 := by decide +kernel
  have e2 : FloatKind.f64.format.fractionBits = 52 := by decide +kernel
  have e3 : FloatKind.f64.format.binade = 4503599627370496 := by decide +kernel
  have e4 : FloatKind.f64.format.infRung = 9218868437227405312 := by decide +kernel
  refine sm_nearest .f64 neg m p e h (by rw [e1, e2]; omega) (by rw [e1, e2, e3, e4]; omega)
theorem sm_nearest32 (neg : Bool) (m : Nat) (p e : Int) (h : MagLe m p e) (he : -100 ≤ e) (hi : e ≤ 126) : Sm .f32 e (FloatKind.f32.format.nearest neg m p) := by
  have e1 : FloatKind.f32.format.leastPlace = -149 := by decide +kernel
  have e2 : FloatKind.f32.format.fractionBits = 23 := by decide +kernel
  have e3 : FloatKind.f32.format.binade = 8388608 := by decide +kernel
  have e4 : FloatKind.f32.format.infRung = 2139095040 := by decide +kernel
  refine sm_nearest .f32 neg m p e h (by rw [e1, e2]; omega) (by rw [e1, e2, e3, e4]; omega)

theorem Sm.fin {k : FloatKind} {e : Int} {b : Nat} (h : Sm k e b) : finB k b = true := by
  obtain ⟨s, m, p, h1, _⟩ := h
  unfold finB; rw [h1]; rfl
theorem Sm.not_nan {k : FloatKind} {e : Int} {b : Nat} (h : Sm k e b) : isN k b = false := isN_of_fin h.fin

/-- A float64 that is no greater than '2 ^ 126' is narrowed to a finite number. -/
theorem narrow_ok {e : Int} {b : Nat} (h : Sm .f64 e b) (he : e ≤ 126) : convOk .f64 .f32 b = true ∧ finB .f32 (fconv .f64 .f32 b) = true := by
  obtain ⟨s, m, p, h1, h2⟩ := h
  have hs : Sm .f32 126 (FloatKind.f32.encode (FloatKind.f64.decode b)) := by
    rw [h1]
    exact sm_nearest32 s m p 126 (h2.mono he) (by decide) (by decide)
  have hn : isN .f64 b = false := by unfold isN; rw [h1]; rfl
  constructor
  · unfold convOk
    obtain ⟨s', m', p', h1', _⟩ := hs
    rw [h1']
    simp [Ieee.Datum.isInfinity]
  · unfold fconv
    rw [hn]
    exact hs.fin

end Go.Proofs.Ytoiomgofbohmoaa
