/-
  Plain facts on the rounding of floats: a number that a format has is written as itself, whatever its mantissa and place; so 'x * 1', 'x * 0.5 = x / 2', 'x + -y = x - y'.
-/
import Derived.Test.YtoiomgofbohmoaaFl
set_option linter.unusedVariables false
set_option linter.unusedSimpArgs false
namespace Go.Proofs.Ytoiomgofbohmoaa
open Go.RowKit

theorem log2_mul_pow (m k : Nat) (h : m ≠ 0) : (m * 2 ^ k).log2 = m.log2 + k := by
  induction k with
  | zero => simp
  | succ k ih =>
    have e : m * 2 ^ (k + 1) = 2 * (m * 2 ^ k) := by rw [Nat.pow_succ]; rw [← Nat.mul_assoc, Nat.mul_comm]
    rw [e, Nat.log2_two_mul (Nat.mul_ne_zero h (Nat.pos_iff_ne_zero.1 (Nat.two_pow_pos k))), ih]
    omega

theorem cut_zero (neg : Bool) (n : Nat) : Ieee.Toward.even.cut neg n 0 = n := by
  unfold Ieee.Toward.cut
  simp [Nat.mod_one]

theorem shl_min (n d : Nat) (h : d ≤ n.log2 + 2) : 1 <<< min d (n.log2 + 2) = 2 ^ d := by
  rw [Nat.min_eq_left h, Nat.one_shiftLeft]

/-- What is cut off is nought: nothing is rounded. -/
theorem cut_exact (neg : Bool) (m k d : Nat) (hm : m ≠ 0) (hd : d ≤ k) : Ieee.Toward.even.cut neg (m * 2 ^ k) d = m * 2 ^ (k - d) := by
  have hl : (m * 2 ^ k).log2 = m.log2 + k := log2_mul_pow m k hm
  unfold Ieee.Toward.cut
  dsimp only
  rw [shl_min _ _ (by omega)]
  have e : m * 2 ^ k = (m * 2 ^ (k - d)) * 2 ^ d := by
    rw [Nat.mul_assoc, ← Nat.pow_add]
    congr 2
    omega
  have hp : 0 < 2 ^ d := Nat.two_pow_pos d
  rw [e, Nat.mul_div_cancel _ hp, Nat.mul_mod_left]
  have h1 : ¬ (2 ^ d < 2 * 0) := by omega
  have h2 : (2 ^ d == 2 * 0) = false := by simp
  simp [h2]

/-- Zeros behind change nothing. -/
theorem cut_scale (neg : Bool) (m k d : Nat) (hm : m ≠ 0) : Ieee.Toward.even.cut neg (m * 2 ^ k) (d + k) = Ieee.Toward.even.cut neg m d := by
  have hl : (m * 2 ^ k).log2 = m.log2 + k := log2_mul_pow m k hm
  unfold Ieee.Toward.cut
  dsimp only
  have hg : 1 <<< min (d + k) ((m * 2 ^ k).log2 + 2) = (1 <<< min d (m.log2 + 2)) * 2 ^ k := by
    rw [hl, Nat.one_shiftLeft, Nat.one_shiftLeft, ← Nat.pow_add]
    congr 1
    omega
  rw [hg]
  generalize 1 <<< min d (m.log2 + 2) = g
  have hp : 0 < 2 ^ k := Nat.two_pow_pos k
  rw [Nat.mul_div_mul_right _ _ hp, Nat.mul_mod_mul_right]
  have h1 : (g * 2 ^ k < 2 * (m % g * 2 ^ k)) ↔ (g < 2 * (m % g)) := by
    rw [← Nat.mul_assoc]
    exact Nat.mul_lt_mul_right hp
  have h2 : (g * 2 ^ k == 2 * (m % g * 2 ^ k)) = (g == 2 * (m % g)) := by
    rw [Bool.eq_iff_iff, beq_iff_eq, beq_iff_eq, ← Nat.mul_assoc]
    exact Nat.mul_left_inj (by omega)
  rw [h2]
  congr 3
  exact decide_eq_decide.2 h1

/-- The word of a number does not hang on how it is spelt. -/
theorem nearest_scale (f : Ieee.Format) (neg : Bool) (m k : Nat) (p : Int) : f.nearest neg (m * 2 ^ k) p = f.nearest neg m (p + k) := by
  by_cases hm : m = 0
  · subst hm; unfold Ieee.Format.nearest; simp
  have hm2 : m * 2 ^ k ≠ 0 := Nat.mul_ne_zero hm (by have := Nat.two_pow_pos k; omega)
  unfold Ieee.Format.nearest
  rw [if_neg hm, if_neg hm2]
  dsimp only
  rw [log2_mul_pow m k hm]
  have e1 : max (p + ((m.log2 + k : Nat) : Int) - f.fractionBits) f.leastPlace = max (p + (k : Int) + (m.log2 : Int) - f.fractionBits) f.leastPlace := by
    congr 1
    omega
  rw [e1]
  generalize max (p + (k : Int) + (m.log2 : Int) - f.fractionBits) f.leastPlace = last
  congr 2
  congr 1
  rw [Nat.shiftLeft_eq, Nat.shiftLeft_eq]
  by_cases h1 : last ≤ p
  · have a1 : (last - p).toNat = 0 := by omega
    have a2 : (last - (p + k)).toNat = 0 := by omega
    rw [a1, a2, cut_zero, cut_zero, Nat.mul_assoc, ← Nat.pow_add]
    congr 2
    omega
  · by_cases h2 : last ≤ p + k
    · have a2 : (last - (p + k)).toNat = 0 := by omega
      have a3 : (p - last).toNat = 0 := by omega
      rw [a2, a3, cut_zero, Nat.pow_zero, Nat.mul_one, cut_exact neg m k _ hm (by omega)]
      congr 2
      omega
    · have a3 : (p - last).toNat = 0 := by omega
      have a4 : (p + k - last).toNat = 0 := by omega
      have a5 : (last - p).toNat = (last - (p + k)).toNat + k := by omega
      rw [a3, a4, a5, Nat.pow_zero, Nat.mul_one, Nat.mul_one, cut_scale neg m k _ hm]

/-- The magnitude of a rung, in units of the least place. -/
def rungVal (f : Ieee.Format) (r : Nat) : Nat := if r < f.binade then r else (f.binade + r % f.binade) * 2 ^ (r / f.binade - 1)

theorem log2_of {n k : Nat} (h1 : 2 ^ k ≤ n) (h2 : n < 2 ^ (k + 1)) : n.log2 = k := by
  have hn : n ≠ 0 := by have := Nat.two_pow_pos k; omega
  rw [Nat.log2_eq_iff hn]
  exact ⟨h1, h2⟩

/-- A word's magnitude is written as its rung. -/
theorem nearest_rung (f : Ieee.Format) (neg : Bool) (r : Nat) (h : r < f.infRung) : f.nearest neg (rungVal f r) f.leastPlace = f.word neg r := by
  have hb : f.binade = 2 ^ f.fractionBits := rfl
  have hbp : 0 < f.binade := Nat.two_pow_pos _
  unfold rungVal
  by_cases hr : r < f.binade
  · rw [if_pos hr]
    unfold Ieee.Format.nearest
    by_cases h0 : r = 0
    · rw [if_pos h0, h0]
    · rw [if_neg h0]
      dsimp only
      have hl : r.log2 < f.fractionBits := (Nat.log2_lt h0).2 (by omega)
      have e : max (f.leastPlace + (r.log2 : Int) - f.fractionBits) f.leastPlace = f.leastPlace := by omega
      rw [e]
      simp only [Int.sub_self, Int.toNat_zero, Nat.zero_mul, Nat.zero_add, Nat.shiftLeft_zero, cut_zero]
      rw [Nat.min_eq_left (by omega)]
  · rw [if_neg hr]
    have hge : f.binade ≤ r := by omega
    have hE : 1 ≤ r / f.binade := (Nat.one_le_div_iff hbp).2 hge
    have hF : r % f.binade < f.binade := Nat.mod_lt _ hbp
    have hdm : f.binade * (r / f.binade) + r % f.binade = r := Nat.div_add_mod r f.binade
    generalize r / f.binade = E at *
    generalize r % f.binade = F at *
    rw [nearest_scale]
    unfold Ieee.Format.nearest
    rw [if_neg (by omega)]
    dsimp only
    have hl : (f.binade + F).log2 = f.fractionBits := log2_of (by omega) (by rw [Nat.pow_succ]; omega)
    rw [hl]
    have e : max (f.leastPlace + ((E - 1 : Nat) : Int) + (f.fractionBits : Int) - f.fractionBits) f.leastPlace = f.leastPlace + ((E - 1 : Nat) : Int) := by omega
    rw [e]
    have e2 : (f.leastPlace + ((E - 1 : Nat) : Int) - (f.leastPlace + ((E - 1 : Nat) : Int))).toNat = 0 := by omega
    have e3 : (f.leastPlace + ((E - 1 : Nat) : Int) - f.leastPlace).toNat = E - 1 := by omega
    rw [e2, e3, Nat.shiftLeft_zero, cut_zero]
    have e4 : (E - 1) * f.binade + (f.binade + F) = r := by
      obtain ⟨e, rfl⟩ : ∃ e, E = e + 1 := ⟨E - 1, by omega⟩
      rw [Nat.add_sub_cancel, ← Nat.add_assoc, ← Nat.succ_mul, Nat.mul_comm]
      exact hdm
    rw [e4, Nat.min_eq_left (by omega)]

/-- A finite word is read as its rung's magnitude. -/
theorem nearest_read (f : Ieee.Format) (b : Nat) (neg t : Bool) (m : Nat) (p : Int) (h : f.read b = .number neg m p) (hb : b < 2 * f.signWeight) (hlt : f.binade ≤ f.infRung) : f.nearest t m p = f.word t (b % f.signWeight) ∧ neg = (b / f.signWeight == 1) := by
  have hd : b / f.signWeight < 2 := Nat.div_lt_of_lt_mul (by rw [Nat.mul_comm]; exact hb)
  have hneg : (b / f.signWeight % 2 == 1) = (b / f.signWeight == 1) := by rw [Nat.mod_eq_of_lt hd]
  unfold Ieee.Format.read at h
  dsimp only at h
  split at h
  · rename_i hr
    cases h
    refine ⟨?_, hneg⟩
    have := nearest_rung f t (b % f.signWeight) (by omega)
    unfold rungVal at this
    rw [if_pos hr] at this
    exact this
  · split at h
    · rename_i hr hr2
      cases h
      refine ⟨?_, hneg⟩
      have := nearest_rung f t (b % f.signWeight) hr2
      unfold rungVal at this
      rw [if_neg hr, nearest_scale] at this
      exact this
    · split at h <;> cases h

theorem binade_le (k : FloatKind) : k.format.binade ≤ k.format.infRung := by cases k <;> decide +kernel

def width2 (k : FloatKind) : Nat := 2 * k.format.signWeight

theorem word_of (f : Ieee.Format) (b : Nat) (hb : b < 2 * f.signWeight) : f.word (b / f.signWeight == 1) (b % f.signWeight) = b := by
  have hd : b / f.signWeight < 2 := Nat.div_lt_of_lt_mul (by rw [Nat.mul_comm]; exact hb)
  have hdm := Nat.div_add_mod b f.signWeight
  unfold Ieee.Format.word
  have hc : b / f.signWeight = 0 ∨ b / f.signWeight = 1 := by
    clear hdm
    generalize b / f.signWeight = q at hd ⊢
    omega
  rcases hc with hc | hc
  · rw [hc] at hdm ⊢
    rw [if_neg (by decide)]
    omega
  · rw [hc] at hdm ⊢
    rw [if_pos (by decide)]
    omega

/-- A finite word is written as it was read. -/
theorem nearest_same (k : FloatKind) {b : Nat} {neg : Bool} {m : Nat} {p : Int} (h : k.decode b = .number neg m p) (hb : b < width2 k) : k.format.nearest neg m p = b := by
  obtain ⟨h1, h2⟩ := nearest_read k.format b neg neg m p h hb (binade_le k)
  rw [h1, h2, word_of _ _ hb]

theorem inf_read (k : FloatKind) {b : Nat} {neg : Bool} (h : k.decode b = .infinity neg) (hb : b < width2 k) : k.format.word neg k.format.infRung = b := by
  have hw := word_of k.format b hb
  have hd : b / k.format.signWeight < 2 := Nat.div_lt_of_lt_mul (by rw [Nat.mul_comm]; exact hb)
  have hneg : (b / k.format.signWeight % 2 == 1) = (b / k.format.signWeight == 1) := by rw [Nat.mod_eq_of_lt hd]
  unfold FloatKind.decode Ieee.Format.read at h
  dsimp only at h
  rw [hneg] at h
  split at h
  · cases h
  · split at h
    · cases h
    · split at h
      · rename_i he
        cases h
        rw [he] at hw
        exact hw
      · cases h

theorem word_fin (k : FloatKind) (neg : Bool) (r : Nat) (hr : r < k.format.infRung) : (k.decode (k.format.word neg r)).isInfinity = false := by
  have hlt : k.format.infRung < k.format.signWeight := k.format.infRung_lt
  have e1 : k.format.word neg r % k.format.signWeight = r := by
    unfold Ieee.Format.word
    cases neg
    · simp; exact Nat.mod_eq_of_lt (by omega)
    · simp; exact Nat.mod_eq_of_lt (by omega)
  unfold FloatKind.decode Ieee.Format.read
  dsimp only
  rw [e1]
  split
  · rfl
  · rfl

/-- The canonical bits of a word: written as read. -/
theorem encode_decode (k : FloatKind) {b : Nat} (hb : b < width2 k) (hn : isN k b = false) : k.encode (k.decode b) = b := by
  cases h : k.decode b with
  | number neg m p => exact nearest_same k h hb
  | infinity neg => exact inf_read k h hb
  | nan s t => unfold isN at hn; rw [h] at hn; simp [Ieee.Datum.isNaN] at hn

theorem opposite_word (k : FloatKind) (neg : Bool) (r : Nat) (hr : r < k.format.signWeight) : Op.negFloat k (k.format.word neg r) = k.format.word (!neg) r := by
  unfold Op.negFloat Ieee.Format.word
  show (if neg = true then k.format.signWeight + r else r) ^^^ k.format.signWeight = (if (!neg) = true then k.format.signWeight + r else r)
  have hr' : r < 2 ^ (k.format.exponentBits + k.format.fractionBits) := hr
  have hs : k.format.signWeight = 2 ^ (k.format.exponentBits + k.format.fractionBits) := rfl
  have e : k.format.signWeight + r = r ^^^ k.format.signWeight := by
    rw [hs]
    have := Nat.two_pow_add_eq_or_of_lt hr' 1
    rw [Nat.mul_one] at this
    rw [this]
    apply Nat.eq_of_testBit_eq
    intro i
    rw [Nat.testBit_or, Nat.testBit_xor, Nat.testBit_two_pow]
    by_cases hi : k.format.exponentBits + k.format.fractionBits = i
    · subst hi
      have : r.testBit (k.format.exponentBits + k.format.fractionBits) = false := Nat.testBit_lt_two_pow hr'
      simp [this]
    · simp [hi]
  cases neg
  · simp only [Bool.false_eq_true, if_false, Bool.not_false, if_true]
    rw [e]
  · simp only [if_true, Bool.not_true, Bool.false_eq_true, if_false]
    rw [e, Nat.xor_assoc, Nat.xor_self, Nat.xor_zero]

theorem nearest_opposite (k : FloatKind) (neg : Bool) (m : Nat) (p : Int) : k.format.nearest (!neg) m p = Op.negFloat k (k.format.nearest neg m p) := by
  have hi : k.format.infRung < k.format.signWeight := k.format.infRung_lt
  unfold Ieee.Format.nearest
  dsimp only
  split
  · rw [opposite_word k neg 0 (by omega)]
  · have hc : ∀ d n, Ieee.Toward.even.cut (!neg) n d = Ieee.Toward.even.cut neg n d := fun d n => rfl
    rw [hc, opposite_word k neg _ (Nat.lt_of_le_of_lt (Nat.min_le_right ..) hi)]

theorem encode_opposite (k : FloatKind) (d : Ieee.Datum) (h : d.isNaN = false) : k.encode d.opposite = Op.negFloat k (k.encode d) := by
  have hi : k.format.infRung < k.format.signWeight := k.format.infRung_lt
  cases d with
  | number neg m p => exact nearest_opposite k neg m p
  | infinity neg => exact (opposite_word k neg _ hi).symm
  | nan s t => simp [Ieee.Datum.isNaN] at h

/-- The opposite of a word reads as the opposite datum. -/
theorem decode_neg (k : FloatKind) {b : Nat} (hb : b < width2 k) (hn : isN k b = false) : k.decode (Op.negFloat k b) = (k.decode b).opposite := by
  have hw := word_of k.format b hb
  have hr : b % k.format.signWeight < k.format.signWeight := Nat.mod_lt _ (Nat.two_pow_pos _)
  have h1 : Op.negFloat k b = k.format.word (!(b / k.format.signWeight == 1)) (b % k.format.signWeight) := by
    rw [← opposite_word k _ _ hr, hw]
  have key : ∀ (neg : Bool) (r : Nat), r < k.format.signWeight → k.decode (k.format.word neg r) = (if r < k.format.binade then .number neg r k.format.leastPlace
      else if r < k.format.infRung then .number neg (k.format.binade + r % k.format.binade) (k.format.leastPlace + (r / k.format.binade - 1 : Nat))
      else if r = k.format.infRung then .infinity neg else .nan neg (r - k.format.infRung)) := by
    intro neg r hr
    have hsp : 0 < k.format.signWeight := Nat.two_pow_pos _
    have e1 : k.format.word neg r % k.format.signWeight = r := by
      unfold Ieee.Format.word
      cases neg
      · simp; exact Nat.mod_eq_of_lt hr
      · simp; exact Nat.mod_eq_of_lt hr
    have e2 : (k.format.word neg r / k.format.signWeight % 2 == 1) = neg := by
      unfold Ieee.Format.word
      cases neg
      · simp [Nat.div_eq_of_lt hr]
      · rw [if_pos rfl, Nat.add_div_left _ hsp, Nat.div_eq_of_lt hr]; rfl
    unfold FloatKind.decode Ieee.Format.read
    dsimp only
    rw [e1, e2]
  rw [h1, key _ _ hr]
  conv => rhs; rw [← hw, key _ _ hr]
  split
  · rfl
  · split
    · rfl
    · split
      · rfl
      · rfl

theorem fbin_lt (op : BinOp) (k : FloatKind) (x y : Nat) : fbin op k x y < width2 k := by
  unfold fbin
  cases h : floatBits op k x y with
  | none => cases k <;> decide +kernel
  | some r =>
    have h1 := floatBits_wf h
    cases k
    · simp [Lit.wf] at h1; show r < width2 .f32; have : width2 .f32 = 4294967296 := by decide +kernel
      omega
    · simp [Lit.wf] at h1; show r < width2 .f64; have : width2 .f64 = 18446744073709551616 := by decide +kernel
      omega

theorem fbin_of {op : BinOp} {k : FloatKind} {x y r : Nat} (h : floatBits op k x y = some r) : fbin op k x y = r := by unfold fbin; rw [h]; rfl

/-- 'x - y' is 'x + -y'. -/
theorem add_neg (k : FloatKind) (x y : Nat) (hy : y < width2 k) : fbin .add k x (Op.negFloat k y) = fbin .sub k x y := by
  cases hn : isN k y
  · unfold fbin floatBits Ieee.Format.add Ieee.Format.sub
    show (((k.decode x).sum (k.decode (Op.negFloat k y))).map k.format.write).getD (nanOf k) = (((k.decode x).sum (k.decode y).opposite).map k.format.write).getD (nanOf k)
    rw [decode_neg k hy hn]
  · unfold fbin floatBits Ieee.Format.add Ieee.Format.sub
    show (((k.decode x).sum (k.decode (Op.negFloat k y))).map k.format.write).getD (nanOf k) = (((k.decode x).sum (k.decode y).opposite).map k.format.write).getD (nanOf k)
    rw [sum_nan_right ((isN_neg k y).trans hn), sum_nan_right ((isNaN_opposite _).trans hn)]

/-- '1 * y' is y. -/
theorem one_mul32 (y : Nat) (hy : y < width2 .f32) : fbin .mul .f32 1065353216 y = cn .f32 y := by
  have h1 : FloatKind.f32.decode 1065353216 = .number false 8388608 (-23) := by decide +kernel
  unfold fbin floatBits Ieee.Format.mul
  show (((FloatKind.f32.decode 1065353216).product (FloatKind.f32.decode y)).map FloatKind.f32.format.write).getD _ = _
  rw [h1]
  cases hn : isN .f32 y
  · rw [cn_of_not hn]
    cases h : FloatKind.f32.decode y with
    | number neg m p =>
      simp only [Ieee.Datum.product, Option.map_some, Option.getD_some, Bool.false_bne]
      show FloatKind.f32.format.nearest neg (8388608 * m) (-23 + p) = y
      rw [Nat.mul_comm, show (8388608 : Nat) = 2 ^ 23 from rfl, nearest_scale, show (-23 + p + ((23 : Nat) : Int)) = p by omega]
      exact nearest_same .f32 h hy
    | infinity neg =>
      simp [Ieee.Datum.product]
      exact inf_read .f32 h hy
    | nan s t => unfold isN at hn; rw [h] at hn; simp [Ieee.Datum.isNaN] at hn
  · rw [cn_of_nan hn, product_nan_right hn]
    rfl

/-- '-1 * y' is the opposite of y. -/
theorem negone_mul32 (y : Nat) (hy : y < width2 .f32) : fbin .mul .f32 3212836864 y = fneg .f32 y := by
  have h1 : FloatKind.f32.decode 3212836864 = .number true 8388608 (-23) := by decide +kernel
  unfold fbin floatBits Ieee.Format.mul fneg
  show (((FloatKind.f32.decode 3212836864).product (FloatKind.f32.decode y)).map FloatKind.f32.format.write).getD _ = _
  rw [h1]
  cases hn : isN .f32 y
  · rw [cn_of_not ((isN_neg .f32 y).trans hn)]
    cases h : FloatKind.f32.decode y with
    | number neg m p =>
      simp only [Ieee.Datum.product, Option.map_some, Option.getD_some, Bool.true_bne]
      show FloatKind.f32.format.nearest (!neg) (8388608 * m) (-23 + p) = _
      rw [Nat.mul_comm, show (8388608 : Nat) = 2 ^ 23 from rfl, nearest_scale, show (-23 + p + ((23 : Nat) : Int)) = p by omega, nearest_opposite]
      rw [nearest_same .f32 h hy]
    | infinity neg =>
      simp [Ieee.Datum.product]
      have := encode_opposite .f32 (.infinity neg) rfl
      have e : FloatKind.f32.encode (.infinity neg) = y := inf_read .f32 h hy
      rw [e] at this
      exact this
    | nan s t => unfold isN at hn; rw [h] at hn; simp [Ieee.Datum.isNaN] at hn
  · rw [cn_of_nan ((isN_neg .f32 y).trans hn), product_nan_right hn]
    rfl

theorem gt_same {k : FloatKind} {r s X c : Nat} (h1 : cn k r = X) (h2 : cn k s = X) : (gtF k r c == gtF k s c) = true := by
  rw [← gtF_cn k r, ← gtF_cn k s, h1, h2]
  simp

theorem single_mag {b : Nat} {neg : Bool} {m : Nat} {p : Int} (h : FloatKind.f32.decode b = .number neg m p) : m < 16777216 ∧ -149 ≤ p ∧ p ≤ 104 := by
  unfold FloatKind.decode Ieee.Format.read at h
  have e1 : FloatKind.f32.format.binade = 8388608 := by decide +kernel
  have e2 : FloatKind.f32.format.infRung = 2139095040 := by decide +kernel
  have e3 : FloatKind.f32.format.leastPlace = -149 := by decide +kernel
  have e4 : FloatKind.f32.format.signWeight = 2147483648 := by decide +kernel
  dsimp only at h
  rw [e1, e2, e3, e4] at h
  split at h
  · cases h; omega
  · split at h
    · cases h; omega
    · split at h <;> cases h

/-- The rung of a float32's number among the float64s. -/
theorem nearest_wide (neg : Bool) (m : Nat) (p : Int) (hm0 : m ≠ 0) (hm : m < 16777216) (h1 : -149 ≤ p) (h2 : p ≤ 104) :
    FloatKind.f64.format.nearest neg m p = FloatKind.f64.format.word neg ((p + m.log2 + 1022).toNat * 4503599627370496 + m * 2 ^ (52 - m.log2)) ∧ 4503599627370496 ≤ m * 2 ^ (52 - m.log2) ∧ m * 2 ^ (52 - m.log2) < 9007199254740992 := by
  have hl : m.log2 < 24 := (Nat.log2_lt hm0).2 hm
  have hlo : 2 ^ m.log2 ≤ m := Nat.log2_self_le hm0
  have hhi : m < 2 ^ (m.log2 + 1) := Nat.lt_log2_self
  have k1 : 4503599627370496 ≤ m * 2 ^ (52 - m.log2) := by
    calc 4503599627370496 = 2 ^ m.log2 * 2 ^ (52 - m.log2) := by rw [← Nat.pow_add, show m.log2 + (52 - m.log2) = 52 by omega]
      _ ≤ _ := Nat.mul_le_mul_right _ hlo
  have k2 : m * 2 ^ (52 - m.log2) < 9007199254740992 := by
    calc m * 2 ^ (52 - m.log2) < 2 ^ (m.log2 + 1) * 2 ^ (52 - m.log2) := Nat.mul_lt_mul_of_pos_right hhi (Nat.two_pow_pos _)
      _ = 9007199254740992 := by rw [← Nat.pow_add, show m.log2 + 1 + (52 - m.log2) = 53 by omega]
  refine ⟨?_, k1, k2⟩
  have e1 : FloatKind.f64.format.binade = 4503599627370496 := by decide +kernel
  have e2 : FloatKind.f64.format.infRung = 9218868437227405312 := by decide +kernel
  have e3 : FloatKind.f64.format.leastPlace = -1074 := by decide +kernel
  have e5 : FloatKind.f64.format.fractionBits = 52 := by decide +kernel
  unfold Ieee.Format.nearest
  rw [if_neg hm0]
  dsimp only
  rw [e1, e2, e3, e5]
  have e6 : max (p + (m.log2 : Int) - ((52 : Nat) : Int)) (-1074) = p + m.log2 - 52 := by omega
  rw [e6]
  have e7 : (p + (m.log2 : Int) - 52 - p).toNat = 0 := by omega
  have e8 : (p - (p + (m.log2 : Int) - 52)).toNat = 52 - m.log2 := by omega
  have e9 : (p + (m.log2 : Int) - 52 - -1074).toNat = (p + m.log2 + 1022).toNat := by congr 1; omega
  rw [e7, e8, e9, cut_zero, Nat.shiftLeft_eq]
  rw [Nat.min_eq_left ?_]
  have : (p + m.log2 + 1022).toNat ≤ 1149 := by omega
  generalize m * 2 ^ (52 - m.log2) = kept at *
  omega

theorem widen_ok (b : Nat) : convOk .f32 .f64 b = true := by
  unfold convOk finB isN
  cases h : FloatKind.f32.decode b with
  | number neg m p =>
    obtain ⟨h1, h2, h3⟩ := single_mag h
    have e2 : FloatKind.f64.format.infRung = 9218868437227405312 := by decide +kernel
    simp only [Ieee.Datum.isNaN, finD, Bool.not_true, Bool.false_or, Bool.not_eq_true']
    by_cases hm0 : m = 0
    · subst hm0
      show (FloatKind.f64.decode (FloatKind.f64.format.nearest neg 0 p)).isInfinity = false
      unfold Ieee.Format.nearest
      rw [if_pos rfl]
      cases neg <;> decide +kernel
    · obtain ⟨k0, k1, k2⟩ := nearest_wide neg m p hm0 h1 h2 h3
      show (FloatKind.f64.decode (FloatKind.f64.format.nearest neg m p)).isInfinity = false
      rw [k0]
      have hr : (p + m.log2 + 1022).toNat ≤ 1149 := by
        have hl : m.log2 < 24 := (Nat.log2_lt hm0).2 h1
        omega
      generalize m * 2 ^ (52 - m.log2) = kept at *
      generalize (p + m.log2 + 1022).toNat = E at *
      exact word_fin .f64 neg _ (by omega)
  | infinity s => simp [finD]
  | nan s t => rfl

theorem widen_same {x y r s : Nat} (hr : cn .f64 r = fconv .f32 .f64 (cn .f32 x)) (hs : cn .f64 s = fconv .f32 .f64 (cn .f32 y)) (h : cn .f32 x = cn .f32 y) : cn .f64 r = cn .f64 s := by rw [hr, hs, h]

section
variable {P : Program} {ops : Array Oper} {Q : Exit → Act → World → Prop} {a : Act} {w : World} {rest : List Oper} {o : Oper}
/-- 'float64(x)' of a float32. -/
theorem wpList_widen {src dst : TypeId} {x : Operand} {b : Nat} (hop : o.op = Op.convert src dst x) (hx : a.eval x = .float .f32 b)
    (hd : P.underlying dst = some (.float .f64)) (hs : P.underlying src = some (.float .f32)) (hg : o.guard = none)
    (hK : ∀ r n, Hid (cn .f64 r = fconv .f32 .f64 (cn .f32 b)) → wpList P ops Q rest (a.put o.dst (.float .f64 r)) (w.drewN n)) : wpList P ops Q (o :: rest) a w :=
  wpList_fconv hop hx hd (by rw [hs]; rfl) (by decide) hg fun r n hr => hK r n (hr.out (widen_ok _))
/-- 'float32(x)' of a float64. -/
theorem wpList_narrow {src dst : TypeId} {x : Operand} {b : Nat} (hop : o.op = Op.convert src dst x) (hx : a.eval x = .float .f64 b)
    (hd : P.underlying dst = some (.float .f32)) (hs : P.underlying src = some (.float .f64)) (hg : o.guard = none)
    (hK : ∀ r n, Hid (convOk .f64 .f32 (cn .f64 b) = true → cn .f32 r = fconv .f64 .f32 (cn .f64 b)) → wpList P ops Q rest (a.put o.dst (.float .f32 r)) (w.drewN n)) : wpList P ops Q (o :: rest) a w :=
  wpList_fconv hop hx hd (by rw [hs]; rfl) (by decide) hg fun r n hr => hK r n hr
end

/-- A number, if it is finite; else 0. -/
def toldF (x : Nat) : Nat := if finB .f32 x then x else 0
/-- What these cells hold; none of them is frozen. -/
def Held : List (Addr × Value) → World → Prop
  | [], _ => True
  | p :: l, w => (p.1.block < w.heap.size ∧ w.cell? p.1 = some p.2 ∧ w.frozen? p.1 = false) ∧ Held l w
theorem Held.below {W w1 : World} (hb : Below W.heap.size W w1) : ∀ {l : List (Addr × Value)}, Held l W → Held l w1
  | [], _ => trivial
  | p :: l, h => ⟨⟨Nat.lt_of_lt_of_le h.1.1 hb.size, (hb.cell h.1.1).trans h.1.2.1, (hb.frozen h.1.1).trans h.1.2.2⟩, Held.below hb h.2⟩

/-- It tells a number if it is finite; some draws. -/
def RT (x : Nat) (w : World) (e : Ending) (w' : World) : Prop := ∃ n, e = .returned (.tuple #[.float .f32 (toldF x), .bool (finB .f32 x)]) ∧ w' = w.drewN n
/-- A float and a bool; of what was there nothing has turned. -/
def PF (x : Nat) (b : Bool) (w : World) (e : Ending) (w' : World) : Prop := ∃ r, e = .returned (.tuple #[.float .f32 r, .bool b]) ∧ cn .f32 r = x ∧ Below w.heap.size w w'

theorem toldF_cn (x : Nat) : cn .f32 (toldF x) = if finB .f32 (cn .f32 x) then cn .f32 x else 0 := by
  unfold toldF
  rw [finB_cn]
  cases finB .f32 x
  · simp only [Bool.false_eq_true, if_false]; decide +kernel
  · simp only [if_true]
/-- A number under a condition; else 0. -/
def condF (b : Bool) (x : Nat) : Nat := if b then x else 0
theorem cn_zero : cn .f32 0 = 0 := by decide +kernel
theorem pf_told {r Q : Nat} {b : Bool} {w w' : World} (hq : cn .f32 r = Q) (hb : finB .f32 Q = b) (h : Below w.heap.size w w') :
    PF (condF b Q) b w (.returned (.tuple #[.float .f32 (toldF r), .bool (finB .f32 r)])) w' :=
  ⟨toldF r, by rw [← hb, ← hq, finB_cn], by rw [toldF_cn, hq, hb]; rfl, h⟩
theorem pf_none {Q : Nat} {b : Bool} {w w' : World} (hb : b = false) (h : Below w.heap.size w w') : PF (condF b Q) b w (.returned (.tuple #[.float .f32 0, .bool false])) w' :=
  ⟨0, by rw [hb], by rw [hb]; exact cn_zero, h⟩

theorem order_some (k : FloatKind) {x y : Nat} (hx : isN k x = false) (hy : isN k y = false) : ∃ o, k.format.order x y = some o := by
  unfold isN at hx hy
  unfold Ieee.Format.order
  show ∃ o, (k.decode x).order (k.decode y) = some o
  cases h1 : k.decode x <;> cases h2 : k.decode y <;> rw [h1] at hx <;> rw [h2] at hy <;> simp [Ieee.Datum.isNaN] at hx hy <;> exact ⟨_, rfl⟩

/-- Of two that are no NaNs: at least, or less. -/
theorem ge_or_lt (k : FloatKind) {x y : Nat} (hx : isN k x = false) (hy : isN k y = false) : geF k x y = !ltF k x y := by
  obtain ⟨o, ho⟩ := order_some k hx hy
  unfold geF gtF eqF ltF
  rw [ho]
  cases o <;> rfl
theorem le_or_gt (k : FloatKind) {x y : Nat} (hx : isN k x = false) (hy : isN k y = false) : leF k x y = !gtF k x y := by
  obtain ⟨o, ho⟩ := order_some k hx hy
  unfold leF gtF eqF ltF
  rw [ho]
  cases o <;> rfl
theorem cmp_nan_left (k : FloatKind) {x y : Nat} (hx : isN k x = true) : geF k x y = false ∧ leF k x y = false ∧ gtF k x y = false ∧ ltF k x y = false ∧ eqF k x y = false := by
  have h : k.format.order x y = none := order_nan_left hx
  unfold geF leF gtF ltF eqF
  rw [h]
  exact ⟨rfl, rfl, rfl, rfl, rfl⟩

/-- 'keep >= 0 && keep < 1' another way; such a number is finite. -/
theorem keep_split (x : Nat) : keepB x = (geF .f32 x 0 && !geF .f32 x 1065353216) := by
  unfold keepB
  have h1 : isN .f32 1065353216 = false := by decide +kernel
  cases hn : isN .f32 x
  · rw [ge_or_lt .f32 hn h1, Bool.not_not]
  · obtain ⟨a, _⟩ := cmp_nan_left .f32 (y := 0) hn
    rw [a]; rfl
theorem keep_fin {x : Nat} (h : keepB x = true) : finB .f32 x = true := by
  unfold keepB geF gtF eqF ltF Ieee.Format.order at h
  unfold finB
  have h1 : FloatKind.f32.decode 1065353216 = .number false 8388608 (-23) := by decide +kernel
  have h0 : FloatKind.f32.decode 0 = .number false 0 (-149) := by decide +kernel
  change ((((FloatKind.f32.decode x).order (FloatKind.f32.decode 0) == some .gt) || ((FloatKind.f32.decode x).order (FloatKind.f32.decode 0) == some .eq)) && ((FloatKind.f32.decode x).order (FloatKind.f32.decode 1065353216) == some .lt)) = true at h
  rw [h1, h0] at h
  cases hd : FloatKind.f32.decode x with
  | number => rfl
  | infinity s => rw [hd] at h; cases s <;> simp [Ieee.Datum.order] at h
  | nan => rw [hd] at h; simp [Ieee.Datum.order] at h

end Go.Proofs.Ytoiomgofbohmoaa
