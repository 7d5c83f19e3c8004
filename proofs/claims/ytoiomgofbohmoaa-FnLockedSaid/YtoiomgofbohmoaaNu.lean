/-
  Plain facts on float64: what is small stays small under '+', '-', '*', '/', roots; no such operation makes a NaN.
-/
import Derived.Test.YtoiomgofbohmoaaFy
set_option linter.unusedVariables false
set_option linter.unusedSimpArgs false
namespace Go.Proofs.Ytoiomgofbohmoaa
open Go.RowKit

/-! ### Magnitudes -/

theorem magLe_iff {m : Nat} {p e : Int} : MagLe m p e ↔ m = 0 ∨ (p ≤ e ∧ m ≤ 2 ^ (e - p).toNat) := by
  unfold MagLe
  constructor
  · rintro (h | h | ⟨h1, h2⟩)
    · exact .inl h
    · by_cases hm : m = 0
      · exact .inl hm
      · right
        refine ⟨by omega, ?_⟩
        have h3 : m < 2 ^ (m.log2 + 1) := Nat.lt_log2_self
        exact Nat.le_of_lt (Nat.lt_of_lt_of_le h3 (Nat.pow_le_pow_right (by decide) (by omega)))
    · right
      refine ⟨by omega, ?_⟩
      rw [h1]
      exact Nat.pow_le_pow_right (by decide) (by omega)
  · rintro (h | ⟨h1, h2⟩)
    · exact .inl h
    · by_cases hm : m = 0
      · exact .inl hm
      · rcases Nat.lt_or_eq_of_le h2 with h | h
        · right; left
          have : m.log2 < (e - p).toNat := (Nat.log2_lt hm).2 h
          omega
        · right; right
          have hl : m.log2 = (e - p).toNat := by rw [h, Nat.log2_two_pow]
          refine ⟨by rw [hl]; exact h, by omega⟩

theorem MagLe.mul {m n : Nat} {p q a b : Int} (h1 : MagLe m p a) (h2 : MagLe n q b) : MagLe (m * n) (p + q) (a + b) := by
  rw [magLe_iff] at *
  rcases h1 with rfl | ⟨h1, h3⟩
  · left; simp
  · rcases h2 with rfl | ⟨h2, h4⟩
    · left; simp
    · right
      refine ⟨by omega, ?_⟩
      rw [show (a + b - (p + q)).toNat = (a - p).toNat + (b - q).toNat by omega, Nat.pow_add]
      exact Nat.mul_le_mul h3 h4

theorem magLe_shift {m : Nat} {p b e : Int} (h : MagLe m p e) (hb : b ≤ p) (he : b ≤ e) : m <<< (p - b).toNat ≤ 2 ^ (e - b).toNat := by
  rw [magLe_iff] at h
  rw [Nat.shiftLeft_eq]
  rcases h with rfl | ⟨h1, h2⟩
  · simp
  · calc m * 2 ^ (p - b).toNat ≤ 2 ^ (e - p).toNat * 2 ^ (p - b).toNat := Nat.mul_le_mul_right _ h2
      _ = 2 ^ (e - b).toNat := by rw [← Nat.pow_add, show (e - p).toNat + (p - b).toNat = (e - b).toNat by omega]

theorem signed_abs (s : Bool) (m u : Nat) : (Ieee.signed s m u).natAbs = m <<< u := by
  unfold Ieee.signed
  cases s
  · exact Int.natAbs_natCast _
  · show (-((m <<< u : Nat) : Int)).natAbs = _
    rw [Int.natAbs_neg, Int.natAbs_natCast]
theorem signed_le (s : Bool) (m u : Nat) : Ieee.signed s m u ≤ ((m <<< u : Nat) : Int) := by
  have := signed_abs s m u
  omega
theorem signed_pos (m u : Nat) : Ieee.signed false m u = ((m <<< u : Nat) : Int) := rfl

theorem MagLe.add {s t : Bool} {m n : Nat} {i j a b e : Int} (h1 : MagLe m i a) (h2 : MagLe n j b) (ha : a + 1 ≤ e) (hb : b + 1 ≤ e) :
    MagLe (Ieee.signed s m (i - min i j).toNat + Ieee.signed t n (j - min i j).toNat).natAbs (min i j) e := by
  have key : ∀ x y : Int, (x + y).natAbs ≤ x.natAbs + y.natAbs := fun x y => by omega
  have hk := key (Ieee.signed s m (i - min i j).toNat) (Ieee.signed t n (j - min i j).toNat)
  rw [signed_abs, signed_abs] at hk
  by_cases hm : m = 0
  · by_cases hn : n = 0
    · left
      subst hm hn
      simp [Ieee.signed]
    · have h2' := magLe_iff.1 h2
      rcases h2' with h | ⟨h3, h4⟩
      · exact absurd h hn
      · have g1 : m <<< (i - min i j).toNat = 0 := by subst hm; simp
        have g2 := magLe_shift h2 (Int.min_le_right i j) (by omega)
        rw [magLe_iff]
        right
        refine ⟨by omega, ?_⟩
        rw [g1] at hk
        have g3 : 2 ^ (b - min i j).toNat ≤ 2 ^ (e - min i j).toNat := Nat.pow_le_pow_right (by decide) (by omega)
        omega
  · have h1' := magLe_iff.1 h1
    rcases h1' with h | ⟨h3, h4⟩
    · exact absurd h hm
    · have g1 := magLe_shift h1 (Int.min_le_left i j) (by omega)
      by_cases hn : n = 0
      · have g2 : n <<< (j - min i j).toNat = 0 := by subst hn; simp
        rw [magLe_iff]
        right
        refine ⟨by omega, ?_⟩
        rw [g2] at hk
        have g3 : 2 ^ (a - min i j).toNat ≤ 2 ^ (e - min i j).toNat := Nat.pow_le_pow_right (by decide) (by omega)
        omega
      · have h2' := magLe_iff.1 h2
        rcases h2' with h | ⟨h5, h6⟩
        · exact absurd h hn
        · have g2 := magLe_shift h2 (Int.min_le_right i j) (by omega)
          rw [magLe_iff]
          right
          refine ⟨by omega, ?_⟩
          have g3 : 2 ^ (a - min i j).toNat ≤ 2 ^ (e - 1 - min i j).toNat := Nat.pow_le_pow_right (by decide) (by omega)
          have g4 : 2 ^ (b - min i j).toNat ≤ 2 ^ (e - 1 - min i j).toNat := Nat.pow_le_pow_right (by decide) (by omega)
          have g5 : 2 ^ (e - min i j).toNat = 2 ^ (e - 1 - min i j).toNat * 2 := by rw [← Nat.pow_succ]; congr 1; omega
          omega

/-! ### The operations on small numbers -/

theorem fbin_add_of {x y : Nat} {s t : Bool} {m n : Nat} {i j : Int} (hx : FloatKind.f64.decode x = .number s m i) (hy : FloatKind.f64.decode y = .number t n j) :
    ∃ u, fbin .add .f64 x y = FloatKind.f64.format.nearest u (Ieee.signed s m (i - min i j).toNat + Ieee.signed t n (j - min i j).toNat).natAbs (min i j) := by
  unfold fbin floatBits Ieee.Format.add
  show ∃ u, (((FloatKind.f64.decode x).sum (FloatKind.f64.decode y)).map FloatKind.f64.format.write).getD _ = _
  rw [hx, hy]
  exact ⟨_, rfl⟩
theorem fbin_sub_of {x y : Nat} {s t : Bool} {m n : Nat} {i j : Int} (hx : FloatKind.f64.decode x = .number s m i) (hy : FloatKind.f64.decode y = .number t n j) :
    ∃ u, fbin .sub .f64 x y = FloatKind.f64.format.nearest u (Ieee.signed s m (i - min i j).toNat + Ieee.signed (!t) n (j - min i j).toNat).natAbs (min i j) := by
  unfold fbin floatBits Ieee.Format.sub
  show ∃ u, (((FloatKind.f64.decode x).sum (FloatKind.f64.decode y).opposite).map FloatKind.f64.format.write).getD _ = _
  rw [hx, hy]
  exact ⟨_, rfl⟩
theorem fbin_mul_of {x y : Nat} {s t : Bool} {m n : Nat} {i j : Int} (hx : FloatKind.f64.decode x = .number s m i) (hy : FloatKind.f64.decode y = .number t n j) :
    fbin .mul .f64 x y = FloatKind.f64.format.nearest (s ^^ t) (m * n) (i + j) := by
  unfold fbin floatBits Ieee.Format.mul
  show (((FloatKind.f64.decode x).product (FloatKind.f64.decode y)).map FloatKind.f64.format.write).getD _ = _
  rw [hx, hy]
  rfl

theorem sm_add {x y : Nat} {a b e : Int} (hx : Sm .f64 a x) (hy : Sm .f64 b y) (ha : a + 1 ≤ e) (hb : b + 1 ≤ e) (h1 : -1000 ≤ e) (h2 : e ≤ 1000) : Sm .f64 e (fbin .add .f64 x y) := by
  obtain ⟨s, m, i, hx, hm⟩ := hx
  obtain ⟨t, n, j, hy, hn⟩ := hy
  obtain ⟨u, hu⟩ := fbin_add_of hx hy
  rw [hu]
  exact sm_nearest64 _ _ _ e (MagLe.add hm hn ha hb) h1 h2
theorem sm_sub {x y : Nat} {a b e : Int} (hx : Sm .f64 a x) (hy : Sm .f64 b y) (ha : a + 1 ≤ e) (hb : b + 1 ≤ e) (h1 : -1000 ≤ e) (h2 : e ≤ 1000) : Sm .f64 e (fbin .sub .f64 x y) := by
  obtain ⟨s, m, i, hx, hm⟩ := hx
  obtain ⟨t, n, j, hy, hn⟩ := hy
  obtain ⟨u, hu⟩ := fbin_sub_of hx hy
  rw [hu]
  exact sm_nearest64 _ _ _ e (MagLe.add hm hn ha hb) h1 h2
theorem sm_mul {x y : Nat} {a b e : Int} (hx : Sm .f64 a x) (hy : Sm .f64 b y) (he : a + b ≤ e) (h1 : -1000 ≤ e) (h2 : e ≤ 1000) : Sm .f64 e (fbin .mul .f64 x y) := by
  obtain ⟨s, m, i, hx, hm⟩ := hx
  obtain ⟨t, n, j, hy, hn⟩ := hy
  rw [fbin_mul_of hx hy]
  exact sm_nearest64 _ _ _ e ((MagLe.mul hm hn).mono he) h1 h2

/-- A finite word that is at least '2 ^ e'. -/
def Gr (k : FloatKind) (e : Int) (b : Nat) : Prop := ∃ s m p, k.decode b = .number s m p ∧ m ≠ 0 ∧ e ≤ p + m.log2

theorem quotient_of {x y : Nat} {s t : Bool} {m n : Nat} {i j : Int} (hx : FloatKind.f64.decode x = .number s m i) (hy : FloatKind.f64.decode y = .number t n j) (hn : n ≠ 0) :
    fbin .quo .f64 x y = FloatKind.f64.format.nearest (s ^^ t) (2 * ((m <<< (54 + n.log2 - m.log2)) / n) + ((m <<< (54 + n.log2 - m.log2)) % n != 0).toNat) (i - j - (54 + n.log2 - m.log2 : Nat) - 1) := by
  have e1 : FloatKind.f64.format.fractionBits = 52 := by decide +kernel
  unfold fbin floatBits Ieee.Format.div
  show (((FloatKind.f64.decode x).quotient (FloatKind.f64.format.fractionBits + 2) (FloatKind.f64.decode y)).map FloatKind.f64.format.write).getD _ = _
  rw [hx, hy, e1]
  simp only [Ieee.Datum.quotient, if_neg hn]
  rfl

theorem sticky_le {D n K : Nat} (hn : n ≠ 0) (h : D ≤ n * K) : 2 * (D / n) + (D % n != 0).toNat ≤ 2 * K := by
  have hp : 0 < n := Nat.pos_of_ne_zero hn
  have h1 : D / n ≤ K := by
    calc D / n ≤ n * K / n := Nat.div_le_div_right h
      _ = K := Nat.mul_div_cancel_left K hp
  by_cases hr : D % n = 0
  · simp [hr]; omega
  · have h2 : (D % n != 0).toNat = 1 := by simp [hr]
    rw [h2]
    have h3 : D / n < K := by
      rcases Nat.lt_or_eq_of_le h1 with h | h
      · exact h
      · exfalso
        have h4 := Nat.div_add_mod D n
        rw [h] at h4
        omega
    omega

theorem sm_quo {x y : Nat} {a c e : Int} (hx : Sm .f64 a x) (hy : Gr .f64 c y) (he : a - c ≤ e) (h1 : -1000 ≤ e) (h2 : e ≤ 1000) : Sm .f64 e (fbin .quo .f64 x y) := by
  obtain ⟨s, m, i, hx, hm⟩ := hx
  obtain ⟨t, n, j, hy, hn, hc⟩ := hy
  rw [quotient_of hx hy hn]
  refine sm_nearest64 _ _ _ e ?_ h1 h2
  refine MagLe.mono ?_ he
  rw [magLe_iff] at *
  rcases hm with rfl | ⟨hm1, hm2⟩
  · left
    simp
  · by_cases hm0 : m = 0
    · left; subst hm0; simp
    right
    generalize hmore : 54 + n.log2 - m.log2 = more
    have hnl : 2 ^ n.log2 ≤ n := Nat.log2_self_le hn
    have hml : m.log2 ≤ (a - i).toNat := by
      have := Nat.log2_lt hm0 |>.2 (Nat.lt_of_le_of_lt hm2 (Nat.pow_lt_pow_right (by decide) (Nat.lt_succ_self _)))
      omega
    -- the quotient has 54 digits at least
    have hE : (n.log2 : Int) ≤ (a - i) + more := by omega
    refine ⟨by omega, ?_⟩
    have hle : m <<< more ≤ n * 2 ^ ((a - i).toNat + more - n.log2) := by
      rw [Nat.shiftLeft_eq]
      calc m * 2 ^ more ≤ 2 ^ (a - i).toNat * 2 ^ more := Nat.mul_le_mul_right _ hm2
        _ = 2 ^ n.log2 * 2 ^ ((a - i).toNat + more - n.log2) := by rw [← Nat.pow_add, ← Nat.pow_add, show (a - i).toNat + more = n.log2 + ((a - i).toNat + more - n.log2) by omega]; congr 1; omega
        _ ≤ n * _ := Nat.mul_le_mul_right _ hnl
    have := sticky_le hn hle
    refine Nat.le_trans this ?_
    rw [← Nat.pow_succ']
    exact Nat.pow_le_pow_right (by decide) (by omega)

theorem sm_bits {op : BinOp} {x y : Nat} {e : Int} (ho : arithOp op = true) (h : Sm .f64 e (fbin op .f64 x y)) : floatBits op .f64 x y = some (fbin op .f64 x y) := by
  have hn := h.not_nan
  unfold fbin at *
  cases hf : floatBits op .f64 x y with
  | some r => rfl
  | none =>
    rw [hf] at hn
    have : isN .f64 (nanOf .f64) = true := isN_nanOf _
    simp [this] at hn

section
variable {P : Program} {ops : Array Oper} {Q : Exit → Act → World → Prop} {a : Act} {w : World} {rest : List Oper} {o : Oper}
/-- '+', '-', '*', '/' on floats whose answer is no NaN: no draw. -/
theorem wpList_fexact {op : BinOp} {t t' : TypeId} {x y : Operand} {bx by' : Nat} {e : Int} (hop : o.op = Op.binOp op t x y t') (hx : a.eval x = .float .f64 bx) (hy : a.eval y = .float .f64 by')
    (ho : arithOp op = true) (hg : o.guard = none) (he : Sm .f64 e (fbin op .f64 bx by'))
    (hK : wpList P ops Q rest (a.put o.dst (.float .f64 (fbin op .f64 bx by'))) w) : wpList P ops Q (o :: rest) a w := by
  refine wpList_plain hg fun K hK' => ?_
  unfold Oper.wp
  have hgd : eqGuard op t x y (.float .f64 bx) (.float .f64 by') = pure () := by cases op <;> simp_all [arithOp, eqGuard] <;> rfl
  simp [execOp, hop, hx, hy, hgd, run_float_arith w op t .f64 bx by' _ (sm_bits ho he), Result.andThen]
  exact hK' _ _ hK
end

/-- '|w| ≤ 1' is never greater than 1. -/
theorem le_one {b : Nat} (h : Sm .f32 0 b) : gtF .f32 b 1065353216 = false := by
  obtain ⟨s, m, p, hd, hm⟩ := h
  have h1 : FloatKind.f32.decode 1065353216 = .number false 8388608 (-23) := by decide +kernel
  unfold gtF Ieee.Format.order
  show ((FloatKind.f32.decode b).order (FloatKind.f32.decode 1065353216) == some .gt) = false
  rw [hd, h1]
  simp only [Ieee.Datum.order]
  have key : ¬ (Ieee.signed s m (p - min p (-23)).toNat > Ieee.signed false 8388608 (-23 - min p (-23)).toNat) := by
    have g1 := signed_le s m (p - min p (-23)).toNat
    have g2 := signed_pos 8388608 (-23 - min p (-23)).toNat
    have g3 : m <<< (p - min p (-23)).toNat ≤ 8388608 <<< (-23 - min p (-23)).toNat := by
      have e1 : (8388608 : Nat) <<< (-23 - min p (-23)).toNat = 2 ^ (0 - min p (-23)).toNat := by
        rw [Nat.shiftLeft_eq, show (8388608 : Nat) = 2 ^ 23 from rfl, ← Nat.pow_add]; congr 1; omega
      rw [e1]
      by_cases hp : p ≤ 0
      · exact magLe_shift hm (Int.min_le_left _ _) (by omega)
      · rcases magLe_iff.1 hm with h | h
        · subst h; simp
        · omega
    rw [g2]
    intro h
    have := Int.lt_of_lt_of_le h g1
    omega
  cases hc : compare (Ieee.signed s m (p - min p (-23)).toNat) (Ieee.signed false 8388608 (-23 - min p (-23)).toNat) with
  | gt => exact absurd (Int.compare_eq_gt.1 hc) key
  | lt => rfl
  | eq => rfl

end Go.Proofs.Ytoiomgofbohmoaa
