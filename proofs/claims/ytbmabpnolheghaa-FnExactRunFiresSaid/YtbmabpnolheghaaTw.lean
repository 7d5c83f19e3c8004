/-
  Plain facts: a finite number that is wrapped is from 0 to less than 1.
-/
import Derived.Test.YtbmabpnolheghaaWl
set_option linter.unusedVariables false
set_option linter.unusedSimpArgs false
namespace Go.Proofs.Ytbmabpnolheghaa
open Go.RowKit

theorem down_pos (m d : Nat) : Ieee.Toward.down.cut false m d * 2 ^ d ≤ m := by
  unfold Ieee.Toward.cut
  simp only [Bool.false_and, Bool.toNat_false, Nat.add_zero, Nat.one_shiftLeft]
  rcases Nat.le_total d (m.log2 + 2) with h | h
  · rw [Nat.min_eq_left h]
    exact Nat.div_mul_le_self m (2 ^ d)
  · rw [Nat.min_eq_right h]
    have hlt : m < 2 ^ (m.log2 + 2) := Nat.lt_of_lt_of_le Nat.lt_log2_self (Nat.pow_le_pow_right (by decide) (by omega))
    rw [Nat.div_eq_of_lt hlt, Nat.zero_mul]
    exact Nat.zero_le _
theorem down_neg (m d : Nat) : m ≤ Ieee.Toward.down.cut true m d * 2 ^ d := by
  unfold Ieee.Toward.cut
  simp only [Bool.true_and, Nat.one_shiftLeft]
  rcases Nat.le_total d (m.log2 + 2) with h | h
  · rw [Nat.min_eq_left h]
    have hdm := Nat.div_add_mod m (2 ^ d)
    have hr := Nat.mod_lt m (Nat.two_pow_pos d)
    rw [Nat.add_mul, Nat.mul_comm (m / 2 ^ d)]
    by_cases h0 : m % 2 ^ d = 0
    · omega
    · have : (m % 2 ^ d != 0) = true := by simpa using h0
      rw [this, Bool.toNat_true, Nat.one_mul]
      omega
  · rw [Nat.min_eq_right h]
    have hlt : m < 2 ^ (m.log2 + 2) := Nat.lt_of_lt_of_le Nat.lt_log2_self (Nat.pow_le_pow_right (by decide) (by omega))
    rw [Nat.div_eq_of_lt hlt, Nat.mod_eq_of_lt hlt, Nat.zero_add]
    by_cases h0 : m = 0
    · subst h0; exact Nat.zero_le _
    · have : (m != 0) = true := by simpa using h0
      rw [this, Bool.toNat_true, Nat.one_mul]
      exact Nat.le_of_lt (Nat.lt_of_lt_of_le hlt (Nat.pow_le_pow_right (by decide) h))

/-- A number that is not negative. -/
def NN (k : FloatKind) (b : Nat) : Prop := ∃ s m p, k.decode b = .number s m p ∧ (s = false ∨ m = 0)

theorem nearest_rungT (f : Ieee.Format) (neg : Bool) (m : Nat) (p : Int) : ∃ r, f.nearest neg m p = f.word neg r ∧ r ≤ f.infRung ∧ (m = 0 → r = 0) := by
  unfold Ieee.Format.nearest
  split
  · exact ⟨0, rfl, Nat.zero_le _, fun _ => rfl⟩
  · exact ⟨_, rfl, Nat.min_le_right _ _, fun h => absurd h ‹_›⟩
theorem nn_of {k : FloatKind} {neg : Bool} {m : Nat} {p e : Int} (h : neg = false ∨ m = 0) (hs : Sm k e (k.format.nearest neg m p)) : NN k (k.format.nearest neg m p) := by
  obtain ⟨r, hr, hle, hz⟩ := nearest_rungT k.format neg m p
  rw [hr] at hs ⊢
  rcases Nat.lt_or_eq_of_le hle with hlt | heq
  · have hd := decode_word k neg r hlt
    by_cases hb : r < k.format.binade
    · rw [if_pos hb] at hd
      exact ⟨_, _, _, hd, h.imp id hz⟩
    · rw [if_neg hb] at hd
      refine ⟨_, _, _, hd, h.imp id fun h0 => ?_⟩
      exfalso
      apply hb
      rw [hz h0]
      cases k <;> decide +kernel
  · obtain ⟨s', m', p', hd, _⟩ := hs
    exfalso
    rw [heq] at hd
    have : k.decode (k.format.word neg k.format.infRung) = .infinity neg := by cases k <;> cases neg <;> decide +kernel
    rw [this] at hd
    cases hd

theorem fbin_sub_exact {x y : Nat} {s t : Bool} {m n : Nat} {i j T : Int} (hx : FloatKind.f64.decode x = .number s m i) (hy : FloatKind.f64.decode y = .number t n j) (hT : Ieee.signed s m (i - min i j).toNat + Ieee.signed (!t) n (j - min i j).toNat = T) :
    fbin .sub .f64 x y = FloatKind.f64.format.nearest (if T = 0 then s && !t else decide (T < 0)) T.natAbs (min i j) := by
  subst hT
  unfold fbin floatBits Ieee.Format.sub
  show (((FloatKind.f64.decode x).sum (FloatKind.f64.decode y).opposite).map FloatKind.f64.format.write).getD _ = _
  rw [hx, hy]
  rfl

theorem frac_nn {y : Nat} {s : Bool} {m : Nat} {p : Int} (hy : FloatKind.f64.decode y = .number s m p) (hw : y < width2 .f64) : NN .f64 (fbin .sub .f64 y (fwhole .down y)) := by
  have hsm := frac_le .down hy hw
  obtain ⟨hm, hp⟩ := double_mag hy
  have hn : isN .f64 y = false := by unfold isN; rw [hy]; rfl
  have hF : fwhole .down y = FloatKind.f64.format.nearest s (Ieee.Toward.down.cut s (m <<< p.toNat) (-p).toNat) 0 := by
    unfold fwhole FloatKind.encode
    rw [if_neg (by rw [hn]; decide), hy]
    rfl
  rcases Int.lt_or_le p 0 with h0 | h0
  · have z : p.toNat = 0 := by omega
    rw [z, Nat.shiftLeft_zero] at hF
    have hc := cut_small .down s m (-p).toNat (by omega) hm
    obtain ⟨q, hq1, hq2, hd⟩ := read_exact s (Ieee.Toward.down.cut s m (-p).toNat) 0 hc (by omega) (by omega)
    rw [← hF] at hd
    have hu := fbin_sub_exact hy hd rfl
    rw [hu] at hsm ⊢
    have hT : 0 ≤ Ieee.signed s m (p - min p q).toNat + Ieee.signed (!s) (Ieee.Toward.down.cut s m (-p).toNat <<< (0 - q).toNat) (q - min p q).toNat := by
      have a1 : ∀ c : Nat, (c <<< (0 - q).toNat) <<< (q - min p q).toNat = (c * 2 ^ (-p).toNat) * 2 ^ (p - min p q).toNat := by
        intro c
        rw [Nat.shiftLeft_eq, Nat.shiftLeft_eq, Nat.mul_assoc, Nat.mul_assoc, ← Nat.pow_add, ← Nat.pow_add]
        congr 2
        omega
      unfold Ieee.signed
      rw [a1, Nat.shiftLeft_eq]
      cases s
      · have h := Nat.mul_le_mul_right (2 ^ (p - min p q).toNat) (down_pos m (-p).toNat)
        simp only [Bool.not_false, if_true, Bool.false_eq_true, if_false]
        omega
      · have h := Nat.mul_le_mul_right (2 ^ (p - min p q).toNat) (down_neg m (-p).toNat)
        simp only [Bool.not_true, if_true, Bool.false_eq_true, if_false]
        omega
    refine nn_of ?_ hsm
    generalize Ieee.signed s m (p - min p q).toNat + Ieee.signed (!s) (Ieee.Toward.down.cut s m (-p).toNat <<< (0 - q).toNat) (q - min p q).toNat = T at *
    by_cases h1 : T = 0
    · right; rw [h1]; rfl
    · left; rw [if_neg h1]; exact decide_eq_false (by omega)
  · have z : (-p).toNat = 0 := by omega
    rw [z] at hF
    have hc0 : Ieee.Toward.down.cut s (m <<< p.toNat) 0 = m <<< p.toNat := by
      unfold Ieee.Toward.cut
      simp [Nat.mod_one]
    rw [hc0, Nat.shiftLeft_eq, nearest_scale, show (0 : Int) + (p.toNat : Nat) = p by omega, nearest_same .f64 hy hw] at hF
    rw [hF, sub_self, if_pos (by unfold finB; rw [hy]; rfl)]
    exact ⟨false, 0, -1074, by decide +kernel, .inl rfl⟩

theorem narrow_nn {e : Int} {b : Nat} (h : Sm .f64 e b) (hn' : NN .f64 b) (he : e ≤ 126) (he2 : -100 ≤ e) : NN .f32 (fconv .f64 .f32 b) := by
  have hs := narrow_sm h he he2
  obtain ⟨s, m, p, h1, h2⟩ := hn'
  have hn : isN .f64 b = false := by unfold isN; rw [h1]; rfl
  have e1 : fconv .f64 .f32 b = FloatKind.f32.format.nearest s m p := by
    unfold fconv FloatKind.encode
    rw [if_neg (by rw [hn]; decide), h1]
    rfl
  rw [e1] at hs ⊢
  exact nn_of h2 hs

theorem wq_nn {x : Nat} (h : finB .f32 x = true) : NN .f32 (wq x) := by
  have h' : finB .f32 (cn .f32 x) = true := by rw [finB_cn]; exact h
  have hs := frac32 .down h'
  obtain ⟨s, m, p, hd⟩ := fin_num h'
  obtain ⟨s', m', p', h2, _⟩ := widen_sm hd
  exact narrow_nn hs (frac_nn h2 (fconv_lt ..)) (by decide) (by decide)

theorem nn_ge {b : Nat} (h : NN .f32 b) : geF .f32 b 0 = true := by
  obtain ⟨s, m, p, hd, hs⟩ := h
  have h0 : FloatKind.f32.decode 0 = .number false 0 (-149) := by decide +kernel
  have key : (Ieee.signed s m (p - min p (-149)).toNat) ≥ 0 := by
    unfold Ieee.signed
    rcases hs with rfl | rfl
    · rw [if_neg (by decide)]
      exact Int.natCast_nonneg _
    · simp
  have e0 : Ieee.signed false 0 (-149 - min p (-149)).toNat = 0 := by unfold Ieee.signed; simp
  have ho : FloatKind.f32.format.order b 0 = some (compare (Ieee.signed s m (p - min p (-149)).toNat) 0) := by
    show (FloatKind.f32.decode b).order (FloatKind.f32.decode 0) = _
    rw [hd, h0]
    simp only [Ieee.Datum.order, e0]
  unfold geF gtF eqF
  rw [ho]
  generalize Ieee.signed s m (p - min p (-149)).toNat = T at *
  rcases Int.lt_or_eq_of_le key with h1 | h1
  · have : compare T 0 = .gt := Int.compare_eq_gt.2 h1
    rw [this]; rfl
  · rw [← h1]; rfl

theorem wrap_keep {x : Nat} (h : finB .f32 x = true) : keepB (wrapQ x) = true := by
  unfold wrapQ
  split
  · decide +kernel
  · rename_i hc
    have h1 : isN .f32 1065353216 = false := by decide +kernel
    have h2 := ge_or_lt .f32 (wq_num h) h1
    rw [wq_ge h] at h2
    simp only [Bool.or_eq_true, not_or, Bool.not_eq_true] at hc
    rw [hc.2] at h2
    unfold keepB
    rw [nn_ge (wq_nn h)]
    simpa using h2
/-! What is not finite stays so. -/
theorem dec_inf_any (k : FloatKind) (s : Bool) : finB k (k.format.write (.infinity s)) = false := by cases k <;> cases s <;> decide +kernel
theorem nan_notfin (k : FloatKind) : finB k (nanOf k) = false := by cases k <;> decide +kernel
theorem notfin_cases {k : FloatKind} {y : Nat} (h : finB k y = false) : (∃ s f, k.decode y = .nan s f) ∨ ∃ s, k.decode y = .infinity s := by
  unfold finB at h
  cases hd : k.decode y with
  | number s m p => rw [hd] at h; cases h
  | infinity s => exact .inr ⟨s, rfl⟩
  | nan s f => exact .inl ⟨s, f, rfl⟩
theorem mul_notfin {k : FloatKind} {x y : Nat} (h : finB k y = false) : finB k (fbin .mul k x y) = false := by
  have e : fbin .mul k x y = (((k.decode x).product (k.decode y)).map k.format.write).getD (nanOf k) := rfl
  rw [e]
  rcases notfin_cases h with ⟨s, f, hd⟩ | ⟨s, hd⟩
  · rw [hd, product_nan_right rfl]
    exact nan_notfin k
  · rw [hd]
    cases hx : k.decode x with
    | nan s f => rw [product_nan_left rfl]; exact nan_notfin k
    | infinity t => exact dec_inf_any k _
    | number t m p =>
      simp only [Ieee.Datum.product]
      split
      · exact nan_notfin k
      · exact dec_inf_any k _
theorem add_notfin {k : FloatKind} {x y : Nat} (h : finB k y = false) : finB k (fbin .add k x y) = false := by
  have e : fbin .add k x y = (((k.decode x).sum (k.decode y)).map k.format.write).getD (nanOf k) := rfl
  rw [e]
  rcases notfin_cases h with ⟨s, f, hd⟩ | ⟨s, hd⟩
  · rw [hd, sum_nan_right rfl]
    exact nan_notfin k
  · rw [hd]
    cases hx : k.decode x with
    | nan s f => rw [sum_nan_left rfl]; exact nan_notfin k
    | infinity t =>
      simp only [Ieee.Datum.sum]
      split
      · exact dec_inf_any k _
      · exact nan_notfin k
    | number t m p => exact dec_inf_any k _
end Go.Proofs.Ytbmabpnolheghaa
