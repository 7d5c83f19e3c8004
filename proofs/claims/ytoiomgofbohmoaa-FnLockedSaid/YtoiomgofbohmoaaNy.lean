/-
  The angle of a point in turns, in float64, as a plain function of bits; it is small, and no NaN comes up on the way.
-/
import Derived.Test.YtoiomgofbohmoaaNx
set_option linter.unusedVariables false
set_option linter.unusedSimpArgs false
namespace Go.Proofs.Ytoiomgofbohmoaa
open Go.RowKit

/-! ### Signs, and lower bounds -/

theorem nearest_word (s : Bool) (m : Nat) (p : Int) : ∃ r, r ≤ FloatKind.f64.format.infRung ∧ FloatKind.f64.format.nearest s m p = FloatKind.f64.format.word s r := by
  unfold Ieee.Format.nearest
  split
  · exact ⟨0, Nat.zero_le _, rfl⟩
  · exact ⟨_, Nat.min_le_right .., rfl⟩
theorem dec_top (s : Bool) : FloatKind.f64.decode (FloatKind.f64.format.word s FloatKind.f64.format.infRung) = .infinity s := by cases s <;> decide +kernel
theorem nearest_sign {s s' : Bool} {m m' : Nat} {p p' : Int} (h : FloatKind.f64.decode (FloatKind.f64.format.nearest s m p) = .number s' m' p') : s' = s := by
  obtain ⟨r, hr, he⟩ := nearest_word s m p
  rw [he] at h
  rcases Nat.lt_or_eq_of_le hr with hr | hr
  · rw [decode_word .f64 s r hr] at h
    split at h <;> cases h <;> rfl
  · rw [hr, dec_top] at h; cases h

theorem cut_ge (s : Bool) (m d : Nat) (hm : m ≠ 0) (hd : d ≤ m.log2) : 2 ^ (m.log2 - d) ≤ Ieee.Toward.even.cut s m d := by
  obtain ⟨more, hc⟩ := cut_form .even s m d
  rw [hc, Nat.one_shiftLeft, Nat.min_eq_left (by omega)]
  refine Nat.le_trans ?_ (Nat.le_add_right _ _)
  rw [Nat.le_div_iff_mul_le (Nat.two_pow_pos _), ← Nat.pow_add, show m.log2 - d + d = m.log2 by omega]
  exact Nat.log2_self_le hm

/-- What is at least '2 ^ e' stays so when it is rounded. -/
theorem gr_nearest (s : Bool) (m : Nat) (p e : Int) (hm : m ≠ 0) (he : e ≤ p + m.log2) (h0 : -1022 ≤ p + (m.log2 : Int)) (hu : Sm .f64 1000 (FloatKind.f64.format.nearest s m p)) : Gr .f64 e (FloatKind.f64.format.nearest s m p) := by
  have e1 : FloatKind.f64.format.binade = 4503599627370496 := by decide +kernel
  have e3 : FloatKind.f64.format.leastPlace = -1074 := by decide +kernel
  have e5 : FloatKind.f64.format.fractionBits = 52 := by decide +kernel
  have hkept : ∀ last : Int, last = p + (m.log2 : Int) - 52 → 4503599627370496 ≤ Ieee.Toward.even.cut s (m <<< (p - last).toNat) (last - p).toNat := by
    rintro last rfl
    by_cases hf : m.log2 ≤ 52
    · have a1 : (p - (p + (m.log2 : Int) - 52)).toNat = 52 - m.log2 := by omega
      have a2 : (p + (m.log2 : Int) - 52 - p).toNat = 0 := by omega
      rw [a1, a2, cut_zero, Nat.shiftLeft_eq]
      calc 4503599627370496 = 2 ^ m.log2 * 2 ^ (52 - m.log2) := by rw [← Nat.pow_add, show m.log2 + (52 - m.log2) = 52 by omega]
        _ ≤ m * 2 ^ (52 - m.log2) := Nat.mul_le_mul_right _ (Nat.log2_self_le hm)
    · have a1 : (p - (p + (m.log2 : Int) - 52)).toNat = 0 := by omega
      have a2 : (p + (m.log2 : Int) - 52 - p).toNat = m.log2 - 52 := by omega
      rw [a1, a2, Nat.shiftLeft_zero]
      have := cut_ge s m (m.log2 - 52) hm (by omega)
      rw [show m.log2 - (m.log2 - 52) = 52 by omega] at this
      exact this
  have hform : ∃ r : Nat, ((p + (m.log2 : Int) - 52 + 1074).toNat + 1) * 4503599627370496 ≤ r ∧ FloatKind.f64.format.nearest s m p = FloatKind.f64.format.word s (min r FloatKind.f64.format.infRung) := by
    unfold Ieee.Format.nearest
    rw [if_neg hm]
    dsimp only
    rw [e1, e3, e5]
    have e6 : max (p + (m.log2 : Int) - ((52 : Nat) : Int)) (-1074) = p + (m.log2 : Int) - 52 := by omega
    rw [e6]
    have hk := hkept _ rfl
    generalize Ieee.Toward.even.cut s (m <<< (p - (p + (m.log2 : Int) - 52)).toNat) (p + (m.log2 : Int) - 52 - p).toNat = kept at *
    refine ⟨_, ?_, rfl⟩
    have e9 : (p + (m.log2 : Int) - 52 - -1074).toNat = (p + (m.log2 : Int) - 52 + 1074).toNat := by congr 1
    rw [e9]
    omega
  obtain ⟨r, hr1, hr2⟩ := hform
  obtain ⟨s', m', p', hd, _⟩ := hu
  rcases Nat.lt_or_ge r FloatKind.f64.format.infRung with hlt | hge
  · rw [hr2, Nat.min_eq_left (Nat.le_of_lt hlt)]
    unfold Gr
    rw [decode_word .f64 s r hlt, e1, e3]
    have hE : (p + (m.log2 : Int) - 52 + 1074).toNat + 1 ≤ r / 4503599627370496 := by
      rw [Nat.le_div_iff_mul_le (by decide)]; exact hr1
    rw [if_neg (by omega)]
    refine ⟨_, _, _, rfl, by omega, ?_⟩
    have hl : (4503599627370496 + r % 4503599627370496).log2 = 52 := log2_of (by omega) (by have := Nat.mod_lt r (show 4503599627370496 > 0 by decide); omega)
    rw [hl]
    omega
  · rw [hr2, Nat.min_eq_right hge, dec_top] at hd
    cases hd

/-- A finite word that is not negative, of at most '2 ^ e'. -/
def Ps (e : Int) (b : Nat) : Prop := ∃ m p, FloatKind.f64.decode b = .number false m p ∧ MagLe m p e
theorem Ps.sm {e : Int} {b : Nat} (h : Ps e b) : Sm .f64 e b := by obtain ⟨m, p, h1, h2⟩ := h; exact ⟨false, m, p, h1, h2⟩
theorem Ps.mono {e e' : Int} {b : Nat} (h : Ps e b) (he : e ≤ e') : Ps e' b := by obtain ⟨m, p, h1, h2⟩ := h; exact ⟨m, p, h1, h2.mono he⟩
theorem ps_of {e : Int} {m : Nat} {p : Int} (h : Sm .f64 e (FloatKind.f64.format.nearest false m p)) : Ps e (FloatKind.f64.format.nearest false m p) := by
  obtain ⟨s, m', p', h1, h2⟩ := h
  obtain rfl := nearest_sign h1
  exact ⟨m', p', h1, h2⟩

theorem add_pos_of {x y : Nat} {m n : Nat} {i j : Int} (hx : FloatKind.f64.decode x = .number false m i) (hy : FloatKind.f64.decode y = .number false n j) :
    fbin .add .f64 x y = FloatKind.f64.format.nearest false (m <<< (i - min i j).toNat + n <<< (j - min i j).toNat) (min i j) := by
  unfold fbin floatBits Ieee.Format.add
  show (((FloatKind.f64.decode x).sum (FloatKind.f64.decode y)).map FloatKind.f64.format.write).getD _ = _
  rw [hx, hy]
  have key : ∀ (T : Int) (A : Nat) (b : Int), T = (A : Int) → FloatKind.f64.format.nearest (if T = 0 then false && false else decide (T < 0)) T.natAbs b = FloatKind.f64.format.nearest false A b := by
    rintro T A b rfl
    rw [Int.natAbs_natCast, decide_eq_false (by omega)]
    split <;> rfl
  exact key _ _ _ (by rw [signed_pos, signed_pos]; generalize m <<< (i - min i j).toNat = M; generalize n <<< (j - min i j).toNat = N; omega)

theorem ps_one : Ps 0 4607182418800017408 := ⟨4503599627370496, -52, by decide +kernel, magLe_iff.2 (.inr (by decide))⟩
theorem ps_add {x y : Nat} {a b e : Int} (hx : Ps a x) (hy : Ps b y) (ha : a + 1 ≤ e) (hb : b + 1 ≤ e) (h1 : -1000 ≤ e) (h2 : e ≤ 1000) : Ps e (fbin .add .f64 x y) := by
  have hs := sm_add hx.sm hy.sm ha hb h1 h2
  obtain ⟨m, i, hx, _⟩ := hx
  obtain ⟨n, j, hy, _⟩ := hy
  rw [add_pos_of hx hy] at *
  exact ps_of hs
theorem ps_sq {x : Nat} {a e : Int} (hx : Sm .f64 a x) (he : a + a ≤ e) (h1 : -1000 ≤ e) (h2 : e ≤ 1000) : Ps e (fbin .mul .f64 x x) := by
  have hs := sm_mul hx hx he h1 h2
  obtain ⟨s, m, i, hx, _⟩ := hx
  have h := fbin_mul_of hx hx
  rw [h] at hs ⊢
  have e0 : (s ^^ s) = false := by cases s <;> rfl
  rw [e0] at hs ⊢
  exact ps_of hs
theorem ps_sqrt {x : Nat} {f : Int} (hx : Ps (2 * f) x) (h1 : -500 ≤ f) (h2 : f ≤ 500) : Ps f (fsqrt x) := by
  obtain ⟨m, p, hd, hm⟩ := hx
  have hform : ∃ M P, fsqrt x = FloatKind.f64.format.nearest false M P := by
    rw [fsqrt_of hd]
    unfold Ieee.Datum.root
    dsimp only
    split
    · exact ⟨_, _, rfl⟩
    · exact ⟨_, _, rfl⟩
  obtain ⟨M, P, hf⟩ := hform
  have hs : Sm .f64 f (fsqrt x) := by
    rcases sqrt_cases x f h1 h2 with h | ⟨s, h⟩ | h
    · unfold isN at h; rw [hd] at h; cases h
    · rw [hd] at h; cases h
    · rcases h ⟨false, m, p, hd, hm⟩ with h | h
      · rw [hf] at h
        have := write_not_nan FloatKind.f64.format (.number false M P) rfl
        have h3 : isN .f64 (FloatKind.f64.format.nearest false M P) = false := this
        rw [h3] at h; cases h
      · exact h
  rw [hf] at hs ⊢
  exact ps_of hs
theorem gr_one_add {x : Nat} {a : Int} (hx : Ps a x) (ha : a ≤ 900) (ha0 : -900 ≤ a) : Gr .f64 0 (fbin .add .f64 4607182418800017408 x) := by
  have hs : Sm .f64 1000 (fbin .add .f64 4607182418800017408 x) := sm_add sm_one hx.sm (by decide) (by omega) (by decide) (by decide)
  obtain ⟨n, j, hy, _⟩ := hx
  have hd : FloatKind.f64.decode 4607182418800017408 = .number false 4503599627370496 (-52) := by decide +kernel
  rw [add_pos_of hd hy] at *
  have hle : 2 ^ (0 - min (-52) j).toNat ≤ 4503599627370496 <<< (-52 - min (-52) j).toNat + n <<< (j - min (-52) j).toNat := by
    refine Nat.le_trans (Nat.le_of_eq ?_) (Nat.le_add_right _ _)
    rw [Nat.shiftLeft_eq, show (4503599627370496 : Nat) = 2 ^ 52 from rfl, ← Nat.pow_add]
    congr 1
    omega
  generalize 4503599627370496 <<< (-52 - min (-52) j).toNat + n <<< (j - min (-52) j).toNat = M at *
  have hM : M ≠ 0 := by have := Nat.two_pow_pos (0 - min (-52) j).toNat; omega
  have hl : (0 - min (-52) j).toNat ≤ M.log2 := (Nat.le_log2 hM).2 hle
  exact gr_nearest false M _ 0 hM (by omega) (by omega) hs

/-! ### A quotient of at most 1 -/

theorem quo_le_one {x y : Nat} {m n : Nat} {i j : Int} (hx : FloatKind.f64.decode x = .number false m i) (hy : FloatKind.f64.decode y = .number false n j) (hn : n ≠ 0)
    (hle : m <<< (i - min i j).toNat ≤ n <<< (j - min i j).toNat) : Sm .f64 0 (fbin .quo .f64 x y) := by
  rw [quotient_of hx hy hn]
  refine sm_nearest64 _ _ _ 0 ?_ (by decide) (by decide)
  by_cases hm0 : m = 0
  · subst hm0; left; simp
  have hmx := double_mag hx
  generalize hmore : 54 + n.log2 - m.log2 = more
  have hml : m.log2 < 53 := (Nat.log2_lt hm0).2 hmx.1
  rw [Nat.shiftLeft_eq, Nat.shiftLeft_eq] at hle
  have hnl : n < 2 ^ (n.log2 + 1) := Nat.lt_log2_self
  have hmlo : 2 ^ m.log2 ≤ m := Nat.log2_self_le hm0
  have hlog : (m.log2 : Int) + i ≤ n.log2 + j := by
    have h3 : 2 ^ (m.log2 + (i - min i j).toNat) < 2 ^ (n.log2 + 1 + (j - min i j).toNat) := by
      calc 2 ^ (m.log2 + (i - min i j).toNat) = 2 ^ m.log2 * 2 ^ (i - min i j).toNat := Nat.pow_add ..
        _ ≤ m * 2 ^ (i - min i j).toNat := Nat.mul_le_mul_right _ hmlo
        _ ≤ n * 2 ^ (j - min i j).toNat := hle
        _ < 2 ^ (n.log2 + 1) * 2 ^ (j - min i j).toNat := Nat.mul_lt_mul_of_pos_right hnl (Nat.two_pow_pos _)
        _ = _ := (Nat.pow_add ..).symm
    have := (Nat.pow_lt_pow_iff_right (by decide : 1 < 2)).1 h3
    omega
  have hk : m <<< more ≤ n * 2 ^ (j - i + more).toNat := by
    rw [Nat.shiftLeft_eq]
    by_cases hij : i ≤ j
    · have a1 : (i - min i j).toNat = 0 := by omega
      have a2 : (j - min i j).toNat = (j - i).toNat := by omega
      rw [a1, a2, Nat.pow_zero, Nat.mul_one] at hle
      calc m * 2 ^ more ≤ n * 2 ^ (j - i).toNat * 2 ^ more := Nat.mul_le_mul_right _ hle
        _ = n * 2 ^ (j - i + more).toNat := by rw [Nat.mul_assoc, ← Nat.pow_add]; congr 2; omega
    · have a1 : (i - min i j).toNat = (i - j).toNat := by omega
      have a2 : (j - min i j).toNat = 0 := by omega
      rw [a1, a2, Nat.pow_zero, Nat.mul_one] at hle
      have hge : (i - j).toNat ≤ more := by omega
      calc m * 2 ^ more = m * 2 ^ (i - j).toNat * 2 ^ (more - (i - j).toNat) := by rw [Nat.mul_assoc, ← Nat.pow_add]; congr 2; omega
        _ ≤ n * 2 ^ (more - (i - j).toNat) := Nat.mul_le_mul_right _ hle
        _ = n * 2 ^ (j - i + more).toNat := by congr 2; omega
  have hq := sticky_le hn hk
  rw [magLe_iff]
  right
  refine ⟨by omega, Nat.le_trans hq ?_⟩
  rw [← Nat.pow_succ']
  exact Nat.pow_le_pow_right (by decide) (by omega)

/-! ### Guarded operations whose guard says yes -/

section
variable {P : Program} {ops : Array Oper} {Q : Exit → Act → World → Prop} {a : Act} {w : World} {rest : List Oper} {o : Oper}
theorem wpList_fexact_g {op : BinOp} {t t' : TypeId} {x y : Operand} {bx by' : Nat} {e : Int} (hop : o.op = Op.binOp op t x y t') (hx : a.eval x = .float .f64 bx) (hy : a.eval y = .float .f64 by')
    (ho : arithOp op = true) (hw : Region.wanted o (yielded ops a.tmps) = true) (he : Sm .f64 e (fbin op .f64 bx by'))
    (hK : wpList P ops Q rest (a.put o.dst (.float .f64 (fbin op .f64 bx by'))) w) : wpList P ops Q (o :: rest) a w := by
  refine wpList_step fun K hK' => ?_
  rw [if_pos hw]
  unfold Oper.wp
  have hgd : eqGuard op t x y (.float .f64 bx) (.float .f64 by') = pure () := by cases op <;> simp_all [arithOp, eqGuard] <;> rfl
  simp [execOp, hop, hx, hy, hgd, run_float_arith w op t .f64 bx by' _ (sm_bits ho he), Result.andThen]
  exact hK' _ _ hK
theorem wpList_fbin_g {op : BinOp} {t t' : TypeId} {x y : Operand} {k : FloatKind} {bx by' : Nat} (hop : o.op = Op.binOp op t x y t') (hx : a.eval x = .float k bx) (hy : a.eval y = .float k by')
    (ho : arithOp op = true) (hw : Region.wanted o (yielded ops a.tmps) = true)
    (hK : ∀ r n, Hid (cn k r = fbin op k (cn k bx) (cn k by')) → wpList P ops Q rest (a.put o.dst (.float k r)) (w.drewN n)) : wpList P ops Q (o :: rest) a w := by
  refine wpList_step fun K hK' => ?_
  rw [if_pos hw]
  obtain ⟨r, n, hrun, hr⟩ := run_float_any (P := P) w op (by cases op <;> simp_all [arithOp]) t k bx by'
  unfold Oper.wp
  have hgd : eqGuard op t x y (.float k bx) (.float k by') = pure () := by cases op <;> simp_all [arithOp, eqGuard] <;> rfl
  simp [execOp, hop, hx, hy, hgd, hrun, Result.andThen]
  exact hK' _ _ (hK r n hr)
end

/-! ### The angle -/

/-- What a round divides by. -/
def angD (t : Nat) : Nat := fbin .add .f64 4607182418800017408 (fsqrt (fbin .add .f64 4607182418800017408 (fbin .mul .f64 t t)))
def angT (t : Nat) : Nat → Nat
  | 0 => t
  | j + 1 => fbin .quo .f64 (angT t j) (angD (angT t j))
theorem angD_parts {t : Nat} (h : Sm .f64 0 t) : Sm .f64 0 (fbin .mul .f64 t t) ∧ Sm .f64 1 (fbin .add .f64 4607182418800017408 (fbin .mul .f64 t t)) ∧ Sm .f64 1 (fsqrt (fbin .add .f64 4607182418800017408 (fbin .mul .f64 t t))) ∧ Sm .f64 2 (angD t) ∧ Gr .f64 0 (angD t) := by
  have p1 : Ps 0 (fbin .mul .f64 t t) := ps_sq h (by decide) (by decide) (by decide)
  have p2 : Ps 1 (fbin .add .f64 4607182418800017408 (fbin .mul .f64 t t)) := ps_add ps_one p1 (by decide) (by decide) (by decide) (by decide)
  have p3 : Ps 1 (fsqrt (fbin .add .f64 4607182418800017408 (fbin .mul .f64 t t))) := ps_sqrt (p2.mono (by decide)) (by decide) (by decide)
  exact ⟨p1.sm, p2.sm, p3.sm, (ps_add ps_one p3 (by decide) (by decide) (by decide) (by decide)).sm, gr_one_add p3 (by decide) (by decide)⟩
theorem angT_sm {t : Nat} (h : Sm .f64 0 t) : ∀ j, Sm .f64 0 (angT t j)
  | 0 => h
  | j + 1 => sm_quo (angT_sm h j) (angD_parts (angT_sm h j)).2.2.2.2 (by decide) (by decide) (by decide)

/-- The odd numbers 15, 13, .. -/
def angK (j : Nat) : Nat := floatOfInt .f64 (15 - 2 * (j : Int))
theorem angK_gr {j : Nat} (h : j < 8) : Gr .f64 0 (angK j) := by
  match j, h with
  | 0, _ => exact gr_of (by decide +kernel)
  | 1, _ => exact gr_of (by decide +kernel)
  | 2, _ => exact gr_of (by decide +kernel)
  | 3, _ => exact gr_of (by decide +kernel)
  | 4, _ => exact gr_of (by decide +kernel)
  | 5, _ => exact gr_of (by decide +kernel)
  | 6, _ => exact gr_of (by decide +kernel)
  | 7, _ => exact gr_of (by decide +kernel)
def angP (u : Nat) : Nat → Nat
  | 0 => 0
  | j + 1 => fbin .sub .f64 (fbin .quo .f64 4607182418800017408 (angK j)) (fbin .mul .f64 u (angP u j))
theorem angI_sm {j : Nat} (h : j < 8) : Sm .f64 0 (fbin .quo .f64 4607182418800017408 (angK j)) := sm_quo sm_one (angK_gr h) (by decide) (by decide) (by decide)
theorem sm_zero : Sm .f64 0 0 := sm_of (by decide +kernel)
theorem angP_sm {u : Nat} (hu : Sm .f64 0 u) : ∀ j : Nat, j ≤ 8 → Sm .f64 (j : Int) (angP u j)
  | 0, _ => sm_zero
  | j + 1, h => by
    have ih := angP_sm hu j (by omega)
    have h1 : Sm .f64 (j : Int) (fbin .mul .f64 u (angP u j)) := sm_mul hu ih (by omega) (by omega) (by omega)
    exact sm_sub (angI_sm (by omega)) h1 (by omega) (by omega) (by omega) (by omega)
theorem angP_mul {u : Nat} (hu : Sm .f64 0 u) {j : Nat} (h : j < 8) : Sm .f64 (j : Int) (fbin .mul .f64 u (angP u j)) := sm_mul hu (angP_sm hu j (by omega)) (by omega) (by omega) (by omega)

def angG (t : Nat) : Nat := fbin .quo .f64 (fbin .mul .f64 4620693217682128896 (fbin .mul .f64 t (angP (fbin .mul .f64 t t) 8))) 4618760256179416344
def ang2 (over : Bool) (g : Nat) : Nat := if over then fbin .sub .f64 4598175219545276416 g else g
def ang3 (left : Bool) (g : Nat) : Nat := if left then fbin .sub .f64 4602678819172646912 g else g
def ang4 (below : Bool) (g : Nat) : Nat := if below then Op.negFloat .f64 g else g
def angR (over left below : Bool) (t : Nat) : Nat := ang4 below (ang3 left (ang2 over (angG (angT t 3))))

theorem sm_eight : Sm .f64 3 4620693217682128896 := sm_of (by decide +kernel)
theorem sm_quarter : Sm .f64 0 4598175219545276416 := sm_of (by decide +kernel)
theorem gr_tau : Gr .f64 2 4618760256179416344 := gr_of (by decide +kernel)
theorem angG_parts {t : Nat} (h : Sm .f64 0 t) : Sm .f64 0 (fbin .mul .f64 t t) ∧ Sm .f64 8 (fbin .mul .f64 t (angP (fbin .mul .f64 t t) 8)) ∧ Sm .f64 11 (fbin .mul .f64 4620693217682128896 (fbin .mul .f64 t (angP (fbin .mul .f64 t t) 8))) ∧ Sm .f64 9 (angG t) := by
  have p1 : Sm .f64 0 (fbin .mul .f64 t t) := sm_mul h h (by decide) (by decide) (by decide)
  have p2 : Sm .f64 8 (fbin .mul .f64 t (angP (fbin .mul .f64 t t) 8)) := sm_mul h (angP_sm p1 8 (by decide)) (by decide) (by decide) (by decide)
  have p3 : Sm .f64 11 (fbin .mul .f64 4620693217682128896 (fbin .mul .f64 t (angP (fbin .mul .f64 t t) 8))) := sm_mul sm_eight p2 (by decide) (by decide) (by decide)
  exact ⟨p1, p2, p3, sm_quo p3 gr_tau (by decide) (by decide) (by decide)⟩
theorem ang2_sub {g : Nat} (h : Sm .f64 9 g) : Sm .f64 10 (fbin .sub .f64 4598175219545276416 g) := sm_sub sm_quarter h (by decide) (by decide) (by decide) (by decide)
theorem ang3_sub {g : Nat} (h : Sm .f64 10 g) : Sm .f64 11 (fbin .sub .f64 4602678819172646912 g) := sm_sub sm_half h (by decide) (by decide) (by decide) (by decide)
theorem ang2_sm {g : Nat} (h : Sm .f64 9 g) (b : Bool) : Sm .f64 10 (ang2 b g) := by
  unfold ang2; split
  · exact ang2_sub h
  · exact h.mono (by decide)
theorem ang3_sm {g : Nat} (h : Sm .f64 10 g) (b : Bool) : Sm .f64 11 (ang3 b g) := by
  unfold ang3; split
  · exact ang3_sub h
  · exact h.mono (by decide)
theorem ang2_lt {g : Nat} (h : g < width2 .f64) (b : Bool) : ang2 b g < width2 .f64 := by unfold ang2; split; exact fbin_lt ..; exact h
theorem ang3_lt {g : Nat} (h : g < width2 .f64) (b : Bool) : ang3 b g < width2 .f64 := by unfold ang3; split; exact fbin_lt ..; exact h
theorem ang4_sm {g : Nat} (hw : g < width2 .f64) (h : Sm .f64 11 g) (b : Bool) : Sm .f64 11 (ang4 b g) := by
  unfold ang4; split
  · exact sm_neg hw h
  · exact h
theorem angR_sm {t : Nat} (h : Sm .f64 0 t) (o l b : Bool) : Sm .f64 11 (angR o l b t) :=
  ang4_sm (ang3_lt (ang2_lt (fbin_lt ..) _) _) (ang3_sm (ang2_sm (angG_parts (angT_sm h 3)).2.2.2 _) _) _

/-- Of two magnitudes, the less by the greater one. -/
def ang0 (a b : Nat) : Nat := if gtF .f64 a b then fbin .quo .f64 b a else fbin .quo .f64 a b
/-- The angle of a point, every NaN taken as one. -/
def angleQ (y x : Nat) : Nat :=
  if finB .f32 y && finB .f32 x then
    (if eqF .f32 x 0 && eqF .f32 y 0 then 0 else
      fconv .f64 .f32 (angR (gtF .f64 (fconv .f32 .f64 y % 9223372036854775808) (fconv .f32 .f64 x % 9223372036854775808)) (ltF .f32 x 0) (ltF .f32 y 0)
        (ang0 (fconv .f32 .f64 y % 9223372036854775808) (fconv .f32 .f64 x % 9223372036854775808))))
  else nanOf .f32

theorem gt_num {y b : Nat} {m n : Nat} {p q : Int} (hy : FloatKind.f64.decode y = .number false m p) (hb : FloatKind.f64.decode b = .number false n q) :
    gtF .f64 y b = decide (n <<< (q - min p q).toNat < m <<< (p - min p q).toNat) := by
  unfold gtF Ieee.Format.order
  show ((FloatKind.f64.decode y).order (FloatKind.f64.decode b) == some .gt) = _
  rw [hy, hb]
  simp only [Ieee.Datum.order, signed_pos]
  rw [Bool.eq_iff_iff]
  simp only [beq_iff_eq, Option.some.injEq, Int.compare_eq_gt, decide_eq_true_eq]
  omega

theorem shl_zero (a k : Nat) : a <<< k = 0 ↔ a = 0 := by
  rw [Nat.shiftLeft_eq]
  have := Nat.two_pow_pos k
  constructor
  · intro h; rcases Nat.mul_eq_zero.1 h with h | h
    · exact h
    · omega
  · rintro rfl; simp
theorem lt_zero (k : FloatKind) {b : Nat} {s : Bool} {m : Nat} {p : Int} (h : k.decode b = .number s m p) : ltF k b 0 = (s && m != 0) := by
  have h0 : ∃ q, k.decode 0 = .number false 0 q := by
    cases k
    · exact ⟨-149, by decide +kernel⟩
    · exact ⟨-1074, by decide +kernel⟩
  obtain ⟨q, h0⟩ := h0
  unfold ltF Ieee.Format.order
  show ((k.decode b).order (k.decode 0) == some .lt) = _
  rw [h, h0]
  simp only [Ieee.Datum.order]
  rw [Bool.eq_iff_iff]
  simp only [beq_iff_eq, Option.some.injEq, Int.compare_eq_lt, Bool.and_eq_true, bne_iff_ne]
  rw [signed_pos, Nat.zero_shiftLeft]
  have hz : m <<< (p - min p q).toNat = 0 ↔ m = 0 := shl_zero m _
  cases s
  · rw [signed_pos]
    generalize m <<< (p - min p q).toNat = M at *
    constructor
    · intro h; omega
    · rintro ⟨h, _⟩; cases h
  · rw [signed_neg]
    generalize m <<< (p - min p q).toNat = M at *
    simp only [true_and, ne_eq, ← hz]
    omega
theorem eq_zero (k : FloatKind) {b : Nat} {s : Bool} {m : Nat} {p : Int} (h : k.decode b = .number s m p) : eqF k b 0 = (m == 0) := by
  have h0 : ∃ q, k.decode 0 = .number false 0 q := by
    cases k
    · exact ⟨-149, by decide +kernel⟩
    · exact ⟨-1074, by decide +kernel⟩
  obtain ⟨q, h0⟩ := h0
  unfold eqF Ieee.Format.order
  show ((k.decode b).order (k.decode 0) == some .eq) = _
  rw [h, h0]
  simp only [Ieee.Datum.order]
  rw [Bool.eq_iff_iff]
  simp only [beq_iff_eq, Option.some.injEq, Int.compare_eq_eq]
  rw [signed_pos, Nat.zero_shiftLeft]
  have hz : m <<< (p - min p q).toNat = 0 ↔ m = 0 := shl_zero m _
  rw [← hz]
  cases s
  · rw [signed_pos]
    generalize m <<< (p - min p q).toNat = M at *
    omega
  · rw [signed_neg]
    generalize m <<< (p - min p q).toNat = M at *
    omega

theorem wide_parts {b : Nat} (h : finB .f32 b = true) : ∃ s m p m' p', FloatKind.f32.decode b = .number s m p ∧ FloatKind.f64.decode (fconv .f32 .f64 b) = .number s m' p' ∧ (m' = 0 ↔ m = 0) := by
  obtain ⟨s, m, p, hd⟩ := fin_num h
  obtain ⟨h1, h2, h3⟩ := single_mag hd
  obtain ⟨q, hq1, hq2, hq3⟩ := read_exact s m p (by omega) (by omega) (by omega)
  rw [← widen_num hd] at hq3
  refine ⟨s, m, p, _, _, hd, hq3, ?_⟩
  rw [Nat.shiftLeft_eq]
  have := Nat.two_pow_pos (p - q).toNat
  constructor
  · intro h; rcases Nat.mul_eq_zero.1 h with h | h
    · exact h
    · omega
  · rintro rfl; simp
theorem wide_lt {b : Nat} (h : finB .f32 b = true) : ltF .f64 (fconv .f32 .f64 b) 0 = ltF .f32 b 0 := by
  obtain ⟨s, m, p, m', p', h1, h2, h3⟩ := wide_parts h
  rw [lt_zero .f64 h2, lt_zero .f32 h1, Bool.eq_iff_iff]
  simp only [Bool.and_eq_true, bne_iff_ne, ne_eq, h3]
theorem wide_eq {b : Nat} (h : finB .f32 b = true) : eqF .f64 (fconv .f32 .f64 b) 0 = eqF .f32 b 0 := by
  obtain ⟨s, m, p, m', p', h1, h2, h3⟩ := wide_parts h
  rw [eq_zero .f64 h2, eq_zero .f32 h1, Bool.eq_iff_iff]
  simp only [beq_iff_eq, h3]

/-- The less by the greater magnitude is at most 1. -/
theorem ang0_parts {y x : Nat} (hy : finB .f32 y = true) (hx : finB .f32 x = true) (h0 : (eqF .f32 x 0 && eqF .f32 y 0) = false) :
    (gtF .f64 (fconv .f32 .f64 y % 9223372036854775808) (fconv .f32 .f64 x % 9223372036854775808) = true → Sm .f64 0 (fbin .quo .f64 (fconv .f32 .f64 x % 9223372036854775808) (fconv .f32 .f64 y % 9223372036854775808))) ∧
    (gtF .f64 (fconv .f32 .f64 y % 9223372036854775808) (fconv .f32 .f64 x % 9223372036854775808) = false → Sm .f64 0 (fbin .quo .f64 (fconv .f32 .f64 y % 9223372036854775808) (fconv .f32 .f64 x % 9223372036854775808))) := by
  obtain ⟨s, m, p, m', p', h1, h2, h3⟩ := wide_parts hy
  obtain ⟨t, n, q, n', q', g1, g2, g3⟩ := wide_parts hx
  rw [eq_zero .f32 h1, eq_zero .f32 g1] at h0
  have d1 := dec_abs h2
  have d2 := dec_abs g2
  rw [gt_num d1 d2]
  constructor
  · intro h
    have h := of_decide_eq_true h
    refine quo_le_one d2 d1 (fun h0 => ?_) ?_
    · rw [(shl_zero m' _).2 h0] at h
      exact absurd h (Nat.not_lt_zero _)
    · rw [Int.min_comm]; exact Nat.le_of_lt h
  · intro h
    have h := of_decide_eq_false h
    refine quo_le_one d1 d2 (fun h0' => ?_) (Nat.le_of_not_lt h)
    have hn : n = 0 := g3.1 h0'
    have hm : m = 0 := h3.1 ((shl_zero m' (p' - min p' q').toNat).1 (by
      rw [(shl_zero n' _).2 h0'] at h
      exact Nat.eq_zero_of_not_pos h))
    subst hn hm
    simp at h0
theorem ang0_sm {y x : Nat} (hy : finB .f32 y = true) (hx : finB .f32 x = true) (h0 : (eqF .f32 x 0 && eqF .f32 y 0) = false) : Sm .f64 0 (ang0 (fconv .f32 .f64 y % 9223372036854775808) (fconv .f32 .f64 x % 9223372036854775808)) := by
  obtain ⟨h1, h2⟩ := ang0_parts hy hx h0
  unfold ang0
  split
  · rename_i h; exact h1 h
  · rename_i h; exact h2 (by simpa using h)

end Go.Proofs.Ytoiomgofbohmoaa
