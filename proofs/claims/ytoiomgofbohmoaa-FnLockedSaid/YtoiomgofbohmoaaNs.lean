/-
  Plain facts on square roots and on whole parts of float64s, every NaN taken as one; the walk's laws for the calls that make them.
-/
import Derived.Test.YtoiomgofbohmoaaNu
import Derived.Laws.Externs
set_option linter.unusedVariables false
set_option linter.unusedSimpArgs false
namespace Go.Proofs.Ytoiomgofbohmoaa
open Go.RowKit

/-! ### Roots -/

theorem rootFrom_sq (n : Nat) : ∀ (todo root : Nat), root * root ≤ n → Ieee.Datum.rootFrom n todo root * Ieee.Datum.rootFrom n todo root ≤ n
  | 0, root, h => h
  | todo + 1, root, h => by
    unfold Ieee.Datum.rootFrom
    dsimp only
    split
    · rename_i h2; exact rootFrom_sq n todo _ h2
    · exact rootFrom_sq n todo _ h

def fsqrt (x : Nat) : Nat := (FloatKind.f64.format.sqrt x).getD (nanOf .f64)

theorem sqrt_cn (x : Nat) : FloatKind.f64.format.sqrt (cn .f64 x) = FloatKind.f64.format.sqrt x := by
  cases hx : isN .f64 x
  · rw [cn_of_not hx]
  · unfold Ieee.Format.sqrt
    show ((FloatKind.f64.decode (cn .f64 x)).root _).map _ = ((FloatKind.f64.decode x).root _).map _
    rw [cn_of_nan hx, root_nan (isN_nanOf .f64), root_nan hx]
theorem fsqrt_cn (x : Nat) : fsqrt (cn .f64 x) = fsqrt x := by unfold fsqrt; rw [sqrt_cn]
theorem cn_fsqrt (x : Nat) : cn .f64 (fsqrt x) = fsqrt x := by
  unfold fsqrt
  cases h : FloatKind.f64.format.sqrt x with
  | none => exact cn_nanOf .f64
  | some r => exact cn_of_not (sqrt_not_nan h)

theorem half_pow {x a : Nat} (h : x * x ≤ 2 ^ (2 * a)) : x ≤ 2 ^ a := by
  rcases Nat.lt_or_ge (2 ^ a) x with h1 | h1
  · exfalso
    have h2 : 2 ^ a * 2 ^ a < x * x := Nat.mul_lt_mul'' h1 h1
    rw [← Nat.pow_add, show a + a = 2 * a by omega] at h2
    omega
  · exact h1

/-- The root of what is at most '2 ^ (2 * f)' is at most '2 ^ f'; of what is no number, or negative, it is none. -/
theorem sqrt_cases (x : Nat) (f : Int) (hf1 : -500 ≤ f) (hf2 : f ≤ 500) : isN .f64 x = true ∨ (∃ s, FloatKind.f64.decode x = .infinity s) ∨ ((∃ s m p, FloatKind.f64.decode x = .number s m p ∧ MagLe m p (2 * f)) → isN .f64 (fsqrt x) = true ∨ Sm .f64 f (fsqrt x)) := by
  cases hd : FloatKind.f64.decode x with
  | nan s t => left; unfold isN; rw [hd]; rfl
  | infinity s => right; left; exact ⟨s, rfl⟩
  | number s m p =>
    right; right
    rintro ⟨s', m', p', he, hm⟩
    cases he
    have e1 : FloatKind.f64.format.fractionBits = 52 := by decide +kernel
    have hq : fsqrt x = (((Ieee.Datum.number s m p).root 54).map FloatKind.f64.format.write).getD (nanOf .f64) := by
      unfold fsqrt Ieee.Format.sqrt
      show (((FloatKind.f64.decode x).root (FloatKind.f64.format.fractionBits + 2)).map _).getD _ = _
      rw [hd, e1]
    rw [hq]
    unfold Ieee.Datum.root
    dsimp only
    by_cases hm0 : m = 0
    · right
      rw [if_pos hm0]
      subst hm0
      exact sm_nearest64 s 0 p f (.inl rfl) (by omega) (by omega)
    · rw [if_neg hm0]
      cases s with
      | true => left; exact isN_nanOf .f64
      | false =>
        right
        simp only [Bool.false_eq_true, if_false, Option.map_some, Option.getD_some]
        refine sm_nearest64 _ _ _ f ?_ (by omega) (by omega)
        generalize hmore : 2 * 54 - m.log2 + ((p - ↑(2 * 54 - m.log2)) % 2).toNat = more
        have hev : (p - more) % 2 = 0 := by omega
        generalize hwh : Ieee.Datum.rootFrom (m <<< more) ((m <<< more).log2 / 2 + 1) 0 = whole
        have hsq : whole * whole ≤ m <<< more := by rw [← hwh]; exact rootFrom_sq _ _ 0 (by simp)
        rcases magLe_iff.1 hm with h | ⟨h1, h2⟩
        · exact absurd h hm0
        rw [magLe_iff]
        right
        have hb : m <<< more ≤ 2 ^ (2 * (f - (p - more) / 2).toNat) := by
          rw [Nat.shiftLeft_eq]
          calc m * 2 ^ more ≤ 2 ^ (2 * f - p).toNat * 2 ^ more := Nat.mul_le_mul_right _ h2
            _ = _ := by rw [← Nat.pow_add]; congr 1; omega
        have hw := half_pow (Nat.le_trans hsq hb)
        refine ⟨by omega, ?_⟩
        have e2 : (f - ((p - more) / 2 - 1)).toNat = (f - (p - more) / 2).toNat + 1 := by omega
        rw [e2, Nat.pow_succ]
        by_cases hst : whole * whole = m <<< more
        · simp [hst]; omega
        · have hlt : whole < 2 ^ (f - (p - more) / 2).toNat := by
            rcases Nat.lt_or_eq_of_le hw with h | h
            · exact h
            · exfalso
              apply hst
              have : whole * whole = 2 ^ (2 * (f - (p - more) / 2).toNat) := by rw [h, ← Nat.pow_add]; congr 1; omega
              omega
          have : (whole * whole != m <<< more).toNat = 1 := by simp [hst]
          rw [this]
          omega

theorem widen_num {b : Nat} {neg : Bool} {m : Nat} {p : Int} (h : FloatKind.f32.decode b = .number neg m p) : fconv .f32 .f64 b = FloatKind.f64.format.nearest neg m p := by
  have hn : isN .f32 b = false := by unfold isN; rw [h]; rfl
  unfold fconv FloatKind.encode
  rw [if_neg (by rw [hn]; decide), h]
  rfl
theorem single_le {m : Nat} {p : Int} (h1 : m < 16777216) (h3 : p ≤ 104) : MagLe m p 128 := by
  rw [magLe_iff]
  right
  refine ⟨by omega, ?_⟩
  obtain ⟨q, hq⟩ : ∃ q, (128 - p).toNat = 24 + q := ⟨(128 - p).toNat - 24, by omega⟩
  rw [hq, Nat.pow_add]
  have : 0 < 2 ^ q := Nat.two_pow_pos q
  calc m ≤ 2 ^ 24 * 1 := by omega
    _ ≤ 2 ^ 24 * 2 ^ q := Nat.mul_le_mul_left _ this
theorem widen_sm {b : Nat} {neg : Bool} {m : Nat} {p : Int} (h : FloatKind.f32.decode b = .number neg m p) : Sm .f64 128 (fconv .f32 .f64 b) := by
  obtain ⟨h1, h2, h3⟩ := single_mag h
  rw [widen_num h]
  exact sm_nearest64 neg m p 128 (single_le h1 h3) (by decide) (by decide)

theorem nan_ok {y : Nat} (h : isN .f64 y = true) : convOk .f64 .f32 y = true := by unfold convOk; rw [h]; rfl
theorem fsqrt_of {x : Nat} {d : Ieee.Datum} (h : FloatKind.f64.decode x = d) : fsqrt x = ((d.root (FloatKind.f64.format.fractionBits + 2)).map FloatKind.f64.format.write).getD (nanOf .f64) := by
  subst h
  unfold fsqrt Ieee.Format.sqrt FloatKind.decode
  rfl
theorem fsqrt_nan {x : Nat} (h : isN .f64 x = true) : fsqrt x = nanOf .f64 := by
  rw [fsqrt_of rfl, root_nan h]
  rfl
theorem fsqrt_inf {x : Nat} {s : Bool} (h : FloatKind.f64.decode x = .infinity s) : fsqrt x = if s then nanOf .f64 else FloatKind.f64.format.write (.infinity false) := by
  rw [fsqrt_of h]
  cases s <;> rfl
theorem dec_inf (s : Bool) : FloatKind.f64.decode (FloatKind.f64.format.write (.infinity s)) = .infinity s := by cases s <;> decide +kernel
theorem inf_ok {x : Nat} {s : Bool} (h : FloatKind.f64.decode x = .infinity s) : convOk .f64 .f32 x = true := by
  unfold convOk finB
  rw [h]
  simp [finD]
theorem widen_nan {x : Nat} (h : isN .f32 x = true) : fconv .f32 .f64 x = nanOf .f64 := by
  unfold fconv
  rw [if_pos h]
theorem widen_inf {x : Nat} {s : Bool} (h : FloatKind.f32.decode x = .infinity s) : fconv .f32 .f64 x = FloatKind.f64.format.write (.infinity s) := by
  have hn : isN .f32 x = false := by unfold isN; rw [h]; rfl
  unfold fconv FloatKind.encode
  rw [if_neg (by rw [hn]; decide), h]

/-- The root of a widened float32 may be narrowed. -/
theorem root_ok (x : Nat) : convOk .f64 .f32 (fsqrt (fconv .f32 .f64 x)) = true := by
  cases hd : FloatKind.f32.decode x with
  | nan s t =>
    rw [widen_nan (by unfold isN; rw [hd]; rfl)]
    exact nan_ok (by rw [fsqrt_nan (isN_nanOf .f64)]; exact isN_nanOf .f64)
  | infinity s =>
    rw [widen_inf hd, fsqrt_inf (dec_inf s)]
    split
    · exact nan_ok (isN_nanOf .f64)
    · exact inf_ok (dec_inf false)
  | number s m p =>
    have hs := widen_sm hd
    rcases sqrt_cases (fconv .f32 .f64 x) 64 (by decide) (by decide) with h | ⟨t, h⟩ | h
    · rw [hs.not_nan] at h; cases h
    · obtain ⟨s', m', p', h', _⟩ := hs
      rw [h'] at h
      cases h
    · obtain ⟨s', m', p', h', hm⟩ := hs
      rcases h ⟨s', m', p', h', hm⟩ with h | h
      · exact nan_ok h
      · exact (narrow_ok h (by decide)).1

/-! ### Whole parts -/

def fwhole (way : Ieee.Toward) (x : Nat) : Nat := if isN .f64 x then nanOf .f64 else FloatKind.f64.encode ((FloatKind.f64.decode x).integral way)
theorem integral_not_nan {way : Ieee.Toward} {d : Ieee.Datum} (h : d.isNaN = false) : (d.integral way).isNaN = false := by
  cases d <;> simp_all [Ieee.Datum.integral, Ieee.Datum.isNaN]
theorem fwhole_cn (way : Ieee.Toward) (x : Nat) : fwhole way (cn .f64 x) = fwhole way x := by
  unfold fwhole
  rw [isN_cn]
  cases h : isN .f64 x
  · simp only [Bool.false_eq_true, if_false]; rw [cn_of_not h]
  · rfl
theorem cn_fwhole (way : Ieee.Toward) (x : Nat) : cn .f64 (fwhole way x) = fwhole way x := by
  unfold fwhole
  split
  · exact cn_nanOf .f64
  · rename_i h
    exact cn_of_not (write_not_nan FloatKind.f64.format _ (integral_not_nan (by simpa [isN] using h)))

section
variable {P : Program} {ops : Array Oper} {Q : Exit → Act → World → Prop} {a : Act} {w : World} {rest : List Oper} {o : Oper}

theorem sqrt_def (b : Nat) : Extern.MathSqrt.sqrt #[.float .f64 b] = (match FloatKind.f64.format.sqrt b with
    | some r => pure (.float .f64 r)
    | none => do pure (.float .f64 (← choose (.nanBits .f64 b b)))) := rfl
theorem whole_def (name : String) (way : Ieee.Toward) (b : Nat) : Extern.MathFloor.toIntegral name way #[.float .f64 b] = (match FloatKind.f64.decode b with
    | .nan s t =>
      if FloatKind.f64.format.quiet t = t then pure (.float .f64 b) else do
      let kept ← choose (.extern "math.Floor,Ceil,Trunc,RoundToEven.signallingNaN kept" 2)
      pure (.float .f64 (if kept == 1 then b else FloatKind.f64.encode (.nan s (FloatKind.f64.format.quiet t))))
    | d => pure (.float .f64 (FloatKind.f64.encode (d.integral way)))) := rfl
theorem run_sqrt (w : World) (b : Nat) : ∃ r n, (Extern.MathSqrt.sqrt #[.float .f64 b]).run P w = .ok (.float .f64 r) (w.drewN n) ∧ cn .f64 r = fsqrt (cn .f64 b) := by
  rw [fsqrt_cn]
  cases h : FloatKind.f64.format.sqrt b with
  | some r =>
    refine ⟨r, 0, ?_, ?_⟩
    · rw [sqrt_def, h]
      rfl
    · rw [cn_of_not (sqrt_not_nan h), fsqrt, h]; rfl
  | none =>
    refine ⟨Question.cut (.nanBits .f64 b b) (w.tape w.drawn (.nanBits .f64 b b)), 1, ?_, ?_⟩
    · rw [sqrt_def, h]
      simp [choose, Sem.run, Question.forced, World.drewN, bind, Sem.bind, pure]
    · rw [cn_of_nan (cut_nan ..), fsqrt, h]; rfl
/-- A call of the square root. -/
theorem wpList_sqrt {b : Nat} (hg : o.guard = none) (hrun : (execOp a.eval o).run P w = ((Extern.MathSqrt.sqrt #[.float .f64 b]).run P w).andThen fun v w' => .ok (.value v) w')
    (hK : ∀ r n, Hid (cn .f64 r = fsqrt (cn .f64 b)) → wpList P ops Q rest (a.put o.dst (.float .f64 r)) (w.drewN n)) : wpList P ops Q (o :: rest) a w := by
  refine wpList_plain hg fun K hK' => ?_
  obtain ⟨r, n, hr, hc⟩ := run_sqrt (P := P) w b
  unfold Oper.wp
  rw [hrun, hr]
  exact hK' _ _ (hK r n hc)

/-- A NaN made quiet is a NaN. -/
theorem quiet_nan (s : Bool) (t : Nat) : isN .f64 (FloatKind.f64.encode (.nan s (FloatKind.f64.format.quiet t))) = true := by
  have e1 : FloatKind.f64.format.binade = 4503599627370496 := by decide +kernel
  have e2 : FloatKind.f64.format.infRung = 9218868437227405312 := by decide +kernel
  have e4 : FloatKind.f64.format.signWeight = 9223372036854775808 := by decide +kernel
  rw [isN_mod, e2, e4]
  show decide (9218868437227405312 < FloatKind.f64.format.word s (FloatKind.f64.format.infRung + FloatKind.f64.format.quiet t % FloatKind.f64.format.binade) % 9223372036854775808) = true
  unfold Ieee.Format.word
  rw [e1, e2, e4]
  have hq : 2251799813685248 ≤ FloatKind.f64.format.quiet t % 4503599627370496 := by
    have e5 : FloatKind.f64.format.quiet t = t ||| 2 ^ 51 := rfl
    rw [e5, show (4503599627370496 : Nat) = 2 ^ 52 from rfl, ← Nat.and_two_pow_sub_one_eq_mod]
    have : (2 ^ 51 : Nat) ≤ (t ||| 2 ^ 51) &&& (2 ^ 52 - 1) := by
      have h : ((t ||| 2 ^ 51) &&& (2 ^ 52 - 1)).testBit 51 = true := by
        rw [Nat.testBit_and, Nat.testBit_or]
        rw [Nat.testBit_two_pow_self, Nat.testBit_two_pow_sub_one]
        simp
      exact Nat.ge_two_pow_of_testBit h
    exact this
  have hlt : FloatKind.f64.format.quiet t % 4503599627370496 < 4503599627370496 := Nat.mod_lt _ (by decide)
  generalize FloatKind.f64.format.quiet t % 4503599627370496 = q at *
  cases s <;> simp <;> omega
theorem whole_here {w : World} {b : Nat} {s : Sem Value} (way : Ieee.Toward) (hb : isN .f64 b = false) (hs : s = pure (.float .f64 (FloatKind.f64.encode ((FloatKind.f64.decode b).integral way)))) :
    ∃ r n, s.run P w = .ok (.float .f64 r) (w.drewN n) ∧ cn .f64 r = fwhole way b := by
  subst hs
  have hq : fwhole way b = FloatKind.f64.encode ((FloatKind.f64.decode b).integral way) := by unfold fwhole; rw [if_neg (by rw [hb]; decide)]
  refine ⟨_, 0, Sem.run_pure .., ?_⟩
  rw [← hq]
  exact cn_fwhole way b
theorem run_whole (w : World) (name : String) (way : Ieee.Toward) (b : Nat) : ∃ r n, (Extern.MathFloor.toIntegral name way #[.float .f64 b]).run P w = .ok (.float .f64 r) (w.drewN n) ∧ cn .f64 r = fwhole way (cn .f64 b) := by
  rw [fwhole_cn, whole_def]
  cases hd : FloatKind.f64.decode b with
  | nan s t =>
    have hb : isN .f64 b = true := by unfold isN; rw [hd]; rfl
    have hq : fwhole way b = nanOf .f64 := by unfold fwhole; rw [hb]; rfl
    rw [hq]
    dsimp only
    by_cases hqt : FloatKind.f64.format.quiet t = t
    · rw [if_pos hqt]
      exact ⟨b, 0, rfl, cn_of_nan hb⟩
    · rw [if_neg hqt]
      obtain ⟨k, hk⟩ : ∃ k, (choose (.extern "math.Floor,Ceil,Trunc,RoundToEven.signallingNaN kept" 2)).run P w = .ok k (w.drewN 1) := ⟨_, rfl⟩
      simp only [Sem.run_bind, hk, Result.andThen_ok, Sem.run_pure]
      refine ⟨_, 1, rfl, ?_⟩
      split
      · exact cn_of_nan hb
      · exact cn_of_nan (quiet_nan s t)
  | number s m p =>
    have hb : isN .f64 b = false := by unfold isN; rw [hd]; rfl
    exact whole_here way hb (by rw [hd])
  | infinity s =>
    have hb : isN .f64 b = false := by unfold isN; rw [hd]; rfl
    exact whole_here way hb (by rw [hd])
/-- A call that makes a float64 whole. -/
theorem wpList_whole {b : Nat} {way : Ieee.Toward} {name : String} (hg : o.guard = none) (hrun : (execOp a.eval o).run P w = ((Extern.MathFloor.toIntegral name way #[.float .f64 b]).run P w).andThen fun v w' => .ok (.value v) w')
    (hK : ∀ r n, Hid (cn .f64 r = fwhole way (cn .f64 b)) → wpList P ops Q rest (a.put o.dst (.float .f64 r)) (w.drewN n)) : wpList P ops Q (o :: rest) a w := by
  refine wpList_plain hg fun K hK' => ?_
  obtain ⟨r, n, hr, hc⟩ := run_whole (P := P) w name way b
  unfold Oper.wp
  rw [hrun, hr]
  exact hK' _ _ (hK r n hc)
end

end Go.Proofs.Ytoiomgofbohmoaa
