/-
  The walks of locked clocks.
-/
import Derived.Test.YtoiomgofbohmoaaWz
set_option linter.unusedVariables false
set_option linter.unusedSimpArgs false
namespace Go.Proofs.Ytoiomgofbohmoaa
open Go.RowKit

@[go_sem] theorem f32frombits_call (n : Int) (w : World) : (callFunc 24 #[.int .u32 n]).run Try.prog w = .ok (.value (.float .f32 n.toNat)) w := by
  rw [run_callFunc_extern Try.func24 (by kernel_rfl) (by kernel_rfl) (by kernel_rfl) (e := Extern.MathFloatBits.float32frombits) (by kernel_rfl)]
  rfl

theorem abs_any (x : Nat) (w : World) (h : x < 4294967296) : Calls Try.prog 14 #[.float .f32 x] w fun e w' => e = .returned (.float .f32 (x % 2147483648)) ∧ w' = w := by
  go_enter Try.func14, Try.ntmps14
  go_wp2
  go_ret
  refine ⟨ret_float ?_, rfl⟩
  rw [show (2147483648 : Int) = ((2147483648 : Nat) : Int) from rfl, u32_andNot_nat _ _ h (by decide)]
  show (x &&& 2147483647) = x % 2147483648
  exact Nat.and_two_pow_sub_one_eq_mod x 31

theorem dec_abs32 {y : Nat} {s : Bool} {m : Nat} {p : Int} (hy : FloatKind.f32.decode y = .number s m p) : FloatKind.f32.decode (y % 2147483648) = .number false m p := by
  have e4 : FloatKind.f32.format.signWeight = 2147483648 := by decide +kernel
  unfold FloatKind.decode Ieee.Format.read at *
  dsimp only at *
  rw [e4] at hy ⊢
  rw [Nat.mod_mod]
  have h0 : y % 2147483648 / 2147483648 % 2 = 0 := by rw [Nat.div_eq_of_lt (Nat.mod_lt _ (by decide))]
  rw [h0]
  split at hy
  · rename_i h; rw [if_pos h]; cases hy; rfl
  · rename_i h; rw [if_neg h]
    split at hy
    · rename_i h; rw [if_pos h]; cases hy; rfl
    · split at hy <;> cases hy
theorem fin_abs32 (y : Nat) : (FloatKind.f32.decode y = .infinity true ∨ FloatKind.f32.decode y = .infinity false) → FloatKind.f32.decode (y % 2147483648) = .infinity false := by
  have e4 : FloatKind.f32.format.signWeight = 2147483648 := by decide +kernel
  intro hy
  unfold FloatKind.decode Ieee.Format.read at *
  dsimp only at *
  rw [e4] at hy ⊢
  rw [Nat.mod_mod]
  have h0 : y % 2147483648 / 2147483648 % 2 = 0 := by rw [Nat.div_eq_of_lt (Nat.mod_lt _ (by decide))]
  rw [h0]
  split at hy
  · rcases hy with hy | hy <;> cases hy
  · rename_i h; rw [if_neg h]
    split at hy
    · rcases hy with hy | hy <;> cases hy
    · rename_i h; rw [if_neg h]
      split at hy
      · rename_i h; rw [if_pos h]; rfl
      · rcases hy with hy | hy <;> cases hy
theorem nan_abs32 (y : Nat) : isN .f32 (y % 2147483648) = isN .f32 y := by
  rw [isN_mod, isN_mod, show FloatKind.f32.format.signWeight = 2147483648 by decide +kernel, Nat.mod_mod]

theorem le_dec (k : FloatKind) (x y : Nat) : leF k x y = (((k.decode x).order (k.decode y) == some .lt) || ((k.decode x).order (k.decode y) == some .eq)) := rfl
/-- '|x| <= y' is 'x <= y' and '-x <= y'. -/
theorem abs_le32 (x y : Nat) (hx : x < 4294967296) : leF .f32 (x % 2147483648) y = (leF .f32 x y && leF .f32 (Op.negFloat .f32 x) y) := by
  cases hn : isN .f32 x
  · rw [le_dec, le_dec, le_dec, decode_neg .f32 (show x < width2 .f32 by rw [show width2 .f32 = 4294967296 by decide +kernel]; exact hx) hn]
    cases hd : FloatKind.f32.decode x with
    | nan s t => unfold isN at hn; rw [hd] at hn; cases hn
    | infinity s =>
      rw [fin_abs32 x (by cases s; exact .inr hd; exact .inl hd)]
      cases s <;> cases FloatKind.f32.decode y with
      | nan s t => rfl
      | infinity t => cases t <;> rfl
      | number t n q => rfl
    | number s m p =>
      rw [dec_abs32 hd]
      cases FloatKind.f32.decode y with
      | nan t u => rfl
      | infinity t => cases t <;> cases s <;> rfl
      | number t n q =>
        simp only [Ieee.Datum.opposite, Ieee.Datum.order, cmp_le]
        generalize Ieee.signed t n (q - min p q).toNat = T
        rw [Bool.eq_iff_iff]
        simp only [Bool.and_eq_true, decide_eq_true_eq]
        cases s
        · show Ieee.signed false m _ ≤ T ↔ Ieee.signed false m _ ≤ T ∧ Ieee.signed true m _ ≤ T
          rw [signed_pos, signed_neg]
          generalize m <<< (p - min p q).toNat = M
          omega
        · show Ieee.signed false m _ ≤ T ↔ Ieee.signed true m _ ≤ T ∧ Ieee.signed false m _ ≤ T
          rw [signed_pos, signed_neg]
          generalize m <<< (p - min p q).toNat = M
          omega
  · rw [(cmp_nan_left .f32 ((nan_abs32 x).trans hn)).2.1, (cmp_nan_left .f32 hn).2.1]; rfl

def lockB (less link : Nat) : Bool := aboveB link && (leF .f32 less link && leF .f32 (Op.negFloat .f32 less) link)
def lockQ (less link : Nat) : Nat := angleQ (cn .f32 less) (rootQ (fbin .sub .f32 (fbin .mul .f32 (cn .f32 link) (cn .f32 link)) (fbin .mul .f32 (cn .f32 less) (cn .f32 less))))
theorem above_le {x : Nat} : aboveB x = (finB .f32 x && !leF .f32 x 0) := by
  unfold aboveB
  cases h : finB .f32 x
  · rfl
  · have h1 : isN .f32 0 = false := by decide +kernel
    rw [le_or_gt .f32 (isN_of_fin h) h1, Bool.not_not]

set_option maxRecDepth 100000 in
set_option maxHeartbeats 8000000 in
theorem implLockApart_any (x y : Nat) (w : World) (hx : x < 4294967296) : Calls Try.prog 6 #[.float .f32 x, .float .f32 y] w (PF (condF (lockB x y && finB .f32 (lockQ x y)) (lockQ x y)) (lockB x y && finB .f32 (lockQ x y)) w) := by
  have HB : Hid (lockB x y = (aboveB y && leF .f32 (x % 2147483648) y)) := by show _ = _; unfold lockB; rw [abs_le32 x y hx]
  cases h1 : aboveB y
  · go_enter Try.func6, Try.ntmps6
    go_wp2_with (first | (go_at_call 13; refine (lengthOk_any _ _).mono ?_; rintro e w' ⟨n, rfl, rfl⟩))
    go_ret2
    ((refine pf_none (by rw [HB.out, h1]; simp) ?_); (repeat (first | assumption | (with_reducible exact Below.refl _ _) | (with_reducible refine Below.drewN ?_ _) | (with_reducible refine Below.drew ?_) | (with_reducible refine Below.allocS ?_ _) | ((with_reducible refine Below.setCell ?_ ?_ _); rotate_left; focus (first | omega | (simp; done) | (simp; omega))) | (with_reducible refine Below.step ?_ (by assumption)))); done)
  cases h2 : leF .f32 (x % 2147483648) y
  · go_enter Try.func6, Try.ntmps6
    go_wp2_with (first | (go_at_call 13; refine (lengthOk_any _ _).mono ?_; rintro e w' ⟨n, rfl, rfl⟩) | (go_at_call 14; refine (abs_any _ _ hx).mono ?_; rintro e w5 ⟨rfl, rfl⟩))
    go_ret2
    ((refine pf_none (by rw [HB.out, h2]; simp) ?_); (repeat (first | assumption | (with_reducible exact Below.refl _ _) | (with_reducible refine Below.drewN ?_ _) | (with_reducible refine Below.drew ?_) | (with_reducible refine Below.allocS ?_ _) | ((with_reducible refine Below.setCell ?_ ?_ _); rotate_left; focus (first | omega | (simp; done) | (simp; omega))) | (with_reducible refine Below.step ?_ (by assumption)))); done)
  · have HL : Hid (lockB x y = true) := by show _ = _; rw [HB.out, h1, h2]; rfl
    go_enter Try.func6, Try.ntmps6
    go_wp2_with (first | (refine wpList_fbin rfl rfl rfl rfl rfl (fun r n hr => ?_)) | (go_at_call 13; refine (lengthOk_any _ _).mono ?_; rintro e w' ⟨n, rfl, rfl⟩) | (go_at_call 14; refine (abs_any _ _ hx).mono ?_; rintro e w5 ⟨rfl, rfl⟩) | (go_at_call 17; refine (RootNumber_any _ _).mono ?_; rintro e w1 ⟨rr, n1, rfl, hq, rfl⟩; have HR := Lib.hid hq; clear hq) | (go_at_call 16; refine (AngleTurns_any _ _ _).mono ?_; rintro e w1 ⟨ra, rfl, hq, hb⟩; have HA := Lib.hid hq; clear hq) | (go_at_call 15; refine (toldNumber_any _ _).mono ?_; rintro e w5 ⟨m2, rfl, rfl⟩))
    go_ret2
    refine pf_told (Q := lockQ x y) ?_ (by rw [HL.out]; simp) ?_
    · unfold lockQ
      simp only [Hid] at *
      simp only [*]
    · (repeat (first | assumption | (with_reducible exact Below.refl _ _) | (with_reducible refine Below.drewN ?_ _) | (with_reducible refine Below.drew ?_) | (with_reducible refine Below.allocS ?_ _) | ((with_reducible refine Below.setCell ?_ ?_ _); rotate_left; focus (first | omega | (simp; done) | (simp; omega))) | (with_reducible refine Below.step ?_ (by assumption))))


end Go.Proofs.Ytoiomgofbohmoaa
