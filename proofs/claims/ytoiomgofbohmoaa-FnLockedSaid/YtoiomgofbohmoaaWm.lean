/-
  The walks of the sine of turns.
-/
import Derived.Test.YtoiomgofbohmoaaWl
import Derived.Test.YtoiomgofbohmoaaNx
import Derived.Laws.BitsAllLaws
set_option linter.unusedVariables false
set_option linter.unusedSimpArgs false
namespace Go.Proofs.Ytoiomgofbohmoaa
open Go.RowKit

@[go_sem] theorem f64frombits_call (n : Int) (w : World) : (callFunc 34 #[.int .u64 n]).run Try.prog w = .ok (.value (.float .f64 n.toNat)) w := by
  rw [run_callFunc_extern Try.func34 (by kernel_rfl) (by kernel_rfl) (by kernel_rfl) (e := Extern.MathFloatBits.float64frombits) (by kernel_rfl)]
  rfl

@[go_sem] theorem f64bits_call (b : Nat) (w : World) : (callFunc 35 #[.float .f64 b]).run Try.prog w = .ok (.value (.int .u64 b)) w := by
  rw [run_callFunc_extern Try.func35 (by kernel_rfl) (by kernel_rfl) (by kernel_rfl) (e := Extern.MathFloatBits.float64bits) (by kernel_rfl)]
  rfl

theorem mathNaN_any (w : World) : Calls Try.prog 26 #[] w (RX .f64 9221120237041090561 w) := by
  go_enter Try.func26, Try.ntmps26
  go_wp2
  go_ret
  exact ⟨0, rfl, rfl⟩


theorem mathAbs_any (y : Nat) (w : World) (h : y < 18446744073709551616) : Calls Try.prog 27 #[.float .f64 y] w (RX .f64 (y % 9223372036854775808) w) := by
  go_enter Try.func27, Try.ntmps27
  go_wp2
  go_ret
  refine ⟨0, ret_float ?_, rfl⟩
  rw [show (9223372036854775808 : Int) = ((9223372036854775808 : Nat) : Int) from rfl, u64_andNot_nat _ _ h (by decide)]
  show (y &&& 9223372036854775807) = y % 9223372036854775808
  exact Nat.and_two_pow_sub_one_eq_mod y 63

theorem sin_wrap {j : Nat} (h : j < 8) : wrap64 (2 * (8 - (j : Int)) * (2 * (8 - (j : Int)) + 1)) = 2 * (8 - (j : Int)) * (2 * (8 - (j : Int)) + 1) := by
  match j, h with
  | 0, _ => decide +kernel
  | 1, _ => decide +kernel
  | 2, _ => decide +kernel
  | 3, _ => decide +kernel
  | 4, _ => decide +kernel
  | 5, _ => decide +kernel
  | 6, _ => decide +kernel
  | 7, _ => decide +kernel

set_option maxRecDepth 100000 in
set_option maxHeartbeats 4000000 in
theorem l01SineWide_fin  (y : Nat) (s : Bool) (m : Nat) (p : Int) (w : World) (hy : FloatKind.f64.decode y = .number s m p) (hw : y < width2 .f64) (hb : bigB y = false) : Calls Try.prog 30 #[.float .f64 y] w (RX .f64 (sinR (sin0 y)) w) := by
  have hcv3 : ∀ (n : Int) (w : World), (convert 3 28 (.int .i64 n)).run Try.prog w = .ok (.float .f64 (floatOfInt .f64 n)) w := fun n w => run_convert_int_float w 3 28 .i64 .f64 n (by kernel_rfl) Try.underlying28
  have hcv : ∀ w : World, (convert 28 2 (.float .f64 y)).run Try.prog w = .ok (.int .i64 (intOfF y)) w := fun w => run_convert_float_int w 28 2 .f64 .i64 y _ (by kernel_rfl) Try.underlying2 (int_of_small hy hb)
  have hci : ∀ (n : Int) (w : World), (convert 2 28 (.int .i64 n)).run Try.prog w = .ok (.float .f64 (floatOfInt .f64 n)) w := fun n w => run_convert_int_float w 2 28 .i64 .f64 n (by kernel_rfl) Try.underlying28
  have hyy : fbin .sub .f64 y y = 0 := by rw [sub_self, if_pos (by unfold finB; rw [hy]; rfl)]
  have syy : Sm .f64 0 (fbin .sub .f64 y y) := by rw [hyy]; exact sm_of (by decide +kernel)
  have hb' : geF .f64 y 4841369599423283200 = false ∧ leF .f64 y 14064741636278059008 = false := by unfold bigB at hb; simpa using hb
  obtain ⟨hb1, hb2⟩ := hb'
  have z0 : eqF .f64 0 0 = true := by decide +kernel
  have s0 := sin0_sm hy hw hb
  have HI := Lib.hid (less_int hy hw hb)
  have si : Sm .f64 0 (fbin .sub .f64 y (floatOfInt .f64 (intOfF y))) := by rw [HI.out]; exact s0
  have ei : ∃ f, Hid (sin0 y = f) ∧ fbin .sub .f64 y (floatOfInt .f64 (intOfF y)) = f ∧ Sm .f64 0 f := ⟨_, rfl, HI.out, s0⟩
  clear s0
  obtain ⟨f, hf, ef, s0⟩ := ei
  have HY := Lib.hid hy
  clear hy HI hb
  all_goals
    obtain ⟨f1, q1, s1, hc1⟩ := stage1 s0
    rcases hc1 with ⟨c1, e1, t1⟩ | ⟨c1, rfl⟩
    all_goals
      obtain ⟨f2, q2, s2, hc2⟩ := stage2 q1 s1
      rcases hc2 with ⟨c2, e2, t2⟩ | ⟨c2, rfl⟩
    all_goals
      obtain ⟨f3, q3, s3, hc3⟩ := stage3 q2 s2
      rcases hc3 with ⟨c3, e3, t3⟩ | ⟨c3, rfl⟩
    all_goals
      obtain ⟨z, u, qm, ez, tz, eu, tu, su, tm⟩ := stageZ q3 s3
      go_enter Try.func30, Try.ntmps30
      go_wp2_with (first | (refine wpList_fexact rfl rfl rfl rfl rfl (by assumption) ?_))
      go_loop [7, 8] (fun p k => ∃ j : Nat, j ≤ 8 ∧ k = .int .i64 (8 - (j : Int)) ∧ p = .float .f64 (sinP u j)) (fun _ k => (intOf k).toNat)
      case atStart => exact ⟨0, by omega, rfl, rfl⟩
      case round =>
        obtain ⟨j, hj, rfl, rfl⟩ := hrel
        by_cases hlt : j < 8
        · have m1 := sinP_mul su hlt
          have m2 : Sm .f64 (10 + 11 * (j : Int)) (fbin .quo .f64 (fbin .mul .f64 u (sinP u j)) (floatOfInt .f64 (2 * (8 - (j : Int)) * (2 * (8 - (j : Int)) + 1)))) := sinP_quo su hlt
          have m3 : Sm .f64 (11 * ((j + 1 : Nat) : Int)) (fbin .sub .f64 4607182418800017408 (fbin .quo .f64 (fbin .mul .f64 u (sinP u j)) (floatOfInt .f64 (2 * (8 - (j : Int)) * (2 * (8 - (j : Int)) + 1))))) := sinP_all su (j + 1) hlt
          have d1 : decide ((1 : Int) ≤ 8 - (j : Int)) = true := decide_eq_true (by omega)
          have b1 : (0 : Int) ≤ 8 - (j : Int) := by omega
          have hwr : wrap64 (2 * (8 - (j : Int)) * (2 * (8 - (j : Int)) + 1)) = 2 * (8 - (j : Int)) * (2 * (8 - (j : Int)) + 1) := sin_wrap hlt
          have b2 : 8 - (j : Int) ≤ 8 := by omega
          go_wp2_with (first | (refine wpList_fexact rfl rfl rfl rfl rfl (by assumption) ?_))
          go_round
          case rel => exact ⟨j + 1, hlt, congrArg (Value.int .i64) (by omega), rfl⟩
          case measure => simp [intOf]; omega
        · obtain rfl : j = 8 := by omega
          go_wp2_with (first | (refine wpList_fexact rfl rfl rfl rfl rfl (by assumption) ?_) | fail)
          go_ret
          refine ⟨0, ret_float ?_, rfl⟩
          rw [hf.out]
          unfold sinR
          rw [qm.out, q1.out, c2]
          rfl

set_option maxRecDepth 100000 in
theorem l01SineWide_bad (y : Nat) (w : World) (h : finB .f64 y = false) : Calls Try.prog 30 #[.float .f64 y] w (RX .f64 9221120237041090561 w) := by
  go_enter Try.func30, Try.ntmps30
  go_wp2_with (first | ((refine wpList_fbin rfl rfl rfl rfl rfl (fun r n hr => ?_)); have hfl := fin_law hr.out; rw [h] at hfl; clear hr) | (go_at_call 26; refine (mathNaN_any _).mono ?_; rintro e w' ⟨n, rfl, rfl⟩))
  go_ret
  exact ⟨_, rfl, rfl⟩

set_option maxRecDepth 100000 in
theorem l01SineWide_big (y : Nat) (w : World) (h : finB .f64 y = true) (hb : bigB y = true) : Calls Try.prog 30 #[.float .f64 y] w (RX .f64 0 w) := by
  have hyy : fbin .sub .f64 y y = 0 := by rw [sub_self, if_pos h]
  have syy : Sm .f64 0 (fbin .sub .f64 y y) := by rw [hyy]; exact sm_of (by decide +kernel)
  have z0 : eqF .f64 0 0 = true := by decide +kernel
  unfold bigB at hb
  cases hb1 : geF .f64 y 4841369599423283200 <;> cases hb2 : leF .f64 y 14064741636278059008
  all_goals
    rw [hb1, hb2] at hb
    first
      | (cases hb; done)
      | (go_enter Try.func30, Try.ntmps30
         go_wp2_with (first | (refine wpList_fexact rfl rfl rfl rfl rfl (by assumption) ?_))
         go_ret
         exact ⟨0, rfl, rfl⟩)

theorem cn_nan561 : cn .f64 9221120237041090561 = nanOf .f64 := by decide +kernel
theorem nan561_ok : convOk .f64 .f32 (cn .f64 9221120237041090561) = true := by rw [cn_nan561]; exact nan_ok (isN_nanOf .f64)
theorem nan561_conv : fconv .f64 .f32 (cn .f64 9221120237041090561) = nanOf .f32 := by
  rw [cn_nan561]
  unfold fconv
  rw [if_pos (isN_nanOf .f64)]
theorem widen_fin (x : Nat) : finB .f64 (fconv .f32 .f64 x) = finB .f32 x := by
  cases hd : FloatKind.f32.decode x with
  | nan s t =>
    have hn : isN .f32 x = true := by unfold isN; rw [hd]; rfl
    have h1 : finB .f32 x = false := by unfold finB; rw [hd]; rfl
    rw [widen_nan hn, h1]
    decide +kernel
  | infinity s =>
    have h1 : finB .f32 x = false := by unfold finB; rw [hd]; rfl
    rw [widen_inf hd, h1]
    unfold finB
    rw [dec_inf]; rfl
  | number s m p =>
    have h1 : finB .f32 x = true := by unfold finB; rw [hd]; rfl
    rw [(widen_sm hd).fin, h1]

set_option maxRecDepth 100000 in
theorem l01Sine_any (x : Nat) (w : World) : Calls Try.prog 18 #[.float .f32 x] w (RF .f32 (sineQ (cn .f32 x)) w) := by
  cases hf : finB .f32 x
  · go_enter Try.func18, Try.ntmps18
    go_wp2_with (first | (refine wpList_widen rfl rfl Try.underlying28 Try.underlying24 rfl (fun r n hr => ?_)) | (go_at_call 30; have hnf : finB .f64 r = false := (by rw [← finB_cn, hr.out, widen_fin, finB_cn]; exact hf); refine (l01SineWide_bad _ _ hnf).mono ?_; clear hnf hr; rintro e w' ⟨n, rfl, rfl⟩) | (go_at_call 29; refine (l01Narrow_any _ _).mono ?_; rintro e w' ⟨r, n, rfl, hq, rfl⟩; have HR := Lib.hid hq; clear hq))
    go_ret
    refine ⟨_, _, rfl, ?_, rfl⟩
    unfold sineQ
    rw [finB_cn, hf, HR.out nan561_ok, nan561_conv]
    rfl
  · obtain ⟨Y, hY⟩ : ∃ Y, Hid (fconv .f32 .f64 (cn .f32 x) = Y) := ⟨_, rfl⟩
    have hYf : finB .f64 Y = true := by rw [← hY.out, widen_fin, finB_cn]; exact hf
    have hYw : Y < width2 .f64 := by rw [← hY.out]; exact fconv_lt ..
    have hYn : isN .f64 Y = false := isN_of_fin hYf
    have hQ : Hid (sineQ (cn .f32 x) = if bigB Y then 0 else fconv .f64 .f32 (sinR (sin0 Y))) := by
      show sineQ (cn .f32 x) = _
      unfold sineQ
      rw [finB_cn, hf, hY.out]
      rfl
    cases hb : bigB Y
    · obtain ⟨s, m, p, hd⟩ := fin_num hYf
      have HD := Lib.hid hd
      clear hd
      have hs : Sm .f64 94 (sinR (sin0 Y)) := sinR_sm (sin0_sm HD.out hYw hb)
      go_enter Try.func18, Try.ntmps18
      go_wp2_with (first | ((refine wpList_widen rfl rfl Try.underlying28 Try.underlying24 rfl (fun r n hr => ?_)); obtain rfl := (exact_of (hr.out.trans hY.out) hYn).symm; clear hr) | (go_at_call 30; refine (l01SineWide_fin _ _ _ _ _ HD.out hYw hb).mono ?_; rintro e w' ⟨n, rfl, rfl⟩) | (go_at_call 29; refine (l01Narrow_any _ _).mono ?_; rintro e w' ⟨r, n, rfl, hq, rfl⟩; have HR := Lib.hid hq; clear hq))
      go_ret
      refine ⟨_, _, rfl, ?_, rfl⟩
      have h6 := HR.out
      rw [cn_of_not hs.not_nan] at h6
      rw [hQ.out, hb, h6 (narrow_ok hs (by decide)).1]
      rfl
    · go_enter Try.func18, Try.ntmps18
      go_wp2_with (first | ((refine wpList_widen rfl rfl Try.underlying28 Try.underlying24 rfl (fun r n hr => ?_)); obtain rfl := (exact_of (hr.out.trans hY.out) hYn).symm; clear hr) | (go_at_call 30; refine (l01SineWide_big _ _ hYf hb).mono ?_; rintro e w' ⟨n, rfl, rfl⟩) | (go_at_call 29; refine (l01Narrow_any _ _).mono ?_; rintro e w' ⟨r, n, rfl, hq, rfl⟩; have HR := Lib.hid hq; clear hq))
      go_ret
      refine ⟨_, _, rfl, ?_, rfl⟩
      have h6 := HR.out (by decide +kernel)
      rw [hQ.out, hb, h6]
      show fconv .f64 .f32 (cn .f64 0) = 0
      decide +kernel

end Go.Proofs.Ytoiomgofbohmoaa
