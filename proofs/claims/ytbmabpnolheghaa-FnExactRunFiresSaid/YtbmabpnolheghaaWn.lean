/-
  The walks of the program's sine of turns.
-/
import Derived.Test.YtbmabpnolheghaaWm
import Derived.Deep.DeepCutAuto
import Derived.Deep.CutBlock
set_option linter.unusedVariables false
set_option linter.unusedSimpArgs false
namespace Go.Proofs.Ytbmabpnolheghaa
open Go.RowKit

theorem sinR_t {f f1 M : Nat} (q : Hid (sin1 f = f1)) (c : geF .f64 f1 4602678819172646912 = true) (qm : Hid (sinM f = M)) : sinR f = Op.negFloat .f64 M := by unfold sinR; rw [q.out, c, qm.out]; rfl
theorem sinR_f {f f1 M : Nat} (q : Hid (sin1 f = f1)) (c : geF .f64 f1 4602678819172646912 = false) (qm : Hid (sinM f = M)) : sinR f = M := by unfold sinR; rw [q.out, c, qm.out]; rfl

set_option maxRecDepth 100000 in
set_option maxHeartbeats 4000000 in
theorem SineTurns_fin (x : Nat) (w : World) (hf : finB .f32 x = true) (hbig : bigB (fconv .f32 .f64 (cn .f32 x)) = false) : Calls Try.prog 154 #[.float .f32 x] w (RF .f32 (sineQ (cn .f32 x)) w) := by
  have hcv3 : ∀ (n : Int) (w : World), (convert 3 85 (.int .i64 n)).run Try.prog w = .ok (.float .f64 (floatOfInt .f64 n)) w := fun n w => run_convert_int_float w 3 85 .i64 .f64 n (by kernel_rfl) Try.underlying85
  obtain ⟨Y, hY⟩ : ∃ Y, Hid (fconv .f32 .f64 (cn .f32 x) = Y) := ⟨_, rfl⟩
  have hYf : finB .f64 Y = true := by rw [← hY.out, widen_fin, finB_cn]; exact hf
  have hYw : Y < width2 .f64 := by rw [← hY.out]; exact fconv_lt ..
  have hYw2 : Y < 18446744073709551616 := hYw
  have hYn : isN .f64 Y = false := isN_of_fin hYf
  obtain ⟨s, m, p, hd⟩ := fin_num hYf
  have hb : Hid (bigB Y = false) := by show bigB Y = false; rw [← hY.out]; exact hbig
  clear hbig
  have habs : geF .f64 (Y % 9223372036854775808) 4841369599423283200 = false := by rw [abs_ge hd, hb.out]
  have hQ : Hid (sineQ (cn .f32 x) = fconv .f64 .f32 (sinR (sin0 Y))) := by
    show sineQ (cn .f32 x) = _
    unfold sineQ
    rw [finB_cn, hf, hY.out, hb.out]
    rfl
  have s00 := sin0_sm hd hYw hb.out
  have hs : Sm .f64 94 (sinR (sin0 Y)) := sinR_sm s00
  have HD := Lib.hid hd
  clear hd
  obtain ⟨T, hT⟩ : ∃ T, Hid (fwhole .zero Y = T) := ⟨_, rfl⟩
  have hTn : isN .f64 T = false := by
    rw [← hT.out, whole_num .zero HD.out]
    exact write_not_nan FloatKind.f64.format (.number s _ 0) rfl
  have e00 : sin0 Y = if eqF .f64 T 0 then Y else fbin .sub .f64 Y T := by unfold sin0; rw [hT.out]
  obtain ⟨f, hf0⟩ : ∃ f, Hid (sin0 Y = f) := ⟨_, rfl⟩
  have s0 : Sm .f64 0 f := by rw [← hf0.out]; exact s00
  have HE : Hid (f = if eqF .f64 T 0 then Y else fbin .sub .f64 Y T) := by show f = _; rw [← hf0.out]; exact e00
  clear e00 s00
  obtain ⟨f1, q1, s1, hc1⟩ := stage1 s0
  obtain ⟨f2, q2, s2, hc2⟩ := stage2 q1 s1
  obtain ⟨f3, q3, s3, hc3⟩ := stage3 q2 s2
  obtain ⟨z, u, qm, ez, tz, eu, tu, su, tm⟩ := stageZ q3 s3
  have H1 := Lib.hid hc1
  have H2 := Lib.hid hc2
  have H3 := Lib.hid hc3
  have HZ := Lib.hid (And.intro ez (And.intro tz (And.intro eu tu)))
  clear hc1 hc2 hc3 ez tz eu tu
  go_enter Try.func154, Try.ntmps154
  go_upto_if 26 with (first | (refine wpList_fexact rfl rfl rfl rfl rfl (by assumption) ?_) | ((refine wpList_widen rfl rfl Try.underlying85 Try.underlying23 rfl (fun r n hr => ?_)); obtain rfl := (exact_of (hr.out.trans hY.out) hYn).symm; clear hr) | (go_at_call 79; refine (IsFinite_any _ _).mono ?_; rintro e w' ⟨n, rfl, rfl⟩) | (go_at_call 176; refine (mathAbs_any _ _ hYw2).mono ?_; rintro e w' ⟨n, rfl, rfl⟩) | (go_at_call 177; refine (mathTrunc_any _ _).mono ?_; rintro e w' ⟨r, n, rfl, hq, rfl⟩; rw [cn_of_not hYn, hT.out] at hq; obtain rfl := (exact_of hq hTn).symm; clear hq))
  go_cut [3] (fun v3 wx => v3 = .float .f64 f ∧ ∃ n, wx = w.drewN n)
  case first =>
    cases c0 : eqF .f64 T 0
    · have e0 : fbin .sub .f64 Y T = f := by rw [HE.out, c0]; rfl
      have t0 : Sm .f64 0 (fbin .sub .f64 Y T) := by rw [e0]; exact s0
      go_wp2_with (first | (refine wpList_fexact rfl rfl rfl rfl rfl (by assumption) ?_))
      go_meet
      exact ⟨rfl, _, rfl⟩
    · have e0 : Hid (Y = f) := by show Y = f; rw [HE.out, c0]; rfl
      go_wp2_with fail
      go_meet
      exact ⟨by rw [e0.out], _, rfl⟩
  case rest =>
  obtain ⟨rfl, n0, rfl⟩ := hcut
  go_upto_if 31 with (first | (refine wpList_fexact rfl rfl rfl rfl rfl (by assumption) ?_))
  go_cut [3] (fun v3 wx => v3 = .float .f64 f1 ∧ ∃ n, wx = w.drewN n)
  case first =>
    rcases H1.out with ⟨c1, e1, t1⟩ | ⟨c1, e1⟩
    · go_wp2_with (first | (refine wpList_fexact rfl rfl rfl rfl rfl (by assumption) ?_))
      all_goals (first | (go_meet; exact ⟨rfl, _, rfl⟩) | (exact absurd ‹ltF .f64 f 0 = true› (by rw [c1]; decide)) | (exact absurd ‹ltF .f64 f 0 = false› (by rw [c1]; decide)))
    · have E1 := Lib.hid e1
      clear e1
      go_wp2_with fail
      all_goals (first | (go_meet; exact ⟨by rw [E1.out], _, rfl⟩) | (exact absurd ‹ltF .f64 f 0 = true› (by rw [c1]; decide)) | (exact absurd ‹ltF .f64 f 0 = false› (by rw [c1]; decide)))
  case rest =>
  obtain ⟨rfl, n1, rfl⟩ := hcut
  go_upto_if 36 with (first | (refine wpList_fexact rfl rfl rfl rfl rfl (by assumption) ?_))
  go_cut [3, 5] (fun v3 v5 wx => v3 = .float .f64 f2 ∧ v5 = .bool (geF .f64 f1 4602678819172646912) ∧ ∃ n, wx = w.drewN n)
  case first =>
    rcases H2.out with ⟨c2, e2, t2⟩ | ⟨c2, e2⟩
    · go_wp2_with (first | (refine wpList_fexact rfl rfl rfl rfl rfl (by assumption) ?_))
      all_goals (first | (go_meet; exact ⟨rfl, by rw [c2], _, rfl⟩) | (exact absurd ‹geF .f64 f1 4602678819172646912 = true› (by rw [c2]; decide)) | (exact absurd ‹geF .f64 f1 4602678819172646912 = false› (by rw [c2]; decide)))
    · have E2 := Lib.hid e2
      clear e2
      go_wp2_with fail
      all_goals (first | (go_meet; exact ⟨by rw [E2.out], by rw [c2], _, rfl⟩) | (exact absurd ‹geF .f64 f1 4602678819172646912 = true› (by rw [c2]; decide)) | (exact absurd ‹geF .f64 f1 4602678819172646912 = false› (by rw [c2]; decide)))
  case rest =>
  obtain ⟨rfl, rfl, n2, rfl⟩ := hcut
  go_upto_if 40 with (first | (refine wpList_fexact rfl rfl rfl rfl rfl (by assumption) ?_))
  go_cut [3, 5] (fun v3 v5 wx => v3 = .float .f64 f3 ∧ v5 = .bool (geF .f64 f1 4602678819172646912) ∧ ∃ n, wx = w.drewN n)
  case first =>
    rcases H3.out with ⟨c3, e3, t3⟩ | ⟨c3, e3⟩
    · go_wp2_with (first | (refine wpList_fexact rfl rfl rfl rfl rfl (by assumption) ?_))
      all_goals (first | (go_meet; exact ⟨rfl, rfl, _, rfl⟩) | (exact absurd ‹gtF .f64 f2 4598175219545276416 = true› (by rw [c3]; decide)) | (exact absurd ‹gtF .f64 f2 4598175219545276416 = false› (by rw [c3]; decide)))
    · have E3 := Lib.hid e3
      clear e3
      go_wp2_with fail
      all_goals (first | (go_meet; exact ⟨by rw [E3.out], rfl, _, rfl⟩) | (exact absurd ‹gtF .f64 f2 4598175219545276416 = true› (by rw [c3]; decide)) | (exact absurd ‹gtF .f64 f2 4598175219545276416 = false› (by rw [c3]; decide)))
  case rest =>
  obtain ⟨rfl, rfl, n3, rfl⟩ := hcut
  obtain ⟨ez, tz, eu, tu⟩ := HZ.out
  cases c2 : geF .f64 f1 4602678819172646912
  all_goals
    go_wp2_with (first | (refine wpList_fexact rfl rfl rfl rfl rfl (by assumption) ?_))
    go_loop [8, 9] (fun p k => ∃ j : Nat, j ≤ 8 ∧ k = .int .i64 (8 - (j : Int)) ∧ p = .float .f64 (sinP u j)) (fun _ k => (intOf k).toNat)
    case atStart => exact ⟨0, by omega, rfl, rfl⟩
    case round =>
      obtain ⟨j, hj, rfl, rfl⟩ := hrel
      by_cases hlt : j < 8
      · have m1 := sinP_mul su hlt
        have m2 : Sm .f64 (10 + 11 * (j : Int)) (fbin .quo .f64 (fbin .mul .f64 u (sinP u j)) (floatOfInt .f64 (2 * (8 - (j : Int)) * (2 * (8 - (j : Int)) + 1)))) := sinP_quo su hlt
        have m3 : Sm .f64 (11 * ((j + 1 : Nat) : Int)) (fbin .sub .f64 4607182418800017408 (fbin .quo .f64 (fbin .mul .f64 u (sinP u j)) (floatOfInt .f64 (2 * (8 - (j : Int)) * (2 * (8 - (j : Int)) + 1))))) := sinP_all su (j + 1) hlt
        have d1 : decide ((1 : Int) ≤ 8 - (j : Int)) = true := decide_eq_true (by omega)
        have b1 : (0 : Int) ≤ 8 - (j : Int) := by omega
        have hwr : wrap64 (2 * (8 - (j : Int)) * (2 * (8 - (j : Int)) + 1)) = 2 * (8 - (j : Int)) * (2 * (8 - (j : Int)) + 1) := sin_wrap hlt
        have b2 : 8 - (j : Int) ≤ 8 := by omega
        go_wp2_with (first | (refine wpList_fexact rfl rfl rfl rfl rfl (by assumption) ?_))
        go_round
        case rel => exact ⟨j + 1, hlt, congrArg (Value.int .i64) (by omega), rfl⟩
        case measure => simp [intOf]; omega
      · obtain rfl : j = 8 := by omega
        go_wp2_with (first | (refine wpList_fexact rfl rfl rfl rfl rfl (by assumption) ?_) | (refine wpList_narrow rfl rfl Try.underlying23 Try.underlying85 rfl (fun r n hr => ?_)))
        go_ret
        refine ⟨_, _, rfl, ?_, rfl⟩
        rw [hQ.out]
        have h6 := hr.out
        rw [hf0.out] at hs ⊢
        first
          | (rw [sinR_t q1 c2 qm] at hs ⊢; rw [cn_of_not hs.not_nan] at h6; exact h6 (narrow_ok hs (by decide)).1)
          | (rw [sinR_f q1 c2 qm] at hs ⊢; rw [cn_of_not hs.not_nan] at h6; exact h6 (narrow_ok hs (by decide)).1)

end Go.Proofs.Ytbmabpnolheghaa
