/-
  The walks of angles of points.
-/
import Derived.Test.YtoiomgofbohmoaaWn
import Derived.Test.YtoiomgofbohmoaaNy
set_option linter.unusedVariables false
set_option linter.unusedSimpArgs false
namespace Go.Proofs.Ytoiomgofbohmoaa
open Go.RowKit



theorem wide_fin {r y : Nat} (h : cn .f64 r = fconv .f32 .f64 (cn .f32 y)) : finB .f64 r = finB .f32 y := by rw [← finB_cn, h, widen_fin, finB_cn]
theorem angle_bad {y x : Nat} (h : (finB .f32 y && finB .f32 x) = false) : angleQ (cn .f32 y) (cn .f32 x) = nanOf .f32 := by
  unfold angleQ
  rw [finB_cn, finB_cn, h]
  rfl
theorem angle_null {y x : Nat} (h1 : finB .f32 y = true) (h2 : finB .f32 x = true) (h : (eqF .f32 x 0 && eqF .f32 y 0) = true) : angleQ (cn .f32 y) (cn .f32 x) = 0 := by
  unfold angleQ
  rw [finB_cn, finB_cn, h1, h2, cn_of_not (isN_of_fin h1), cn_of_not (isN_of_fin h2), h]
  rfl
theorem angle_fin {y x : Nat} (h1 : finB .f32 y = true) (h2 : finB .f32 x = true) (h : (eqF .f32 x 0 && eqF .f32 y 0) = false) : angleQ (cn .f32 y) (cn .f32 x) =
    fconv .f64 .f32 (angR (gtF .f64 (fconv .f32 .f64 y % 9223372036854775808) (fconv .f32 .f64 x % 9223372036854775808)) (ltF .f32 x 0) (ltF .f32 y 0) (ang0 (fconv .f32 .f64 y % 9223372036854775808) (fconv .f32 .f64 x % 9223372036854775808))) := by
  unfold angleQ
  rw [finB_cn, finB_cn, h1, h2, cn_of_not (isN_of_fin h1), cn_of_not (isN_of_fin h2), h]
  rfl
theorem nan_conv : fconv .f64 .f32 (cn .f64 9221120237041090561) = nanOf .f32 := by rw [fconv_cn]; unfold fconv; rw [if_pos (by decide +kernel)]
theorem nan_convOk : convOk .f64 .f32 (cn .f64 9221120237041090561) = true := by rw [convOk_cn]; unfold convOk; rw [show isN .f64 9221120237041090561 = true by decide +kernel]; rfl
theorem zero_conv : fconv .f64 .f32 (cn .f64 0) = 0 := by decide +kernel
theorem zero_convOk : convOk .f64 .f32 (cn .f64 0) = true := by decide +kernel


set_option maxRecDepth 100000 in
set_option maxHeartbeats 8000000 in
theorem AngleTurns_any (y x : Nat) (w : World) : Calls Try.prog 16 #[.float .f32 y, .float .f32 x] w (BF .f32 (angleQ (cn .f32 y) (cn .f32 x)) w) := by
  have hcv3 : ∀ (n : Int) (w : World), (convert 3 28 (.int .i64 n)).run Try.prog w = .ok (.float .f64 (floatOfInt .f64 n)) w := fun n w => run_convert_int_float w 3 28 .i64 .f64 n (by kernel_rfl) Try.underlying28
  cases hf : fin2 y x
  · have hf' : (finB .f32 y && finB .f32 x) = false := hf
    go_enter Try.func16, Try.ntmps16
    go_wp2_with (first | (go_at_call 19; refine (finite2_any y x _ _ ?_ ?_).mono ?_; (focus (simp [go_sem]; done)); (focus (simp [go_sem]; done)); rintro e w' ⟨n, rfl, rfl⟩) | (go_at_call 26; refine (mathNaN_any _).mono ?_; rintro e w' ⟨n, rfl, rfl⟩) | (refine wpList_narrow rfl rfl Try.underlying24 Try.underlying28 rfl (fun r n hr => ?_)))
    go_ret
    refine ⟨_, rfl, (hr.out nan_convOk).trans (nan_conv.trans (angle_bad hf').symm), ?_⟩
    (repeat (first | assumption | (with_reducible exact Below.refl _ _) | (with_reducible refine Below.drewN ?_ _) | (with_reducible refine Below.drew ?_) | (with_reducible refine Below.allocS ?_ _) | ((with_reducible refine Below.setCell ?_ ?_ _); rotate_left; focus (first | omega | (simp; done) | (simp; omega))) | (with_reducible refine Below.step ?_ (by assumption))))
  have hyx : finB .f32 y = true ∧ finB .f32 x = true := by unfold fin2 at hf; simpa using hf
  obtain ⟨hy, hx⟩ := hyx
  cases h0 : (eqF .f32 x 0 && eqF .f32 y 0)
  case true =>
    have HA := Lib.hid (angle_null hy hx h0)
    simp only [Bool.and_eq_true] at h0
    obtain ⟨h1, h2⟩ := h0
    go_enter Try.func16, Try.ntmps16
    go_wp2_with (first | (go_at_call 19; refine (finite2_any y x _ _ ?_ ?_).mono ?_; (focus (simp [go_sem]; done)); (focus (simp [go_sem]; done)); rintro e w' ⟨n, rfl, rfl⟩))
    go_ret
    refine ⟨_, rfl, (by decide +kernel : cn .f32 0 = 0).trans HA.out.symm, ?_⟩
    (repeat (first | assumption | (with_reducible exact Below.refl _ _) | (with_reducible refine Below.drewN ?_ _) | (with_reducible refine Below.drew ?_) | (with_reducible refine Below.allocS ?_ _) | ((with_reducible refine Below.setCell ?_ ?_ _); rotate_left; focus (first | omega | (simp; done) | (simp; omega))) | (with_reducible refine Below.step ?_ (by assumption))))
  obtain ⟨Y, hY⟩ : ∃ Y, Hid (fconv .f32 .f64 (cn .f32 y) = Y) := ⟨_, rfl⟩
  obtain ⟨X, hX⟩ : ∃ X, Hid (fconv .f32 .f64 (cn .f32 x) = X) := ⟨_, rfl⟩
  have eY : fconv .f32 .f64 y = Y := by rw [← hY.out, fconv_cn]
  have eX : fconv .f32 .f64 x = X := by rw [← hX.out, fconv_cn]
  have hYn : isN .f64 Y = false := isN_of_fin (by rw [← eY, widen_fin]; exact hy)
  have hXn : isN .f64 X = false := isN_of_fin (by rw [← eX, widen_fin]; exact hx)
  have hYw : Y < 18446744073709551616 := by rw [← eY]; exact fconv_lt ..
  have hXw : X < 18446744073709551616 := by rw [← eX]; exact fconv_lt ..
  have hA := angle_fin hy hx h0
  have hp := ang0_parts hy hx h0
  rw [eY, eX] at hA hp
  have HA := Lib.hid hA
  have HQ := Lib.hid hp
  have H0 := Lib.hid h0
  clear hA hp h0 eY eX hy hx
  cases c0 : gtF .f64 (Y % 9223372036854775808) (X % 9223372036854775808)
  all_goals
    obtain ⟨t, ht⟩ : ∃ t, Hid (ang0 (Y % 9223372036854775808) (X % 9223372036854775808) = t) := ⟨_, rfl⟩
    have st : Sm .f64 0 t := by
      rw [← ht.out]
      unfold ang0
      rw [c0]
      first | exact HQ.out.1 c0 | exact HQ.out.2 c0
    have e0 : ang0 (Y % 9223372036854775808) (X % 9223372036854775808) = t := ht.out
    unfold ang0 at e0
    rw [c0] at e0
    first | simp only [if_true] at e0 | simp only [Bool.false_eq_true, if_false] at e0
    have sq := st
    rw [← e0] at sq
    cases hx0 : eqF .f32 x 0
    all_goals
      first
        | (have hy0 : eqF .f32 y 0 = false := (by have := H0.out; rw [hx0] at this; simpa using this))
        | skip
      go_enter Try.func16, Try.ntmps16
      go_wp2_with (first | (refine wpList_fexact rfl rfl rfl rfl rfl (by assumption) ?_) | (refine wpList_fbin rfl rfl rfl rfl rfl (fun r n hr => ?_)) | (go_at_call 19; refine (finite2_any y x _ _ ?_ ?_).mono ?_; (focus (simp [go_sem]; done)); (focus (simp [go_sem]; done)); rintro e w' ⟨n, rfl, rfl⟩) | ((refine wpList_widen rfl rfl Try.underlying28 Try.underlying24 rfl (fun r n hr => ?_)); have hz := hr.out; rw [hY.out] at hz; obtain rfl := (exact_of hz hYn).symm; clear hr hz) | ((refine wpList_widen rfl rfl Try.underlying28 Try.underlying24 rfl (fun r n hr => ?_)); have hz := hr.out; rw [hX.out] at hz; obtain rfl := (exact_of hz hXn).symm; clear hr hz) | (go_at_call 27; refine (mathAbs_any _ _ (by first | assumption | exact hYw | exact hXw)).mono ?_; rintro e w' ⟨n, rfl, rfl⟩))
      go_loopw [7, 42] (fun v i wr => ∃ j : Nat, j ≤ 3 ∧ i = .int .i64 (j : Int) ∧ v = .float .f64 (angT t j) ∧ Below w.heap.size w wr) (fun _ i _ => 3 - (intOf i).toNat)
      case atStart => exact ⟨0, by omega, rfl, rfl, by (repeat (first | assumption | (with_reducible exact Below.refl _ _) | (with_reducible refine Below.drewN ?_ _) | (with_reducible refine Below.drew ?_) | (with_reducible refine Below.allocS ?_ _) | ((with_reducible refine Below.setCell ?_ ?_ _); rotate_left; focus (first | omega | (simp; done) | (simp; omega))) | (with_reducible refine Below.step ?_ (by assumption))))⟩
      case round =>
        obtain ⟨j, hj, rfl, rfl, hBel⟩ := hrel
        by_cases hlt : j < 3
        · obtain ⟨T, hT⟩ : ∃ T, Hid (angT t j = T) := ⟨_, rfl⟩
          have sT : Sm .f64 0 T := by rw [← hT.out]; exact angT_sm st j
          obtain ⟨d1, d2, d3, d4, d5⟩ := angD_parts sT
          have d4' : Sm .f64 2 (fbin .add .f64 4607182418800017408 (fsqrt (fbin .add .f64 4607182418800017408 (fbin .mul .f64 T T)))) := d4
          have d6 : Sm .f64 0 (fbin .quo .f64 T (fbin .add .f64 4607182418800017408 (fsqrt (fbin .add .f64 4607182418800017408 (fbin .mul .f64 T T))))) := sm_quo sT d5 (by decide) (by decide) (by decide)
          have hT2 := hT.out
          clear d4 d5
          rw [hT2]
          have g1 : decide ((j : Int) < 3) = true := decide_eq_true (by omega)
          go_wp2_with (first | (refine wpList_fexact rfl rfl rfl rfl rfl (by assumption) ?_) | (go_at_call 28; refine (mathSqrt_any _ _).mono ?_; rintro e w' ⟨r, n, rfl, hq, rfl⟩; rw [cn_of_not d2.not_nan] at hq; obtain rfl := (exact_of hq d3.not_nan).symm; clear hq))
          go_roundw
          case rel => exact ⟨j + 1, hlt, by go_num, by unfold angT angD; rw [hT.out], by (repeat (first | assumption | (with_reducible exact Below.refl _ _) | (with_reducible refine Below.drewN ?_ _) | (with_reducible refine Below.drew ?_) | (with_reducible refine Below.allocS ?_ _) | ((with_reducible refine Below.setCell ?_ ?_ _); rotate_left; focus (first | omega | (simp; done) | (simp; omega))) | (with_reducible refine Below.step ?_ (by assumption))))⟩
          case measure => simp [intOf]; omega
        · obtain rfl : j = 3 := by omega
          obtain ⟨T, hT⟩ : ∃ T, Hid (angT t 3 = T) := ⟨_, rfl⟩
          have sT : Sm .f64 0 T := by rw [← hT.out]; exact angT_sm st 3
          have s1 : Sm .f64 0 (fbin .mul .f64 T T) := sm_mul sT sT (by decide) (by decide) (by decide)
          obtain ⟨u, hu⟩ : ∃ u, fbin .mul .f64 T T = u := ⟨_, rfl⟩
          have su : Sm .f64 0 u := by rw [← hu]; exact s1
          have hT2 := hT.out
          rw [hT2]
          clear hT2
          go_wp2_with (first | (refine wpList_fexact rfl rfl rfl rfl rfl (by assumption) ?_))
          go_loopw [9, 10] (fun p k wr => ∃ j : Nat, j ≤ 8 ∧ k = .int .i64 (15 - 2 * (j : Int)) ∧ p = .float .f64 (angP u j) ∧ Below w.heap.size w wr) (fun _ k _ => (intOf k + 1).toNat)
          case atStart => exact ⟨0, by omega, rfl, rfl, by (repeat (first | assumption | (with_reducible exact Below.refl _ _) | (with_reducible refine Below.drewN ?_ _) | (with_reducible refine Below.drew ?_) | (with_reducible refine Below.allocS ?_ _) | ((with_reducible refine Below.setCell ?_ ?_ _); rotate_left; focus (first | omega | (simp; done) | (simp; omega))) | (with_reducible refine Below.step ?_ (by assumption))))⟩
          case round =>
            obtain ⟨j, hj, rfl, rfl, hBel2⟩ := hrel
            by_cases hlt2 : j < 8
            · have m0 : Sm .f64 0 (fbin .quo .f64 4607182418800017408 (floatOfInt .f64 (15 - 2 * (j : Int)))) := angI_sm hlt2
              have m1 := angP_mul su hlt2
              have m2 : Sm .f64 ((j + 1 : Nat) : Int) (fbin .sub .f64 (fbin .quo .f64 4607182418800017408 (floatOfInt .f64 (15 - 2 * (j : Int)))) (fbin .mul .f64 u (angP u j))) := angP_sm su (j + 1) hlt2
              have g2 : decide ((1 : Int) ≤ 15 - 2 * (j : Int)) = true := decide_eq_true (by omega)
              have b1 : (0 : Int) ≤ 15 - 2 * (j : Int) := by omega
              have b2 : 15 - 2 * (j : Int) ≤ 15 := by omega
              go_wp2_with (first | (refine wpList_fexact rfl rfl rfl rfl rfl (by assumption) ?_))
              go_roundw
              case rel => exact ⟨j + 1, hlt2, congrArg (Value.int .i64) (by omega), rfl, by (repeat (first | assumption | (with_reducible exact Below.refl _ _) | (with_reducible refine Below.drewN ?_ _) | (with_reducible refine Below.drew ?_) | (with_reducible refine Below.allocS ?_ _) | ((with_reducible refine Below.setCell ?_ ?_ _); rotate_left; focus (first | omega | (simp; done) | (simp; omega))) | (with_reducible refine Below.step ?_ (by assumption))))⟩
              case measure => simp [intOf]; omega
            · obtain rfl : j = 8 := by omega
              obtain ⟨p1, p2, p3, p4⟩ := angG_parts sT
              rw [hu] at p2 p3
              have hG : angG T = fbin .quo .f64 (fbin .mul .f64 4620693217682128896 (fbin .mul .f64 T (angP u 8))) 4618760256179416344 := by unfold angG; rw [hu]
              rw [hG] at p4
              obtain ⟨g, hg⟩ : ∃ g, fbin .quo .f64 (fbin .mul .f64 4620693217682128896 (fbin .mul .f64 T (angP u 8))) 4618760256179416344 = g := ⟨_, rfl⟩
              have HG := Lib.hid (hG.trans hg)
              have sg : Sm .f64 9 g := by rw [← hg]; exact p4
              clear hG p1
              have q2 := ang2_sub sg
              obtain ⟨g2, hg2⟩ : ∃ g2, Hid (ang2 (gtF .f64 (Y % 9223372036854775808) (X % 9223372036854775808)) g = g2) := ⟨_, rfl⟩
              have sg2 : Sm .f64 10 g2 := by rw [← hg2.out]; exact ang2_sm sg _
              have q3 := ang3_sub sg2
              obtain ⟨g3, hg3⟩ : ∃ g3, Hid (ang3 (ltF .f32 x 0) g2 = g3) := ⟨_, rfl⟩
              have sg3 : Sm .f64 11 g3 := by rw [← hg3.out]; exact ang3_sm sg2 _
              have wg3 : g3 < width2 .f64 := by rw [← hg3.out, ← hg2.out]; exact ang3_lt (ang2_lt (by rw [← hg]; exact fbin_lt ..) _) _
              have e2 : (gtF .f64 (Y % 9223372036854775808) (X % 9223372036854775808) = true → fbin .sub .f64 4598175219545276416 g = g2) ∧ (gtF .f64 (Y % 9223372036854775808) (X % 9223372036854775808) = false → g = g2) := by
                have := hg2.out; unfold ang2 at this
                constructor
                · intro h; rw [h, if_pos rfl] at this; exact this
                · intro h; rw [h] at this; exact this
              have e3 : (ltF .f32 x 0 = true → fbin .sub .f64 4602678819172646912 g2 = g3) ∧ (ltF .f32 x 0 = false → g2 = g3) := by
                have := hg3.out; unfold ang3 at this
                constructor
                · intro h; rw [h, if_pos rfl] at this; exact this
                · intro h; rw [h] at this; exact this
              have HR : Hid (angR (gtF .f64 (Y % 9223372036854775808) (X % 9223372036854775808)) (ltF .f32 x 0) (ltF .f32 y 0) t = ang4 (ltF .f32 y 0) g3) := by
                show _ = _
                unfold angR
                rw [hT.out, HG.out, hg2.out, hg3.out]
              rw [c0] at e2
              have E3 := Lib.hid e3
              clear e3
              first
                | (have e2' := e2.1 rfl; clear e2)
                | (obtain rfl := e2.2 rfl; clear e2)
              cases cx : ltF .f32 x 0
              all_goals
                have e3 := E3.out
                rw [cx] at e3
                first
                  | (have e3' := e3.1 rfl; clear e3)
                  | (obtain rfl := e3.2 rfl; clear e3)
                cases cy : ltF .f32 y 0
                all_goals
                  go_wp2_with (first | (refine wpList_fexact rfl rfl rfl rfl rfl (by assumption) ?_) | (refine wpList_narrow rfl rfl Try.underlying24 Try.underlying28 rfl (fun r n hr => ?_)))
                  go_ret
                  refine ⟨_, rfl, ?_, ?_⟩
                  · have h6 := hr.out
                    have s4 := ang4_sm wg3 sg3 (ltF .f32 y 0)
                    rw [HA.out, ht.out, HR.out]
                    rw [cy] at s4 ⊢
                    unfold ang4 at s4 ⊢
                    first | simp only [if_true] at s4 ⊢ | simp only [Bool.false_eq_true, if_false] at s4 ⊢
                    rw [cn_of_not s4.not_nan] at h6
                    exact h6 (narrow_ok s4 (by decide)).1
                  · (repeat (first | assumption | (with_reducible exact Below.refl _ _) | (with_reducible refine Below.drewN ?_ _) | (with_reducible refine Below.drew ?_) | (with_reducible refine Below.allocS ?_ _) | ((with_reducible refine Below.setCell ?_ ?_ _); rotate_left; focus (first | omega | (simp; done) | (simp; omega))) | (with_reducible refine Below.step ?_ (by assumption))))

end Go.Proofs.Ytoiomgofbohmoaa
