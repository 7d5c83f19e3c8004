/-
  The walks of the program's sine at every number; of what pulls and drives a pendulum.
-/
import Derived.Test.YtbmabpnolheghaaWn
set_option linter.unusedVariables false
set_option linter.unusedSimpArgs false
namespace Go.Proofs.Ytbmabpnolheghaa
open Go.RowKit

set_option maxRecDepth 100000 in
theorem SineTurns_any (x : Nat) (w : World) : Calls Try.prog 154 #[.float .f32 x] w (RF .f32 (sineQ (cn .f32 x)) w) := by
  cases hf : finB .f32 x
  · go_enter Try.func154, Try.ntmps154
    go_wp2_with (first | (refine wpList_widen rfl rfl Try.underlying85 Try.underlying23 rfl (fun r n hr => ?_)) | (go_at_call 79; refine (IsFinite_any _ _).mono ?_; rintro e w' ⟨n, rfl, rfl⟩) | (go_at_call 175; refine (mathNaN_any _).mono ?_; rintro e w' ⟨n, rfl, rfl⟩) | (refine wpList_narrow rfl rfl Try.underlying23 Try.underlying85 rfl (fun r n hr => ?_)))
    go_ret
    refine ⟨_, _, rfl, ?_, rfl⟩
    unfold sineQ
    rw [finB_cn, hf, hr.out nan561_ok, nan561_conv]
    rfl
  · cases hbig : bigB (fconv .f32 .f64 (cn .f32 x))
    · exact SineTurns_fin x w hf hbig
    · obtain ⟨Y, hY⟩ : ∃ Y, Hid (fconv .f32 .f64 (cn .f32 x) = Y) := ⟨_, rfl⟩
      have hYf : finB .f64 Y = true := by rw [← hY.out, widen_fin, finB_cn]; exact hf
      have hYw2 : Y < 18446744073709551616 := by rw [← hY.out]; exact fconv_lt ..
      have hYn : isN .f64 Y = false := isN_of_fin hYf
      obtain ⟨s, m, p, hd⟩ := fin_num hYf
      have habs : geF .f64 (Y % 9223372036854775808) 4841369599423283200 = true := by rw [abs_ge hd, ← hY.out, hbig]
      have hQ : Hid (sineQ (cn .f32 x) = 0) := by
        show sineQ (cn .f32 x) = _
        unfold sineQ
        rw [finB_cn, hf, hbig]
        rfl
      clear hd hbig
      go_enter Try.func154, Try.ntmps154
      go_wp2_with (first | ((refine wpList_widen rfl rfl Try.underlying85 Try.underlying23 rfl (fun r n hr => ?_)); obtain rfl := (exact_of (hr.out.trans hY.out) hYn).symm; clear hr) | (go_at_call 79; refine (IsFinite_any _ _).mono ?_; rintro e w' ⟨n, rfl, rfl⟩) | (go_at_call 176; refine (mathAbs_any _ _ hYw2).mono ?_; rintro e w' ⟨n, rfl, rfl⟩))
      go_ret
      exact ⟨_, _, rfl, by rw [hQ.out]; exact cn_zero, rfl⟩

def pullQ (long pull turn : Nat) : Nat := fneg .f32 (fbin .mul .f32 (fbin .quo .f32 (cn .f32 pull) (cn .f32 long)) (fbin .quo .f32 (sineQ (cn .f32 turn)) (cn .f32 1086918619)))
def driveQ (drive rate time : Nat) : Nat := fbin .mul .f32 (cn .f32 drive) (sineQ (fbin .mul .f32 (cn .f32 rate) (cn .f32 time)))
def forceQ (x0 x1 x2 x3 x4 s0 s1 s2 : Nat) : Nat := fbin .add .f32 (fbin .sub .f32 (pullQ x0 x1 s0) (mulC x2 s1)) (driveQ x3 x4 s2)
















end Go.Proofs.Ytbmabpnolheghaa
