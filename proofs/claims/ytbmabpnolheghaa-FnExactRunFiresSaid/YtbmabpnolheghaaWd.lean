/-
  The walks of what compares two answers; of the spins' product and opposite; of numbers that are told if they are finite.
-/
import Derived.Test.YtbmabpnolheghaaWc
import Derived.Test.YtbmabpnolheghaaFx
set_option linter.unusedVariables false
set_option linter.unusedSimpArgs false
namespace Go.Proofs.Ytbmabpnolheghaa
open Go.RowKit

set_option maxRecDepth 100000 in
theorem sameFloat_any (a b : Nat) (w : World) (h : cn .f64 a = cn .f64 b) : Calls Try.prog 52 #[.float .f64 a, .float .f64 b] w (RB true w) := by
  have ea := eqF_self .f64 a
  have eb := eqF_self .f64 b
  cases hn : isN .f64 a
  · have hb : isN .f64 b = false := by rw [← isN_cn, ← h, isN_cn, hn]
    have hab : a = b := by rw [cn_of_not hn, cn_of_not hb] at h; exact h
    subst hab
    clear h eb hb
    rw [hn] at ea
    clear hn
    cases hz : eqF .f64 a 0
    all_goals
      go_enter Try.func52, Try.ntmps52
      go_wp2_with (first | (refine wpList_fbin rfl rfl rfl rfl rfl (fun r n hr => ?_)))
      go_ret
      first | exact ⟨0, ret_bool (by simp [ea]), rfl⟩ | exact ⟨_, ret_bool (gt_same (Hid.out (by assumption)) (Hid.out (by assumption))), rfl⟩
  · have hb : isN .f64 b = true := by rw [← isN_cn, ← h, isN_cn, hn]
    clear h
    rw [hn] at ea
    rw [hb] at eb
    clear hn hb
    go_enter Try.func52, Try.ntmps52
    go_wp2_with (first | (refine wpList_fbin rfl rfl rfl rfl rfl (fun r n hr => ?_)))
    go_ret
    exact ⟨0, ret_bool (by simp [ea, eb]), rfl⟩

set_option maxRecDepth 100000 in
theorem eqSpin_any (x0 x1 x2 x3 y0 y1 y2 y3 : Nat) (w : World) (e0 : cn .f32 x0 = cn .f32 y0) (e1 : cn .f32 x1 = cn .f32 y1) (e2 : cn .f32 x2 = cn .f32 y2) (e3 : cn .f32 x3 = cn .f32 y3) : Calls Try.prog 41 #[.agg #[.float .f32 x0, .float .f32 x1, .float .f32 x2, .float .f32 x3], .agg #[.float .f32 y0, .float .f32 y1, .float .f32 y2, .float .f32 y3]] w (BB true w) := by
  have E0 := Lib.hid e0
  have E1 := Lib.hid e1
  have E2 := Lib.hid e2
  have E3 := Lib.hid e3
  clear e0 e1 e2 e3
  go_enter Try.func41, Try.ntmps41
  go_wp2_with (first | (refine wpList_widen rfl rfl Try.underlying85 Try.underlying23 rfl (fun r n hr => ?_)) | (go_at_call 52; refine (sameFloat_any _ _ _ (widen_same (Hid.out (by assumption)) (Hid.out (by assumption)) (Hid.out (by assumption)))).mono ?_; rintro e w' ⟨n, rfl, rfl⟩))
  go_ret
  refine ⟨rfl, ?_⟩
  (repeat (first | (with_reducible exact Below.refl _ _) | (with_reducible refine Below.drewN ?_ _) | (with_reducible refine Below.drew ?_) | (with_reducible refine Below.allocS ?_ _) | ((with_reducible refine Below.setCell ?_ ?_ _); rotate_left; focus (first | omega | (simp; done) | (simp; omega))) | (with_reducible refine Below.step ?_ (by assumption))))

set_option maxRecDepth 100000 in
theorem eqVector_any (x0 x1 x2 y0 y1 y2 : Nat) (w : World) (e0 : cn .f32 x0 = cn .f32 y0) (e1 : cn .f32 x1 = cn .f32 y1) (e2 : cn .f32 x2 = cn .f32 y2) : Calls Try.prog 137 #[.agg #[.float .f32 x0, .float .f32 x1, .float .f32 x2], .agg #[.float .f32 y0, .float .f32 y1, .float .f32 y2]] w (BB true w) := by
  have E0 := Lib.hid e0
  have E1 := Lib.hid e1
  have E2 := Lib.hid e2
  clear e0 e1 e2
  go_enter Try.func137, Try.ntmps137
  go_wp2_with (first | (refine wpList_widen rfl rfl Try.underlying85 Try.underlying23 rfl (fun r n hr => ?_)) | (go_at_call 52; refine (sameFloat_any _ _ _ (widen_same (Hid.out (by assumption)) (Hid.out (by assumption)) (Hid.out (by assumption)))).mono ?_; rintro e w' ⟨n, rfl, rfl⟩))
  go_ret
  refine ⟨rfl, ?_⟩
  (repeat (first | (with_reducible exact Below.refl _ _) | (with_reducible refine Below.drewN ?_ _) | (with_reducible refine Below.drew ?_) | (with_reducible refine Below.allocS ?_ _) | ((with_reducible refine Below.setCell ?_ ?_ _); rotate_left; focus (first | omega | (simp; done) | (simp; omega))) | (with_reducible refine Below.step ?_ (by assumption))))










end Go.Proofs.Ytbmabpnolheghaa
