/-
  The walks of the functions that ask whether numbers, vectors, swings, spins and pendulums are the same.
-/
import Derived.Test.YtoiomgofbohmoaaWa
import Derived.Deep.RegionWith
import Derived.BigQuiet
set_option linter.unusedVariables false
set_option linter.unusedSimpArgs false
namespace Go.Proofs.Ytoiomgofbohmoaa
open Go.RowKit

@[go_sem] theorem f32bits_call (b : Nat) (w : World) : (callFunc 25 #[.float .f32 b]).run Try.prog w = .ok (.value (.int .u32 b)) w := by
  rw [run_callFunc_extern Try.func25 (by kernel_rfl) (by kernel_rfl) (by kernel_rfl) (e := Extern.MathFloatBits.float32bits) (by kernel_rfl)]
  rfl



theorem l01Bits_any (x : Nat) (w : World) (hx : x < 4294967296) : Calls Try.prog 33 #[.float .f32 x] w fun e w' => e = .returned (.int .i64 (cn .f32 x)) ∧ w' = w := by
  have e0 := eqF_self .f32 x
  have E1 : Hid (isN .f32 x = false → cn .f32 x = x) := cn_of_not
  have E2 : Hid (isN .f32 x = true → cn .f32 x = nanOf .f32) := cn_of_nan
  cases h : isN .f32 x
  all_goals
    rw [h] at e0
    go_enter Try.func33, Try.ntmps33
    go_wp2
    go_ret
    refine ⟨ret_int ?_, rfl⟩
  · rw [E1.out h]
  · rw [E2.out h]; rfl

theorem l01Same_any (x y : Nat) (w : World) (hx : x < 4294967296) (hy : y < 4294967296) : Calls Try.prog 22 #[.float .f32 x, .float .f32 y] w (RB (sameB x y) w) := by
  go_enter Try.func22, Try.ntmps22
  go_wp2_with (first | (go_at_call 33; refine (l01Bits_any _ _ (by assumption)).mono ?_; rintro e w' ⟨rfl, rfl⟩))
  go_ret
  exact ⟨0, ret_bool (sameB_int x y), rfl⟩

theorem l01Same_lit {x y : Nat} {w : World} {v : Bool} (h : sameB x y = v) (hx : x < 4294967296) (hy : y < 4294967296) : Calls Try.prog 22 #[.float .f32 x, .float .f32 y] w (RB v w) := h ▸ l01Same_any x y w hx hy


def same3 (x0 x1 x2 y0 y1 y2 : Nat) : Bool := sameB x0 y0 && sameB x1 y1 && sameB x2 y2

def same4 (x0 x1 x2 x3 y0 y1 y2 y3 : Nat) : Bool := sameB x0 y0 && sameB x1 y1 && sameB x2 y2 && sameB x3 y3

def same5 (x0 x1 x2 x3 x4 y0 y1 y2 y3 y4 : Nat) : Bool := sameB x0 y0 && sameB x1 y1 && sameB x2 y2 && sameB x3 y3 && sameB x4 y4








end Go.Proofs.Ytoiomgofbohmoaa
