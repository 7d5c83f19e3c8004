/-
  The walks of the functions that ask whether numbers, vectors, swings, spins and pendulums are the same.
-/
import Derived.Test.YtifdcoambehekaaWa
import Derived.Deep.RegionWith
import Derived.BigQuiet
set_option linter.unusedVariables false
set_option linter.unusedSimpArgs false
namespace Go.Proofs.Ytifdcoambehekaa
open Go.RowKit

@[go_sem] theorem f32bits_call (b : Nat) (w : World) : (callFunc 114 #[.float .f32 b]).run Try.prog w = .ok (.value (.int .u32 b)) w := by
  rw [run_callFunc_extern Try.func114 (by kernel_rfl) (by kernel_rfl) (by kernel_rfl) (e := Extern.MathFloatBits.float32bits) (by kernel_rfl)]
  rfl







def same3 (x0 x1 x2 y0 y1 y2 : Nat) : Bool := sameB x0 y0 && sameB x1 y1 && sameB x2 y2

def same4 (x0 x1 x2 x3 y0 y1 y2 y3 : Nat) : Bool := sameB x0 y0 && sameB x1 y1 && sameB x2 y2 && sameB x3 y3

def same5 (x0 x1 x2 x3 x4 y0 y1 y2 y3 y4 : Nat) : Bool := sameB x0 y0 && sameB x1 y1 && sameB x2 y2 && sameB x3 y3 && sameB x4 y4








end Go.Proofs.Ytifdcoambehekaa
