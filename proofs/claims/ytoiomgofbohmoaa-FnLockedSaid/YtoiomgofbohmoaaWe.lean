/-
  The walks of the tests of tops, and of the product of two spins.
-/
import Derived.Test.YtoiomgofbohmoaaWd
set_option linter.unusedVariables false
set_option linter.unusedSimpArgs false
namespace Go.Proofs.Ytoiomgofbohmoaa
open Go.RowKit

def topB (x0 x1 x2 x3 x4 x5 x6 x7 x8 x9 : Nat) : Bool := aboveB x0 && aboveB x1 && aboveB x2 && spinB x3 x4 x5 x6 && fin3 x7 x8 x9







def BF4 (X0 X1 X2 X3 : Nat) (w : World) (e : Ending) (w' : World) : Prop := ∃ r0 r1 r2 r3, e = .returned (.agg #[.float .f32 r0, .float .f32 r1, .float .f32 r2, .float .f32 r3]) ∧ (cn .f32 r0 = X0 ∧ cn .f32 r1 = X1 ∧ cn .f32 r2 = X2 ∧ cn .f32 r3 = X3) ∧ Below w.heap.size w w'
def BF3 (X0 X1 X2 : Nat) (w : World) (e : Ending) (w' : World) : Prop := ∃ r0 r1 r2, e = .returned (.agg #[.float .f32 r0, .float .f32 r1, .float .f32 r2]) ∧ (cn .f32 r0 = X0 ∧ cn .f32 r1 = X1 ∧ cn .f32 r2 = X2) ∧ Below w.heap.size w w'
def mulC (x y : Nat) : Nat := fbin .mul .f32 (cn .f32 x) (cn .f32 y)


end Go.Proofs.Ytoiomgofbohmoaa
