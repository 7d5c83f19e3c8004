/-
  The walks of tops: momentum, energy, rate.
-/
import Derived.Test.YtoiomgofbohmoaaWj
set_option linter.unusedVariables false
set_option linter.unusedSimpArgs false
namespace Go.Proofs.Ytoiomgofbohmoaa
open Go.RowKit








def rateQ (m1 m2 own v1 v2 t : Nat) : Nat := fbin .quo .f32 (fbin .add .f32 (fbin .mul .f32 (fbin .sub .f32 (cn .f32 m1) (cn .f32 m2)) (fbin .mul .f32 (cn .f32 v1) (cn .f32 v2))) (cn .f32 t)) (cn .f32 own)







def innerV (a0 a1 a2 b0 b1 b2 : Nat) : Nat := fbin .add .f32 (fbin .add .f32 (mulC a0 b0) (mulC a1 b1)) (mulC a2 b2)
def enQ (x0 x1 x2 x7 x8 x9 : Nat) : Nat := fbin .mul .f32 (cn .f32 1056964608) (fbin .add .f32 (fbin .add .f32 (fbin .mul .f32 (mulC x0 x7) (cn .f32 x7)) (fbin .mul .f32 (mulC x1 x8) (cn .f32 x8))) (fbin .mul .f32 (mulC x2 x9) (cn .f32 x9)))





end Go.Proofs.Ytoiomgofbohmoaa
