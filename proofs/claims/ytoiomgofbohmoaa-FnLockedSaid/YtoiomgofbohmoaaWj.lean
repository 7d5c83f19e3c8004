/-
  The walks of falls, second part.
-/
import Derived.Test.YtoiomgofbohmoaaWi
set_option linter.unusedVariables false
set_option linter.unusedSimpArgs false
namespace Go.Proofs.Ytoiomgofbohmoaa
open Go.RowKit

theorem half_cn (x : Nat) : fbin .quo .f32 x (cn .f32 1073741824) = fbin .mul .f32 (cn .f32 1056964608) x := by
  rw [show cn .f32 1073741824 = 1073741824 by decide +kernel, show cn .f32 1056964608 = 1056964608 by decide +kernel, half_law]





end Go.Proofs.Ytoiomgofbohmoaa
