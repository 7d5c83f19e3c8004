/-
  The walks of the program's sine of turns.
-/
import Derived.Test.YtoiomgofbohmoaaWm
import Derived.Deep.DeepCutAuto
import Derived.Deep.CutBlock
set_option linter.unusedVariables false
set_option linter.unusedSimpArgs false
namespace Go.Proofs.Ytoiomgofbohmoaa
open Go.RowKit

theorem sinR_t {f f1 M : Nat} (q : Hid (sin1 f = f1)) (c : geF .f64 f1 4602678819172646912 = true) (qm : Hid (sinM f = M)) : sinR f = Op.negFloat .f64 M := by unfold sinR; rw [q.out, c, qm.out]; rfl
theorem sinR_f {f f1 M : Nat} (q : Hid (sin1 f = f1)) (c : geF .f64 f1 4602678819172646912 = false) (qm : Hid (sinM f = M)) : sinR f = M := by unfold sinR; rw [q.out, c, qm.out]; rfl


end Go.Proofs.Ytoiomgofbohmoaa
