/-
  The kernel's evaluation: what is kept, 4 to 6 eighths.
-/
import Derived.Test.YtoiomgofbohmoaaLb
set_option linter.unusedVariables false
set_option linter.unusedSimpArgs false
namespace Go.Proofs.Ytoiomgofbohmoaa
open Go.RowKit

set_option maxRecDepth 1000000 in
theorem chk2_4 : ((List.range 8).all fun d => chk2 4 d) = true := by decide +kernel
set_option maxRecDepth 1000000 in
theorem chk2_5 : ((List.range 8).all fun d => chk2 5 d) = true := by decide +kernel
set_option maxRecDepth 1000000 in
theorem chk2_6 : ((List.range 8).all fun d => chk2 6 d) = true := by decide +kernel
end Go.Proofs.Ytoiomgofbohmoaa
