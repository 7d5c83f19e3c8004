/-
  The kernel's evaluation: what is kept, 0 to 3 eighths.
-/
import Derived.Test.YtoiomgofbohmoaaLb
set_option linter.unusedVariables false
set_option linter.unusedSimpArgs false
namespace Go.Proofs.Ytoiomgofbohmoaa
open Go.RowKit

set_option maxRecDepth 1000000 in
theorem chk2_0 : ((List.range 8).all fun d => chk2 0 d) = true := by decide +kernel
set_option maxRecDepth 1000000 in
theorem chk2_1 : ((List.range 8).all fun d => chk2 1 d) = true := by decide +kernel
set_option maxRecDepth 1000000 in
theorem chk2_2 : ((List.range 8).all fun d => chk2 2 d) = true := by decide +kernel
set_option maxRecDepth 1000000 in
theorem chk2_3 : ((List.range 8).all fun d => chk2 3 d) = true := by decide +kernel
end Go.Proofs.Ytoiomgofbohmoaa
