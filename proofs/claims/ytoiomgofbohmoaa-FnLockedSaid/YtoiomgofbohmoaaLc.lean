/-
  The kernel's evaluation: links 0 to 3.
-/
import Derived.Test.YtoiomgofbohmoaaLb
set_option linter.unusedVariables false
set_option linter.unusedSimpArgs false
namespace Go.Proofs.Ytoiomgofbohmoaa
open Go.RowKit

set_option maxRecDepth 1000000 in
theorem chk1_0 : ((List.range 33).all fun b => chk1 0 b) = true := by decide +kernel
set_option maxRecDepth 1000000 in
theorem chk1_1 : ((List.range 33).all fun b => chk1 1 b) = true := by decide +kernel
set_option maxRecDepth 1000000 in
theorem chk1_2 : ((List.range 33).all fun b => chk1 2 b) = true := by decide +kernel
set_option maxRecDepth 1000000 in
theorem chk1_3 : ((List.range 33).all fun b => chk1 3 b) = true := by decide +kernel
end Go.Proofs.Ytoiomgofbohmoaa
