/-
  The kernel's evaluation: links 12 to 15.
-/
import Derived.Test.YtoiomgofbohmoaaLb
set_option linter.unusedVariables false
set_option linter.unusedSimpArgs false
namespace Go.Proofs.Ytoiomgofbohmoaa
open Go.RowKit

set_option maxRecDepth 1000000 in
theorem chk1_12 : ((List.range 33).all fun b => chk1 12 b) = true := by decide +kernel
set_option maxRecDepth 1000000 in
theorem chk1_13 : ((List.range 33).all fun b => chk1 13 b) = true := by decide +kernel
set_option maxRecDepth 1000000 in
theorem chk1_14 : ((List.range 33).all fun b => chk1 14 b) = true := by decide +kernel
set_option maxRecDepth 1000000 in
theorem chk1_15 : ((List.range 33).all fun b => chk1 15 b) = true := by decide +kernel
end Go.Proofs.Ytoiomgofbohmoaa
