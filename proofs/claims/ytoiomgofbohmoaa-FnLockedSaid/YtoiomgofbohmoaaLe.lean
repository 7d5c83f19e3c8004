/-
  The kernel's evaluation: links 8 to 11.
-/
import Derived.Test.YtoiomgofbohmoaaLb
set_option linter.unusedVariables false
set_option linter.unusedSimpArgs false
namespace Go.Proofs.Ytoiomgofbohmoaa
open Go.RowKit

set_option maxRecDepth 1000000 in
theorem chk1_8 : ((List.range 33).all fun b => chk1 8 b) = true := by decide +kernel
set_option maxRecDepth 1000000 in
theorem chk1_9 : ((List.range 33).all fun b => chk1 9 b) = true := by decide +kernel
set_option maxRecDepth 1000000 in
theorem chk1_10 : ((List.range 33).all fun b => chk1 10 b) = true := by decide +kernel
set_option maxRecDepth 1000000 in
theorem chk1_11 : ((List.range 33).all fun b => chk1 11 b) = true := by decide +kernel
end Go.Proofs.Ytoiomgofbohmoaa
