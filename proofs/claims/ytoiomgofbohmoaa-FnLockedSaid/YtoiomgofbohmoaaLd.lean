/-
  The kernel's evaluation: links 4 to 7.
-/
import Derived.Test.YtoiomgofbohmoaaLb
set_option linter.unusedVariables false
set_option linter.unusedSimpArgs false
namespace Go.Proofs.Ytoiomgofbohmoaa
open Go.RowKit

set_option maxRecDepth 1000000 in
theorem chk1_4 : ((List.range 33).all fun b => chk1 4 b) = true := by decide +kernel
set_option maxRecDepth 1000000 in
theorem chk1_5 : ((List.range 33).all fun b => chk1 5 b) = true := by decide +kernel
set_option maxRecDepth 1000000 in
theorem chk1_6 : ((List.range 33).all fun b => chk1 6 b) = true := by decide +kernel
set_option maxRecDepth 1000000 in
theorem chk1_7 : ((List.range 33).all fun b => chk1 7 b) = true := by decide +kernel
end Go.Proofs.Ytoiomgofbohmoaa
