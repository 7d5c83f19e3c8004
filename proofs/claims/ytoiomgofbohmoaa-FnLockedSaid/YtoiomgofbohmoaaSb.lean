/-
  The walks of slices of a law's arguments: their sizes, copies, comparisons, marks.
-/
import Derived.Test.YtoiomgofbohmoaaSa
import Derived.Test.YtoiomgofbohmoaaCy
import Derived.Test.YtoiomgofbohmoaaWe
set_option linter.unusedVariables false
set_option linter.unusedSimpArgs false
namespace Go.Proofs.Ytoiomgofbohmoaa
open Go.RowKit

def NewRow (E : TypeId) (c n : Nat) (xs : List Value) (w : World) (e : Ending) (w' : World) : Prop :=
  ∃ g, e = .returned (.slice (some ⟨g, 0, none⟩) n n) ∧ w'.ownsRow w.heap.size E c (.slice (some ⟨g, 0, none⟩) n n) n xs ∧ Below w.heap.size w w'






theorem info_Float32 : (Try.prog.info? 24).map (fun i => (i.zero, i.size, i.bytes)) = some (some (.float .f32 0), 1, 4) := by kernel_rfl
















theorem info_Int64 : (Try.prog.info? 2).map (fun i => (i.zero, i.size, i.bytes)) = some (some (.int .i64 0), 1, 8) := by kernel_rfl









end Go.Proofs.Ytoiomgofbohmoaa
