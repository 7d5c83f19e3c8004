/-
  The walks of falls.
-/
import Derived.Test.YtoiomgofbohmoaaWe
import Derived.Test.YtoiomgofbohmoaaFy
import Derived.Test.YtoiomgofbohmoaaCy
set_option linter.unusedVariables false
set_option linter.unusedSimpArgs false
namespace Go.Proofs.Ytoiomgofbohmoaa
open Go.RowKit

def VB3 (B : Bool) (Q0 Q1 Q2 : Nat) (w : World) (e : Ending) (w' : World) : Prop := ∃ r0 r1 r2, e = .returned (.tuple #[.agg #[.float .f32 r0, .float .f32 r1, .float .f32 r2], .bool B]) ∧ (cn .f32 r0 = condF B Q0 ∧ cn .f32 r1 = condF B Q1 ∧ cn .f32 r2 = condF B Q2) ∧ Below w.heap.size w w'
theorem fin3_cn (x y z : Nat) : fin3 (cn .f32 x) (cn .f32 y) (cn .f32 z) = fin3 x y z := by simp only [fin3, finB_cn]
theorem fin3_of {r0 r1 r2 Q0 Q1 Q2 : Nat} (h : cn .f32 r0 = Q0 ∧ cn .f32 r1 = Q1 ∧ cn .f32 r2 = Q2) : fin3 r0 r1 r2 = fin3 Q0 Q1 Q2 := by rw [← h.1, ← h.2.1, ← h.2.2, fin3_cn]
theorem condF_of {b : Bool} {r Q : Nat} (h : cn .f32 r = Q) : cn .f32 (condF b r) = condF b Q := by
  cases b
  · exact cn_zero
  · exact h
theorem condF_true {b : Bool} {r Q : Nat} (hb : b = true) (h : cn .f32 r = Q) : cn .f32 r = condF b Q := by rw [hb]; exact h
theorem condF_false {b : Bool} {Q : Nat} (hb : b = false) : cn .f32 0 = condF b Q := by rw [hb]; exact cn_zero



theorem finite3_new (x0 x1 x2 b : Nat) (w : World) (t : TypeId) (n : Nat) (hb : w.heap.size = b) : Calls Try.prog 19 #[.slice (some ⟨b, 0, none⟩) 3 3] ((w.alloc (.cells #[.float .f32 x0, .float .f32 x1, .float .f32 x2] t)).drewN n) (RB (fin3 x0 x1 x2) ((w.alloc (.cells #[.float .f32 x0, .float .f32 x1, .float .f32 x2] t)).drewN n)) := by
  subst hb
  exact finite3_any x0 x1 x2 _ _ (by simp [go_sem]) (by simp [go_sem]) (by simp [go_sem])

theorem vb3_told {r0 r1 r2 Q0 Q1 Q2 : Nat} {B : Bool} {w w' : World} (hq : cn .f32 r0 = Q0 ∧ cn .f32 r1 = Q1 ∧ cn .f32 r2 = Q2) (hB : B = fin3 Q0 Q1 Q2) (hf : (!fin3 r0 r1 r2) = false) (hb : Below w.heap.size w w') :
    VB3 B Q0 Q1 Q2 w (.returned (.tuple #[.agg #[.float .f32 r0, .float .f32 r1, .float .f32 r2], .bool true])) w' := by
  have hB' : B = true := by rw [hB, ← fin3_of hq]; simpa using hf
  subst hB'
  exact ⟨_, _, _, rfl, hq, hb⟩
theorem vb3_none {Q0 Q1 Q2 : Nat} {B : Bool} {w w' : World} (hB : B = false) (hb : Below w.heap.size w w') :
    VB3 B Q0 Q1 Q2 w (.returned (.tuple #[.agg #[.float .f32 0, .float .f32 0, .float .f32 0], .bool false])) w' := by
  subst hB
  exact ⟨_, _, _, rfl, ⟨cn_zero, cn_zero, cn_zero⟩, hb⟩
theorem vb3_bad {r0 r1 r2 Q0 Q1 Q2 : Nat} {B : Bool} {w w' : World} (hq : cn .f32 r0 = Q0 ∧ cn .f32 r1 = Q1 ∧ cn .f32 r2 = Q2) (hB : B = fin3 Q0 Q1 Q2) (hf : (!fin3 r0 r1 r2) = true) (hb : Below w.heap.size w w') :
    VB3 B Q0 Q1 Q2 w (.returned (.tuple #[.agg #[.float .f32 0, .float .f32 0, .float .f32 0], .bool false])) w' :=
  vb3_none (by rw [hB, ← fin3_of hq]; simpa using hf) hb
/-- A vector and whether it is finite. -/
def VT3 (B : Bool) (x0 x1 x2 : Nat) : Value := .tuple #[.agg #[.float .f32 (condF B x0), .float .f32 (condF B x1), .float .f32 (condF B x2)], .bool B]
theorem vb3_of_told {r0 r1 r2 Q0 Q1 Q2 : Nat} {B : Bool} {w w' : World} (hq : cn .f32 r0 = Q0 ∧ cn .f32 r1 = Q1 ∧ cn .f32 r2 = Q2) (hB : B = fin3 Q0 Q1 Q2) (hb : Below w.heap.size w w') :
    VB3 B Q0 Q1 Q2 w (.returned (VT3 (fin3 r0 r1 r2) r0 r1 r2)) w' := by
  rw [fin3_of hq, ← hB]
  exact ⟨_, _, _, rfl, ⟨condF_of hq.1, condF_of hq.2.1, condF_of hq.2.2⟩, hb⟩


end Go.Proofs.Ytoiomgofbohmoaa
