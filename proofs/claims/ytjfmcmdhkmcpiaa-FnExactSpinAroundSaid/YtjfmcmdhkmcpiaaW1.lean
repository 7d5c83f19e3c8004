/-
  The walks of spins that are told, and of spins of the size 1.
-/
import Derived.Test.YtjfmcmdhkmcpiaaWl
set_option linter.unusedVariables false
set_option linter.unusedSimpArgs false
namespace Go.Proofs.Ytjfmcmdhkmcpiaa
open Go.RowKit

/-- A spin and whether it is one. -/
def VB4 (B : Bool) (Q0 Q1 Q2 Q3 : Nat) (w : World) (e : Ending) (w' : World) : Prop := ∃ r0 r1 r2 r3, e = .returned (.tuple #[.agg #[.float .f32 r0, .float .f32 r1, .float .f32 r2, .float .f32 r3], .bool B]) ∧ (cn .f32 r0 = condF B Q0 ∧ cn .f32 r1 = condF B Q1 ∧ cn .f32 r2 = condF B Q2 ∧ cn .f32 r3 = condF B Q3) ∧ Below w.heap.size w w'
theorem eqF_zero_cn (x : Nat) : eqF .f32 (cn .f32 x) 0 = eqF .f32 x 0 := by
  have := eqF_cn .f32 x 0
  rwa [cn_zero] at this
theorem spin_of {r0 r1 r2 r3 Q0 Q1 Q2 Q3 : Nat} (hq : cn .f32 r0 = Q0 ∧ cn .f32 r1 = Q1 ∧ cn .f32 r2 = Q2 ∧ cn .f32 r3 = Q3) : spinB r0 r1 r2 r3 = spinB Q0 Q1 Q2 Q3 := by
  obtain ⟨h0, h1, h2, h3⟩ := hq
  unfold spinB fin4
  rw [← h0, ← h1, ← h2, ← h3]
  simp only [finB_cn, eqF_zero_cn]
theorem vb4_none {Q0 Q1 Q2 Q3 : Nat} {B : Bool} {w w' : World} (hB : B = false) (hb : Below w.heap.size w w') :
    VB4 B Q0 Q1 Q2 Q3 w (.returned (.tuple #[.agg #[.float .f32 0, .float .f32 0, .float .f32 0, .float .f32 0], .bool false])) w' := by
  subst hB
  exact ⟨_, _, _, _, rfl, ⟨cn_zero, cn_zero, cn_zero, cn_zero⟩, hb⟩
theorem vb4_told {r0 r1 r2 r3 Q0 Q1 Q2 Q3 : Nat} {B : Bool} {w w' : World} (hq : cn .f32 r0 = Q0 ∧ cn .f32 r1 = Q1 ∧ cn .f32 r2 = Q2 ∧ cn .f32 r3 = Q3) (hB : B = true) (hb : Below w.heap.size w w') :
    VB4 B Q0 Q1 Q2 Q3 w (.returned (.tuple #[.agg #[.float .f32 r0, .float .f32 r1, .float .f32 r2, .float .f32 r3], .bool true])) w' := by
  subst hB
  exact ⟨_, _, _, _, rfl, hq, hb⟩
theorem vb4_toldT {r0 r1 r2 r3 Q0 Q1 Q2 Q3 : Nat} {B : Bool} {w w' : World} (hq : cn .f32 r0 = Q0 ∧ cn .f32 r1 = Q1 ∧ cn .f32 r2 = Q2 ∧ cn .f32 r3 = Q3) (hB : B = spinB Q0 Q1 Q2 Q3) (hf : (!spinB r0 r1 r2 r3) = false) (hb : Below w.heap.size w w') :
    VB4 B Q0 Q1 Q2 Q3 w (.returned (.tuple #[.agg #[.float .f32 r0, .float .f32 r1, .float .f32 r2, .float .f32 r3], .bool true])) w' :=
  vb4_told hq (by rw [hB, ← spin_of hq]; simpa using hf) hb
theorem vb4_badT {r0 r1 r2 r3 Q0 Q1 Q2 Q3 : Nat} {B : Bool} {w w' : World} (hq : cn .f32 r0 = Q0 ∧ cn .f32 r1 = Q1 ∧ cn .f32 r2 = Q2 ∧ cn .f32 r3 = Q3) (hB : B = spinB Q0 Q1 Q2 Q3) (hf : (!spinB r0 r1 r2 r3) = true) (hb : Below w.heap.size w w') :
    VB4 B Q0 Q1 Q2 Q3 w (.returned (.tuple #[.agg #[.float .f32 0, .float .f32 0, .float .f32 0, .float .f32 0], .bool false])) w' :=
  vb4_none (by rw [hB, ← spin_of hq]; simpa using hf) hb
theorem cond_of {x Q : Nat} {B : Bool} (h : cn .f32 x = Q) : cn .f32 (condF B x) = condF B Q := by
  unfold condF
  cases B
  · exact cn_zero
  · exact h
theorem vb4_of_told {r0 r1 r2 r3 Q0 Q1 Q2 Q3 : Nat} {B : Bool} {w w' : World} (hq : cn .f32 r0 = Q0 ∧ cn .f32 r1 = Q1 ∧ cn .f32 r2 = Q2 ∧ cn .f32 r3 = Q3) (hB : B = spinB Q0 Q1 Q2 Q3) (hb : Below w.heap.size w w') :
    VB4 B Q0 Q1 Q2 Q3 w (.returned (.tuple #[.agg #[.float .f32 (condF (spinB r0 r1 r2 r3) r0), .float .f32 (condF (spinB r0 r1 r2 r3) r1), .float .f32 (condF (spinB r0 r1 r2 r3) r2), .float .f32 (condF (spinB r0 r1 r2 r3) r3)], .bool (spinB r0 r1 r2 r3)])) w' := by
  rw [spin_of hq, ← hB]
  exact ⟨_, _, _, _, rfl, ⟨cond_of hq.1, cond_of hq.2.1, cond_of hq.2.2.1, cond_of hq.2.2.2⟩, hb⟩
theorem build_spin4 (a b c d : Nat) (w : World) : (Instr.build 60 #[(0, .float .f32 a), (1, .float .f32 b), (2, .float .f32 c), (3, .float .f32 d)]).run Try.prog w = .ok (.agg #[.float .f32 a, .float .f32 b, .float .f32 c, .float .f32 d]) w := run_build w 60 _ _ (by kernel_rfl)
theorem build_spin0 (w : World) : (Instr.build 60 #[]).run Try.prog w = .ok (.agg #[.float .f32 0, .float .f32 0, .float .f32 0, .float .f32 0]) w := run_build w 60 _ _ (by kernel_rfl)

set_option maxRecDepth 100000 in
set_option maxHeartbeats 4000000 in
theorem toldSpin_any (x0 x1 x2 x3 : Nat) (w : World) : Calls Try.prog 99 #[.agg #[.float .f32 x0, .float .f32 x1, .float .f32 x2, .float .f32 x3]] w (BV (.tuple #[.agg #[.float .f32 (condF (spinB x0 x1 x2 x3) x0), .float .f32 (condF (spinB x0 x1 x2 x3) x1), .float .f32 (condF (spinB x0 x1 x2 x3) x2), .float .f32 (condF (spinB x0 x1 x2 x3) x3)], .bool (spinB x0 x1 x2 x3)]) w) := by
  cases h : spinB x0 x1 x2 x3
  all_goals
    go_enter Try.func99, Try.ntmps99
    go_wp2_with (first | (go_at_call 122; refine (implIsSpin_any x0 x1 x2 x3 _).mono ?_; rintro e w1 ⟨rfl, hb⟩; have hk := Held.below hb (l := [(⟨w.heap.size, 0, none⟩, .float .f32 x0), (⟨w.heap.size, 1, none⟩, .float .f32 x1), (⟨w.heap.size, 2, none⟩, .float .f32 x2), (⟨w.heap.size, 3, none⟩, .float .f32 x3), (⟨(w.heap.size + 1), 0, none⟩, .float .f32 0), (⟨(w.heap.size + 1), 1, none⟩, .float .f32 0), (⟨(w.heap.size + 1), 2, none⟩, .float .f32 0), (⟨(w.heap.size + 1), 3, none⟩, .float .f32 0)]) (by simp [Held, go_sem, *]); simp only [Held, and_true] at hk))
    refine bodyPost_ret (v := ?_) (by first | (simp [results, Try.results99, go_sem, *]; rfl) | (simp [results, Try.results99, go_sem, *]; done)) rfl ?_
    refine ⟨?_, ?_⟩
    · simp [condF, h]
    · (repeat (first | (with_reducible exact Below.refl _ _) | (with_reducible refine Below.drewN ?_ _) | (with_reducible refine Below.drew ?_) | (with_reducible refine Below.allocS ?_ _) | ((with_reducible refine Below.setCell ?_ ?_ _); rotate_left; focus (first | omega | (simp; done) | (simp; omega))) | (with_reducible refine Below.step ?_ (by assumption))))

def normQ (x s : Nat) : Nat := fbin .quo .f32 (cn .f32 x) s
theorem l04Spin_new (x0 x1 x2 x3 b : Nat) (w : World) (t : TypeId) (n : Nat) (hb : w.heap.size = b) : Calls Try.prog 94 #[.pointer (some ⟨b, 0, none⟩)] ((w.alloc (.cells #[.float .f32 x0, .float .f32 x1, .float .f32 x2, .float .f32 x3] t)).drewN n) (RB (spinB x0 x1 x2 x3) ((w.alloc (.cells #[.float .f32 x0, .float .f32 x1, .float .f32 x2, .float .f32 x3] t)).drewN n)) := by
  subst hb
  exact l04Spin_any x0 x1 x2 x3 _ _ (by simp [go_sem]) (by simp [go_sem]) (by simp [go_sem]) (by simp [go_sem])





end Go.Proofs.Ytjfmcmdhkmcpiaa
