/-
  The walks of tops: momentum, energy, rate.
-/
import Derived.Test.YtjfmcmdhkmcpiaaWj
set_option linter.unusedVariables false
set_option linter.unusedSimpArgs false
namespace Go.Proofs.Ytjfmcmdhkmcpiaa
open Go.RowKit


set_option maxRecDepth 100000 in
set_option maxHeartbeats 4000000 in
theorem toldVector_any (x0 x1 x2 : Nat) (w : World) : Calls Try.prog 73 #[.agg #[.float .f32 x0, .float .f32 x1, .float .f32 x2]] w (BV (.tuple #[.agg #[.float .f32 (condF (fin3 x0 x1 x2) x0), .float .f32 (condF (fin3 x0 x1 x2) x1), .float .f32 (condF (fin3 x0 x1 x2) x2)], .bool (fin3 x0 x1 x2)]) w) := by
  cases h : fin3 x0 x1 x2
  all_goals
    go_enter Try.func73, Try.ntmps73
    go_wp2_with (first | (go_at_call 95; refine (finiteVector_any x0 x1 x2 _).mono ?_; rintro e w1 ⟨rfl, hb⟩; have hk := Held.below hb (l := [(⟨w.heap.size, 0, none⟩, .float .f32 x0), (⟨w.heap.size, 1, none⟩, .float .f32 x1), (⟨w.heap.size, 2, none⟩, .float .f32 x2), (⟨(w.heap.size + 1), 0, none⟩, .float .f32 0), (⟨(w.heap.size + 1), 1, none⟩, .float .f32 0), (⟨(w.heap.size + 1), 2, none⟩, .float .f32 0)]) (by simp [Held, go_sem, *]); simp only [Held, and_true] at hk))
    refine bodyPost_ret (v := ?_) (by first | (simp [results, Try.results73, go_sem, *]; rfl) | (simp [results, Try.results73, go_sem, *]; done)) rfl ⟨?_, ?_⟩
    · simp [condF, h]
    · (repeat (first | (with_reducible exact Below.refl _ _) | (with_reducible refine Below.drewN ?_ _) | (with_reducible refine Below.drew ?_) | (with_reducible refine Below.allocS ?_ _) | ((with_reducible refine Below.setCell ?_ ?_ _); rotate_left; focus (first | omega | (simp; done) | (simp; omega))) | (with_reducible refine Below.step ?_ (by assumption))))

theorem vb3_of_told' {r0 r1 r2 Q0 Q1 Q2 : Nat} {B : Bool} {w w' : World} (hq : cn .f32 r0 = Q0 ∧ cn .f32 r1 = Q1 ∧ cn .f32 r2 = Q2) (hB : B = fin3 Q0 Q1 Q2) (hb : Below w.heap.size w w') :
    VB3 B Q0 Q1 Q2 w (.returned (.tuple #[.agg #[.float .f32 (condF (fin3 r0 r1 r2) r0), .float .f32 (condF (fin3 r0 r1 r2) r1), .float .f32 (condF (fin3 r0 r1 r2) r2)], .bool (fin3 r0 r1 r2)])) w' := vb3_of_told hq hB hb
@[go_sem] theorem build_vec1 (a : Nat) (w : World) : (Instr.build 39 #[(0, .float .f32 a)]).run Try.prog w = .ok (.agg #[.float .f32 a, .float .f32 0, .float .f32 0]) w := run_build w 39 _ _ (by kernel_rfl)
@[go_sem] theorem build_vec2 (a b : Nat) (w : World) : (Instr.build 39 #[(0, .float .f32 a), (1, .float .f32 b)]).run Try.prog w = .ok (.agg #[.float .f32 a, .float .f32 b, .float .f32 0]) w := run_build w 39 _ _ (by kernel_rfl)
@[go_sem] theorem build_vec3 (a b c : Nat) (w : World) : (Instr.build 39 #[(0, .float .f32 a), (1, .float .f32 b), (2, .float .f32 c)]).run Try.prog w = .ok (.agg #[.float .f32 a, .float .f32 b, .float .f32 c]) w := run_build w 39 _ _ (by kernel_rfl)
@[go_sem] theorem build_vec0 (w : World) : (Instr.build 39 #[]).run Try.prog w = .ok (.agg #[.float .f32 0, .float .f32 0, .float .f32 0]) w := run_build w 39 _ _ (by kernel_rfl)






def rateQ (m1 m2 own v1 v2 t : Nat) : Nat := fbin .quo .f32 (fbin .add .f32 (fbin .mul .f32 (fbin .sub .f32 (cn .f32 m1) (cn .f32 m2)) (fbin .mul .f32 (cn .f32 v1) (cn .f32 v2))) (cn .f32 t)) (cn .f32 own)







def innerV (a0 a1 a2 b0 b1 b2 : Nat) : Nat := fbin .add .f32 (fbin .add .f32 (mulC a0 b0) (mulC a1 b1)) (mulC a2 b2)
def enQ (x0 x1 x2 x7 x8 x9 : Nat) : Nat := fbin .mul .f32 (cn .f32 1056964608) (fbin .add .f32 (fbin .add .f32 (fbin .mul .f32 (mulC x0 x7) (cn .f32 x7)) (fbin .mul .f32 (mulC x1 x8) (cn .f32 x8))) (fbin .mul .f32 (mulC x2 x9) (cn .f32 x9)))
set_option maxRecDepth 100000 in
set_option maxHeartbeats 4000000 in
theorem l01Inner_any (a0 a1 a2 b0 b1 b2 : Nat) (w : World) : Calls Try.prog 120 #[.agg #[.float .f32 a0, .float .f32 a1, .float .f32 a2], .agg #[.float .f32 b0, .float .f32 b1, .float .f32 b2]] w (BF .f32 (innerV a0 a1 a2 b0 b1 b2) w) := by
  go_enter Try.func120, Try.ntmps120
  go_wp2_with (first | (refine wpList_fbin rfl rfl rfl rfl rfl (fun r n hr => ?_)))
  go_ret
  refine ⟨_, rfl, ?_, ?_⟩
  · unfold innerV mulC
    simp only [Hid] at *
    simp only [*]
  · (repeat (first | (with_reducible exact Below.refl _ _) | (with_reducible refine Below.drewN ?_ _) | (with_reducible refine Below.drew ?_) | (with_reducible refine Below.allocS ?_ _) | ((with_reducible refine Below.setCell ?_ ?_ _); rotate_left; focus (first | omega | (simp; done) | (simp; omega))) | (with_reducible refine Below.step ?_ (by assumption))))

set_option maxRecDepth 100000 in
set_option maxHeartbeats 4000000 in
theorem InnerOf_any (a0 a1 a2 b0 b1 b2 : Nat) (w : World) : Calls Try.prog 121 #[.agg #[.float .f32 a0, .float .f32 a1, .float .f32 a2], .agg #[.float .f32 b0, .float .f32 b1, .float .f32 b2]] w (BF .f32 (innerV a0 a1 a2 b0 b1 b2) w) := by
  go_enter Try.func121, Try.ntmps121
  go_wp2_with (first | (refine wpList_fbin rfl rfl rfl rfl rfl (fun r n hr => ?_)))
  go_ret
  refine ⟨_, rfl, ?_, ?_⟩
  · unfold innerV mulC
    simp only [Hid] at *
    simp only [*]
  · (repeat (first | (with_reducible exact Below.refl _ _) | (with_reducible refine Below.drewN ?_ _) | (with_reducible refine Below.drew ?_) | (with_reducible refine Below.allocS ?_ _) | ((with_reducible refine Below.setCell ?_ ?_ _); rotate_left; focus (first | omega | (simp; done) | (simp; omega))) | (with_reducible refine Below.step ?_ (by assumption))))




end Go.Proofs.Ytjfmcmdhkmcpiaa
