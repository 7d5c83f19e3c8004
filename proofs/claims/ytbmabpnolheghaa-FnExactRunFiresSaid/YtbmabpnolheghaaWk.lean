/-
  The walks of tops: momentum, energy, rate.
-/
import Derived.Test.YtbmabpnolheghaaWj
set_option linter.unusedVariables false
set_option linter.unusedSimpArgs false
namespace Go.Proofs.Ytbmabpnolheghaa
open Go.RowKit



theorem vb3_of_told' {r0 r1 r2 Q0 Q1 Q2 : Nat} {B : Bool} {w w' : World} (hq : cn .f32 r0 = Q0 ∧ cn .f32 r1 = Q1 ∧ cn .f32 r2 = Q2) (hB : B = fin3 Q0 Q1 Q2) (hb : Below w.heap.size w w') :
    VB3 B Q0 Q1 Q2 w (.returned (.tuple #[.agg #[.float .f32 (condF (fin3 r0 r1 r2) r0), .float .f32 (condF (fin3 r0 r1 r2) r1), .float .f32 (condF (fin3 r0 r1 r2) r2)], .bool (fin3 r0 r1 r2)])) w' := vb3_of_told hq hB hb
@[go_sem] theorem build_vec1 (a : Nat) (w : World) : (Instr.build 38 #[(0, .float .f32 a)]).run Try.prog w = .ok (.agg #[.float .f32 a, .float .f32 0, .float .f32 0]) w := run_build w 38 _ _ (by kernel_rfl)
@[go_sem] theorem build_vec2 (a b : Nat) (w : World) : (Instr.build 38 #[(0, .float .f32 a), (1, .float .f32 b)]).run Try.prog w = .ok (.agg #[.float .f32 a, .float .f32 b, .float .f32 0]) w := run_build w 38 _ _ (by kernel_rfl)
@[go_sem] theorem build_vec3 (a b c : Nat) (w : World) : (Instr.build 38 #[(0, .float .f32 a), (1, .float .f32 b), (2, .float .f32 c)]).run Try.prog w = .ok (.agg #[.float .f32 a, .float .f32 b, .float .f32 c]) w := run_build w 38 _ _ (by kernel_rfl)
@[go_sem] theorem build_vec0 (w : World) : (Instr.build 38 #[]).run Try.prog w = .ok (.agg #[.float .f32 0, .float .f32 0, .float .f32 0]) w := run_build w 38 _ _ (by kernel_rfl)






def rateQ (m1 m2 own v1 v2 t : Nat) : Nat := fbin .quo .f32 (fbin .add .f32 (fbin .mul .f32 (fbin .sub .f32 (cn .f32 m1) (cn .f32 m2)) (fbin .mul .f32 (cn .f32 v1) (cn .f32 v2))) (cn .f32 t)) (cn .f32 own)







def innerV (a0 a1 a2 b0 b1 b2 : Nat) : Nat := fbin .add .f32 (fbin .add .f32 (mulC a0 b0) (mulC a1 b1)) (mulC a2 b2)
def enQ (x0 x1 x2 x7 x8 x9 : Nat) : Nat := fbin .mul .f32 (cn .f32 1056964608) (fbin .add .f32 (fbin .add .f32 (fbin .mul .f32 (mulC x0 x7) (cn .f32 x7)) (fbin .mul .f32 (mulC x1 x8) (cn .f32 x8))) (fbin .mul .f32 (mulC x2 x9) (cn .f32 x9)))





end Go.Proofs.Ytbmabpnolheghaa
