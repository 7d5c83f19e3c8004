/-
  What the law Locked asks, as plain functions of the numbers that the bytes pick.
-/
import Derived.Test.YtoiomgofbohmoaaLa
set_option linter.unusedVariables false
set_option linter.unusedSimpArgs false
namespace Go.Proofs.Ytoiomgofbohmoaa
open Go.RowKit

def linkQ (a : Nat) : Nat := fbin .quo .f32 (floatOfInt .f32 (1 + (a : Int))) 1082130432
def shareQ (a b : Nat) : Nat := fbin .mul .f32 (linkQ a) (floatOfInt .f32 ((b : Int) - 16))
def lessQ (a b : Nat) : Nat := fbin .quo .f32 (shareQ a b) 1098907648
def twoQ (a : Nat) : Nat := fbin .mul .f32 1073741824 (linkQ a)
def wideQ (x : Nat) : Nat := fconv .f32 .f64 x
def pullG (link ap : Nat) : Nat := fbin .mul .f64 (wideQ link) (wideQ (sineQ ap))
def gapG (link less ap : Nat) : Nat := gapF (pullG link ap) (wideQ less)
def chkA (link prod less two ap : Nat) : Bool :=
  finB .f32 link && (finB .f32 prod && (finB .f32 less && (finB .f32 two && (finB .f32 ap && (decide (less < 4294967296) && (decide (two < 4294967296) && (lockB less link && (!lockB two link && (!ltF .f32 ap 3196059648 && (!gtF .f32 ap 1048576000
  && (finB .f32 (sineQ ap) && (finB .f64 (pullG link ap) && (finB .f64 (gapG link less ap) && !gtF .f64 (gapG link less ap) 4562254508917369340)))))))))))))
def chk1 (a b : Nat) : Bool := chkA (linkQ a) (shareQ a b) (lessQ a b) (twoQ a) (lockQ (lessQ a b) (linkQ a))
def keepQ (c : Nat) : Nat := fbin .quo .f32 (floatOfInt .f32 (c : Int)) 1090519040
def kickQ (d : Nat) : Nat := fbin .quo .f32 (floatOfInt .f32 (1 + (d : Int))) 1082130432
def gapR (x r : Nat) : Nat := gapF (wideQ x) (wideQ r)
def moreR (x r : Nat) : Nat := fbin .add .f64 (gapR x r) 4562254508917369340
def stepOk (keep kick rest x y : Nat) : Bool := escR x keep kick 0 && (finB .f32 y && (decide (y < 4294967296) && (finB .f64 (gapR x rest) && (finB .f64 (gapR y rest) && (finB .f64 (moreR x rest) && !gtF .f64 (gapR y rest) (moreR x rest))))))
def chkB (keep kick rest : Nat) : Bool :=
  finB .f32 keep && (finB .f32 kick && (finB .f32 rest && (restB keep kick && (escR rest keep kick 0 && (finB .f64 (gapR (escQ rest keep kick 0) rest) && (!gtF .f64 (gapR (escQ rest keep kick 0) rest) 4562254508917369340
  && (runEB 1065353216 keep kick 0 40 && (escR 1065353216 keep kick 1073741824 && (eqF .f32 (escQ 1065353216 keep kick 1073741824) keep
  && (List.range 40).all fun k => stepOk keep kick rest (escS 1065353216 keep kick 0 k) (escS 1065353216 keep kick 0 (k + 1)))))))))))
def chk2 (c d : Nat) : Bool := chkB (keepQ c) (kickQ d) (restQ (keepQ c) (kickQ d))
end Go.Proofs.Ytoiomgofbohmoaa
