/-
  The walks of clocks whose turns are laid: TurnAll, KickClocks.
-/
import Derived.Test.YtbmabpnolheghaaTf
set_option linter.unusedVariables false
set_option linter.unusedSimpArgs false
namespace Go.Proofs.Ytbmabpnolheghaa
open Go.RowKit

theorem Kept.trans1 {a b c : World} {x : Option Nat} (h : Kept a b [x]) (k : Kept b c [x]) : Kept a c [x] :=
  ⟨k.os.trans h.os, k.tape.trans h.tape, k.output.trans h.output, Nat.le_trans h.size k.size, fun i hi hne => (k.block i (Nat.lt_of_lt_of_le hi h.size) hne).trans (h.block i hi hne)⟩
theorem Kept.below1 {a b c : World} {x : Option Nat} (h : Kept a b [x]) (k : Below b.heap.size b c) : Kept a c [x] :=
  ⟨k.os.trans h.os, k.tape.trans h.tape, k.output.trans h.output, Nat.le_trans h.size k.size, fun i hi hne => (k.block i (Nat.lt_of_lt_of_le hi h.size)).trans (h.block i hi hne)⟩
theorem Kept.refl1 (a : World) (x : Option Nat) : Kept a a [x] := ⟨rfl, rfl, rfl, Nat.le_refl _, fun _ _ _ => rfl⟩
/-- The turn of clock 'i' and a number. -/
def turnAllQ (l : List Nat) (y i : Nat) : Nat := fbin .add .f32 (cn .f32 (l.getD (i * 2) 0)) (cn .f32 y)
/-- The turn of clock 'i', kicked. -/
def kickQ (l : List Nat) (y i : Nat) : Nat := fbin .add .f32 (cn .f32 (l.getD (i * 2) 0)) (fbin .mul .f32 (cn .f32 y) (sineQ (cn .f32 (l.getD (i * 2) 0))))







end Go.Proofs.Ytbmabpnolheghaa
