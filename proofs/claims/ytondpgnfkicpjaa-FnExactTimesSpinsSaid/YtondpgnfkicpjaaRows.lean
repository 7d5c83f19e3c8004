/-
  No cell of these rows narrows 'for every input' (looked for: loops, veiled, ifaces, maps, wideKeys, modest, calm, conditions, laid).
  DERIVED. THE GIVEN ROWS OF THIS SEAT. 12 by the template 'for every input the law returns true; each argument reads behind the call as it read before'; 0 by the template 'total and deterministic' (their statements: YtondpgnfkicpjaaTotals.lean).
  GIVEN WITH THE SEED: the statements are not yours to turn. If you find one false, say at which input.
  Laid BY PROGRAM, IN A SANDBOX (cutbox-rows.mjs): the forced cells as the released guide's own fill.sh prints them over the translation b095743bee07d02f… (all of the seat's roots in one cut). By AI agents, Wed Nov 11 2026. No macro, syntax, notation, axiom, sorry.
-/
import Derived.Test.YtondpgnfkicpjaaChecked
import GoSem.Claim
import GoSem.ClaimJoined
import GoSem.ClaimMapViews
import Derived.JoinedTies
import Derived.KernelRfl
namespace Go.Proofs.Ytondpgnfkicpjaa
/- THE CELL 'sum', in the pinned program and in every row, IS THE sha256 OF THE DUMP (.gsa) THAT YtondpgnfkicpjaaProg.lean LOADS. Nothing in Lean hashes anything: it is a label: what it is worth is what the hold of that sum in a sandbox is worth. -/
noncomputable def Try.pinned : Pinned := { name := "ytondpgnfkicpjaa", sum := "b095743bee07d02f01eb35b98ac24ec0190ebc1bf1ca587e51544de7719ae251", checked := Try.checked }
namespace Rows
def none {H : Type} : Left H := { results := [], args := [] }

/-- 'laws.FnExactValidSwing': WHATEVER THE INPUT: true; the input reads as it did. -/
def fnExactValidSwingSpec : ChangeSpec := { name := "fnExactValidSwing", fn := fun _ => fun
  | [d] => { results := [.lit (.bool true)], args := [d] }
  | _ => none }
def fnExactValidSwingRow : OpenClaim := { program := "ytondpgnfkicpjaa", sum := "b095743bee07d02f01eb35b98ac24ec0190ebc1bf1ca587e51544de7719ae251", func := "loop.example/g01253/laws.FnExactValidSwing", spec := "fnExactValidSwing", unfollowed := true, recurses := true, apart := false }
def FnExactValidSwingSaid : Prop := fnExactValidSwingRow.holds Try.pinned (OpenSpec.ofChange fnExactValidSwingSpec)

/-- ITS FALSE NEIGHBOUR: 'it returns false'. Refute it at one input. -/
def fnExactValidSwingWrong : ChangeSpec := { name := "fnExactValidSwing", fn := fun _ => fun
  | [d] => { results := [.lit (.bool false)], args := [d] }
  | _ => none }
def FnExactValidSwingWrongFalsely : Prop := fnExactValidSwingRow.holds Try.pinned (OpenSpec.ofChange fnExactValidSwingWrong)

/-- 'laws.FnExactValidTable': WHATEVER THE INPUT: true; the input reads as it did. -/
def fnExactValidTableSpec : ChangeSpec := { name := "fnExactValidTable", fn := fun _ => fun
  | [d] => { results := [.lit (.bool true)], args := [d] }
  | _ => none }
def fnExactValidTableRow : OpenClaim := { program := "ytondpgnfkicpjaa", sum := "b095743bee07d02f01eb35b98ac24ec0190ebc1bf1ca587e51544de7719ae251", func := "loop.example/g01253/laws.FnExactValidTable", spec := "fnExactValidTable", unfollowed := true, recurses := true, apart := false }
def FnExactValidTableSaid : Prop := fnExactValidTableRow.holds Try.pinned (OpenSpec.ofChange fnExactValidTableSpec)

/-- ITS FALSE NEIGHBOUR: 'it returns false'. Refute it at one input. -/
def fnExactValidTableWrong : ChangeSpec := { name := "fnExactValidTable", fn := fun _ => fun
  | [d] => { results := [.lit (.bool false)], args := [d] }
  | _ => none }
def FnExactValidTableWrongFalsely : Prop := fnExactValidTableRow.holds Try.pinned (OpenSpec.ofChange fnExactValidTableWrong)

/-- 'laws.FnExactBackSpin': WHATEVER THE INPUT: true; the input reads as it did. -/
def fnExactBackSpinSpec : ChangeSpec := { name := "fnExactBackSpin", fn := fun _ => fun
  | [d] => { results := [.lit (.bool true)], args := [d] }
  | _ => none }
def fnExactBackSpinRow : OpenClaim := { program := "ytondpgnfkicpjaa", sum := "b095743bee07d02f01eb35b98ac24ec0190ebc1bf1ca587e51544de7719ae251", func := "loop.example/g01253/laws.FnExactBackSpin", spec := "fnExactBackSpin", apart := false }
def FnExactBackSpinSaid : Prop := fnExactBackSpinRow.holds Try.pinned (OpenSpec.ofChange fnExactBackSpinSpec)

/-- ITS FALSE NEIGHBOUR: 'it returns false'. Refute it at one input. -/
def fnExactBackSpinWrong : ChangeSpec := { name := "fnExactBackSpin", fn := fun _ => fun
  | [d] => { results := [.lit (.bool false)], args := [d] }
  | _ => none }
def FnExactBackSpinWrongFalsely : Prop := fnExactBackSpinRow.holds Try.pinned (OpenSpec.ofChange fnExactBackSpinWrong)

/-- 'laws.FnExactIsSpin': WHATEVER THE INPUT: true; the input reads as it did. -/
def fnExactIsSpinSpec : ChangeSpec := { name := "fnExactIsSpin", fn := fun _ => fun
  | [d] => { results := [.lit (.bool true)], args := [d] }
  | _ => none }
def fnExactIsSpinRow : OpenClaim := { program := "ytondpgnfkicpjaa", sum := "b095743bee07d02f01eb35b98ac24ec0190ebc1bf1ca587e51544de7719ae251", func := "loop.example/g01253/laws.FnExactIsSpin", spec := "fnExactIsSpin", unfollowed := true, recurses := true, apart := false }
def FnExactIsSpinSaid : Prop := fnExactIsSpinRow.holds Try.pinned (OpenSpec.ofChange fnExactIsSpinSpec)

/-- ITS FALSE NEIGHBOUR: 'it returns false'. Refute it at one input. -/
def fnExactIsSpinWrong : ChangeSpec := { name := "fnExactIsSpin", fn := fun _ => fun
  | [d] => { results := [.lit (.bool false)], args := [d] }
  | _ => none }
def FnExactIsSpinWrongFalsely : Prop := fnExactIsSpinRow.holds Try.pinned (OpenSpec.ofChange fnExactIsSpinWrong)

/-- 'laws.FnExactValidPendulum': WHATEVER THE INPUT: true; the input reads as it did. -/
def fnExactValidPendulumSpec : ChangeSpec := { name := "fnExactValidPendulum", fn := fun _ => fun
  | [d] => { results := [.lit (.bool true)], args := [d] }
  | _ => none }
def fnExactValidPendulumRow : OpenClaim := { program := "ytondpgnfkicpjaa", sum := "b095743bee07d02f01eb35b98ac24ec0190ebc1bf1ca587e51544de7719ae251", func := "loop.example/g01253/laws.FnExactValidPendulum", spec := "fnExactValidPendulum", unfollowed := true, recurses := true, apart := false }
def FnExactValidPendulumSaid : Prop := fnExactValidPendulumRow.holds Try.pinned (OpenSpec.ofChange fnExactValidPendulumSpec)

/-- ITS FALSE NEIGHBOUR: 'it returns false'. Refute it at one input. -/
def fnExactValidPendulumWrong : ChangeSpec := { name := "fnExactValidPendulum", fn := fun _ => fun
  | [d] => { results := [.lit (.bool false)], args := [d] }
  | _ => none }
def FnExactValidPendulumWrongFalsely : Prop := fnExactValidPendulumRow.holds Try.pinned (OpenSpec.ofChange fnExactValidPendulumWrong)

/-- 'laws.FnExactSameSpin': WHATEVER THE INPUT: true; the input reads as it did. -/
def fnExactSameSpinSpec : ChangeSpec := { name := "fnExactSameSpin", fn := fun _ => fun
  | [d1, d2] => { results := [.lit (.bool true)], args := [d1, d2] }
  | _ => none }
def fnExactSameSpinRow : OpenClaim := { program := "ytondpgnfkicpjaa", sum := "b095743bee07d02f01eb35b98ac24ec0190ebc1bf1ca587e51544de7719ae251", func := "loop.example/g01253/laws.FnExactSameSpin", spec := "fnExactSameSpin", inPlace := ["math.Float32bits"], unfollowed := true, recurses := true, apart := false }
def FnExactSameSpinSaid : Prop := fnExactSameSpinRow.holds Try.pinned (OpenSpec.ofChange fnExactSameSpinSpec)

/-- ITS FALSE NEIGHBOUR: 'it returns false'. Refute it at one input. -/
def fnExactSameSpinWrong : ChangeSpec := { name := "fnExactSameSpin", fn := fun _ => fun
  | [d1, d2] => { results := [.lit (.bool false)], args := [d1, d2] }
  | _ => none }
def FnExactSameSpinWrongFalsely : Prop := fnExactSameSpinRow.holds Try.pinned (OpenSpec.ofChange fnExactSameSpinWrong)

/-- 'laws.FnExactSameSwing': WHATEVER THE INPUT: true; the input reads as it did. -/
def fnExactSameSwingSpec : ChangeSpec := { name := "fnExactSameSwing", fn := fun _ => fun
  | [d1, d2] => { results := [.lit (.bool true)], args := [d1, d2] }
  | _ => none }
def fnExactSameSwingRow : OpenClaim := { program := "ytondpgnfkicpjaa", sum := "b095743bee07d02f01eb35b98ac24ec0190ebc1bf1ca587e51544de7719ae251", func := "loop.example/g01253/laws.FnExactSameSwing", spec := "fnExactSameSwing", inPlace := ["math.Float32bits"], unfollowed := true, recurses := true, apart := false }
def FnExactSameSwingSaid : Prop := fnExactSameSwingRow.holds Try.pinned (OpenSpec.ofChange fnExactSameSwingSpec)

/-- ITS FALSE NEIGHBOUR: 'it returns false'. Refute it at one input. -/
def fnExactSameSwingWrong : ChangeSpec := { name := "fnExactSameSwing", fn := fun _ => fun
  | [d1, d2] => { results := [.lit (.bool false)], args := [d1, d2] }
  | _ => none }
def FnExactSameSwingWrongFalsely : Prop := fnExactSameSwingRow.holds Try.pinned (OpenSpec.ofChange fnExactSameSwingWrong)

/-- 'laws.FnExactSameVector': WHATEVER THE INPUT: true; the input reads as it did. -/
def fnExactSameVectorSpec : ChangeSpec := { name := "fnExactSameVector", fn := fun _ => fun
  | [d1, d2] => { results := [.lit (.bool true)], args := [d1, d2] }
  | _ => none }
def fnExactSameVectorRow : OpenClaim := { program := "ytondpgnfkicpjaa", sum := "b095743bee07d02f01eb35b98ac24ec0190ebc1bf1ca587e51544de7719ae251", func := "loop.example/g01253/laws.FnExactSameVector", spec := "fnExactSameVector", inPlace := ["math.Float32bits"], unfollowed := true, recurses := true, apart := false }
def FnExactSameVectorSaid : Prop := fnExactSameVectorRow.holds Try.pinned (OpenSpec.ofChange fnExactSameVectorSpec)

/-- ITS FALSE NEIGHBOUR: 'it returns false'. Refute it at one input. -/
def fnExactSameVectorWrong : ChangeSpec := { name := "fnExactSameVector", fn := fun _ => fun
  | [d1, d2] => { results := [.lit (.bool false)], args := [d1, d2] }
  | _ => none }
def FnExactSameVectorWrongFalsely : Prop := fnExactSameVectorRow.holds Try.pinned (OpenSpec.ofChange fnExactSameVectorWrong)

/-- 'laws.FnExactSamePendulum': WHATEVER THE INPUT: true; the input reads as it did. -/
def fnExactSamePendulumSpec : ChangeSpec := { name := "fnExactSamePendulum", fn := fun _ => fun
  | [d1, d2] => { results := [.lit (.bool true)], args := [d1, d2] }
  | _ => none }
def fnExactSamePendulumRow : OpenClaim := { program := "ytondpgnfkicpjaa", sum := "b095743bee07d02f01eb35b98ac24ec0190ebc1bf1ca587e51544de7719ae251", func := "loop.example/g01253/laws.FnExactSamePendulum", spec := "fnExactSamePendulum", inPlace := ["math.Float32bits"], unfollowed := true, recurses := true, apart := false }
def FnExactSamePendulumSaid : Prop := fnExactSamePendulumRow.holds Try.pinned (OpenSpec.ofChange fnExactSamePendulumSpec)

/-- ITS FALSE NEIGHBOUR: 'it returns false'. Refute it at one input. -/
def fnExactSamePendulumWrong : ChangeSpec := { name := "fnExactSamePendulum", fn := fun _ => fun
  | [d1, d2] => { results := [.lit (.bool false)], args := [d1, d2] }
  | _ => none }
def FnExactSamePendulumWrongFalsely : Prop := fnExactSamePendulumRow.holds Try.pinned (OpenSpec.ofChange fnExactSamePendulumWrong)

/-- 'laws.FnExactRestSwing': WHATEVER THE INPUT: true; the input reads as it did. -/
def fnExactRestSwingSpec : ChangeSpec := { name := "fnExactRestSwing", fn := fun _ => fun
  | [d1, d2] => { results := [.lit (.bool true)], args := [d1, d2] }
  | _ => none }
def fnExactRestSwingRow : OpenClaim := { program := "ytondpgnfkicpjaa", sum := "b095743bee07d02f01eb35b98ac24ec0190ebc1bf1ca587e51544de7719ae251", func := "loop.example/g01253/laws.FnExactRestSwing", spec := "fnExactRestSwing", unfollowed := true, recurses := true, apart := false }
def FnExactRestSwingSaid : Prop := fnExactRestSwingRow.holds Try.pinned (OpenSpec.ofChange fnExactRestSwingSpec)

/-- ITS FALSE NEIGHBOUR: 'it returns false'. Refute it at one input. -/
def fnExactRestSwingWrong : ChangeSpec := { name := "fnExactRestSwing", fn := fun _ => fun
  | [d1, d2] => { results := [.lit (.bool false)], args := [d1, d2] }
  | _ => none }
def FnExactRestSwingWrongFalsely : Prop := fnExactRestSwingRow.holds Try.pinned (OpenSpec.ofChange fnExactRestSwingWrong)

/-- 'laws.FnExactTimesSpins': WHATEVER THE INPUT: true; the input reads as it did. -/
def fnExactTimesSpinsSpec : ChangeSpec := { name := "fnExactTimesSpins", fn := fun _ => fun
  | [d1, d2] => { results := [.lit (.bool true)], args := [d1, d2] }
  | _ => none }
def fnExactTimesSpinsRow : OpenClaim := { program := "ytondpgnfkicpjaa", sum := "b095743bee07d02f01eb35b98ac24ec0190ebc1bf1ca587e51544de7719ae251", func := "loop.example/g01253/laws.FnExactTimesSpins", spec := "fnExactTimesSpins", apart := false }
def FnExactTimesSpinsSaid : Prop := fnExactTimesSpinsRow.holds Try.pinned (OpenSpec.ofChange fnExactTimesSpinsSpec)

/-- ITS FALSE NEIGHBOUR: 'it returns false'. Refute it at one input. -/
def fnExactTimesSpinsWrong : ChangeSpec := { name := "fnExactTimesSpins", fn := fun _ => fun
  | [d1, d2] => { results := [.lit (.bool false)], args := [d1, d2] }
  | _ => none }
def FnExactTimesSpinsWrongFalsely : Prop := fnExactTimesSpinsRow.holds Try.pinned (OpenSpec.ofChange fnExactTimesSpinsWrong)

/-- 'laws.FnExactValidTop': WHATEVER THE INPUT: true; the input reads as it did. -/
def fnExactValidTopSpec : ChangeSpec := { name := "fnExactValidTop", fn := fun _ => fun
  | [d] => { results := [.lit (.bool true)], args := [d] }
  | _ => none }
def fnExactValidTopRow : OpenClaim := { program := "ytondpgnfkicpjaa", sum := "b095743bee07d02f01eb35b98ac24ec0190ebc1bf1ca587e51544de7719ae251", func := "loop.example/g01253/laws.FnExactValidTop", spec := "fnExactValidTop", unfollowed := true, recurses := true, apart := false }
def FnExactValidTopSaid : Prop := fnExactValidTopRow.holds Try.pinned (OpenSpec.ofChange fnExactValidTopSpec)

/-- ITS FALSE NEIGHBOUR: 'it returns false'. Refute it at one input. -/
def fnExactValidTopWrong : ChangeSpec := { name := "fnExactValidTop", fn := fun _ => fun
  | [d] => { results := [.lit (.bool false)], args := [d] }
  | _ => none }
def FnExactValidTopWrongFalsely : Prop := fnExactValidTopRow.holds Try.pinned (OpenSpec.ofChange fnExactValidTopWrong)

/- THE SECOND FORM. 'bulk': how many values and letters a reading holds, each counted each time it is reached (what is shared counts as often as it is met; a slice's spare places count too). A statement '..UptoSaid' is the law's where the arguments, and the package variables that the reading takes, are together of bulk at most 1048576: NARROWER than '..Said'. Prove '..Said' where nothing that the law and all that it calls make is longer than what came in: it says more and counts as full. Else prove '..UptoSaid'. A law counts once. -/
mutual
def uptoBulk {H : Type} : DataW H → Nat
  | .lit (.string bytes) => bytes.length + 1
  | .lit _ => 1
  | .nil => 1
  | .ptr d => uptoBulk d + 1
  | .slice elems spare => uptoBulkAll elems + uptoBulkAll spare + 1
  | .agg parts => uptoBulkAll parts + 1
  | .iface _ d => uptoBulk d + 1
  | .map entries => uptoBulkEntries entries + 1
  | .held _ => 1
def uptoBulkAll {H : Type} : List (DataW H) → Nat
  | [] => 0
  | d :: r => uptoBulk d + uptoBulkAll r
def uptoBulkEntries {H : Type} : List (Lit × DataW H) → Nat
  | [] => 0
  | x :: r => uptoBulkEntry x + uptoBulkEntries r
def uptoBulkEntry {H : Type} : Lit × DataW H → Nat
  | (.string bytes, d) => bytes.length + uptoBulk d + 1
  | (_, d) => uptoBulk d + 1
 end
def uptoSmall : (H : Type) → List (DataW H) → Bool := fun _ ds => decide (uptoBulkAll ds ≤ 1048576)
def OpenSpec.upto (s : _root_.Go.ChangeSpec) : _root_.Go.OpenSpec := { _root_.Go.OpenSpec.ofChange s with cond := some uptoSmall }

/-- 'laws.FnExactValidSwing', WHERE WHAT IT READS IS OF BULK AT MOST 1048576: true; the input reads as it did. -/
def fnExactValidSwingUptoRow : OpenClaim := { program := "ytondpgnfkicpjaa", sum := "b095743bee07d02f01eb35b98ac24ec0190ebc1bf1ca587e51544de7719ae251", func := "loop.example/g01253/laws.FnExactValidSwing", spec := "fnExactValidSwing", unfollowed := true, recurses := true, apart := false, narrowed := true }
def FnExactValidSwingUptoSaid : Prop := fnExactValidSwingUptoRow.holds Try.pinned (OpenSpec.upto fnExactValidSwingSpec)

/-- 'laws.FnExactValidTable', WHERE WHAT IT READS IS OF BULK AT MOST 1048576: true; the input reads as it did. -/
def fnExactValidTableUptoRow : OpenClaim := { program := "ytondpgnfkicpjaa", sum := "b095743bee07d02f01eb35b98ac24ec0190ebc1bf1ca587e51544de7719ae251", func := "loop.example/g01253/laws.FnExactValidTable", spec := "fnExactValidTable", unfollowed := true, recurses := true, apart := false, narrowed := true }
def FnExactValidTableUptoSaid : Prop := fnExactValidTableUptoRow.holds Try.pinned (OpenSpec.upto fnExactValidTableSpec)

/-- 'laws.FnExactBackSpin', WHERE WHAT IT READS IS OF BULK AT MOST 1048576: true; the input reads as it did. -/
def fnExactBackSpinUptoRow : OpenClaim := { program := "ytondpgnfkicpjaa", sum := "b095743bee07d02f01eb35b98ac24ec0190ebc1bf1ca587e51544de7719ae251", func := "loop.example/g01253/laws.FnExactBackSpin", spec := "fnExactBackSpin", apart := false, narrowed := true }
def FnExactBackSpinUptoSaid : Prop := fnExactBackSpinUptoRow.holds Try.pinned (OpenSpec.upto fnExactBackSpinSpec)

/-- 'laws.FnExactIsSpin', WHERE WHAT IT READS IS OF BULK AT MOST 1048576: true; the input reads as it did. -/
def fnExactIsSpinUptoRow : OpenClaim := { program := "ytondpgnfkicpjaa", sum := "b095743bee07d02f01eb35b98ac24ec0190ebc1bf1ca587e51544de7719ae251", func := "loop.example/g01253/laws.FnExactIsSpin", spec := "fnExactIsSpin", unfollowed := true, recurses := true, apart := false, narrowed := true }
def FnExactIsSpinUptoSaid : Prop := fnExactIsSpinUptoRow.holds Try.pinned (OpenSpec.upto fnExactIsSpinSpec)

/-- 'laws.FnExactValidPendulum', WHERE WHAT IT READS IS OF BULK AT MOST 1048576: true; the input reads as it did. -/
def fnExactValidPendulumUptoRow : OpenClaim := { program := "ytondpgnfkicpjaa", sum := "b095743bee07d02f01eb35b98ac24ec0190ebc1bf1ca587e51544de7719ae251", func := "loop.example/g01253/laws.FnExactValidPendulum", spec := "fnExactValidPendulum", unfollowed := true, recurses := true, apart := false, narrowed := true }
def FnExactValidPendulumUptoSaid : Prop := fnExactValidPendulumUptoRow.holds Try.pinned (OpenSpec.upto fnExactValidPendulumSpec)

/-- 'laws.FnExactSameSpin', WHERE WHAT IT READS IS OF BULK AT MOST 1048576: true; the input reads as it did. -/
def fnExactSameSpinUptoRow : OpenClaim := { program := "ytondpgnfkicpjaa", sum := "b095743bee07d02f01eb35b98ac24ec0190ebc1bf1ca587e51544de7719ae251", func := "loop.example/g01253/laws.FnExactSameSpin", spec := "fnExactSameSpin", inPlace := ["math.Float32bits"], unfollowed := true, recurses := true, apart := false, narrowed := true }
def FnExactSameSpinUptoSaid : Prop := fnExactSameSpinUptoRow.holds Try.pinned (OpenSpec.upto fnExactSameSpinSpec)

/-- 'laws.FnExactSameSwing', WHERE WHAT IT READS IS OF BULK AT MOST 1048576: true; the input reads as it did. -/
def fnExactSameSwingUptoRow : OpenClaim := { program := "ytondpgnfkicpjaa", sum := "b095743bee07d02f01eb35b98ac24ec0190ebc1bf1ca587e51544de7719ae251", func := "loop.example/g01253/laws.FnExactSameSwing", spec := "fnExactSameSwing", inPlace := ["math.Float32bits"], unfollowed := true, recurses := true, apart := false, narrowed := true }
def FnExactSameSwingUptoSaid : Prop := fnExactSameSwingUptoRow.holds Try.pinned (OpenSpec.upto fnExactSameSwingSpec)

/-- 'laws.FnExactSameVector', WHERE WHAT IT READS IS OF BULK AT MOST 1048576: true; the input reads as it did. -/
def fnExactSameVectorUptoRow : OpenClaim := { program := "ytondpgnfkicpjaa", sum := "b095743bee07d02f01eb35b98ac24ec0190ebc1bf1ca587e51544de7719ae251", func := "loop.example/g01253/laws.FnExactSameVector", spec := "fnExactSameVector", inPlace := ["math.Float32bits"], unfollowed := true, recurses := true, apart := false, narrowed := true }
def FnExactSameVectorUptoSaid : Prop := fnExactSameVectorUptoRow.holds Try.pinned (OpenSpec.upto fnExactSameVectorSpec)

/-- 'laws.FnExactSamePendulum', WHERE WHAT IT READS IS OF BULK AT MOST 1048576: true; the input reads as it did. -/
def fnExactSamePendulumUptoRow : OpenClaim := { program := "ytondpgnfkicpjaa", sum := "b095743bee07d02f01eb35b98ac24ec0190ebc1bf1ca587e51544de7719ae251", func := "loop.example/g01253/laws.FnExactSamePendulum", spec := "fnExactSamePendulum", inPlace := ["math.Float32bits"], unfollowed := true, recurses := true, apart := false, narrowed := true }
def FnExactSamePendulumUptoSaid : Prop := fnExactSamePendulumUptoRow.holds Try.pinned (OpenSpec.upto fnExactSamePendulumSpec)

/-- 'laws.FnExactRestSwing', WHERE WHAT IT READS IS OF BULK AT MOST 1048576: true; the input reads as it did. -/
def fnExactRestSwingUptoRow : OpenClaim := { program := "ytondpgnfkicpjaa", sum := "b095743bee07d02f01eb35b98ac24ec0190ebc1bf1ca587e51544de7719ae251", func := "loop.example/g01253/laws.FnExactRestSwing", spec := "fnExactRestSwing", unfollowed := true, recurses := true, apart := false, narrowed := true }
def FnExactRestSwingUptoSaid : Prop := fnExactRestSwingUptoRow.holds Try.pinned (OpenSpec.upto fnExactRestSwingSpec)

/-- 'laws.FnExactTimesSpins', WHERE WHAT IT READS IS OF BULK AT MOST 1048576: true; the input reads as it did. -/
def fnExactTimesSpinsUptoRow : OpenClaim := { program := "ytondpgnfkicpjaa", sum := "b095743bee07d02f01eb35b98ac24ec0190ebc1bf1ca587e51544de7719ae251", func := "loop.example/g01253/laws.FnExactTimesSpins", spec := "fnExactTimesSpins", apart := false, narrowed := true }
def FnExactTimesSpinsUptoSaid : Prop := fnExactTimesSpinsUptoRow.holds Try.pinned (OpenSpec.upto fnExactTimesSpinsSpec)

/-- 'laws.FnExactValidTop', WHERE WHAT IT READS IS OF BULK AT MOST 1048576: true; the input reads as it did. -/
def fnExactValidTopUptoRow : OpenClaim := { program := "ytondpgnfkicpjaa", sum := "b095743bee07d02f01eb35b98ac24ec0190ebc1bf1ca587e51544de7719ae251", func := "loop.example/g01253/laws.FnExactValidTop", spec := "fnExactValidTop", unfollowed := true, recurses := true, apart := false, narrowed := true }
def FnExactValidTopUptoSaid : Prop := fnExactValidTopUptoRow.holds Try.pinned (OpenSpec.upto fnExactValidTopSpec)

end Rows
end Go.Proofs.Ytondpgnfkicpjaa
