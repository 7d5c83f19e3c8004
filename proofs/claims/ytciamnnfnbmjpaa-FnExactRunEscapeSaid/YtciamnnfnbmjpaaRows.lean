/-
  No cell of these rows narrows 'for every input' (looked for: loops, veiled, ifaces, maps, wideKeys, modest, calm, conditions, laid).
  DERIVED. THE GIVEN ROWS OF THIS SEAT. 12 by the template 'for every input the law returns true; each argument reads behind the call as it read before'; 0 by the template 'total and deterministic' (their statements: YtciamnnfnbmjpaaTotals.lean).
  GIVEN WITH THE SEED: the statements are not yours to turn. If you find one false, say at which input.
  Laid BY PROGRAM, IN A SANDBOX (cutbox-rows.mjs): the forced cells as the released guide's own fill.sh prints them over the translation 162380d8800836c7… (all of the seat's roots in one cut). By AI agents, Wed Nov 11 2026. No macro, syntax, notation, axiom, sorry.
-/
import Derived.Test.YtciamnnfnbmjpaaChecked
import GoSem.Claim
import GoSem.ClaimJoined
import GoSem.ClaimMapViews
import Derived.JoinedTies
import Derived.KernelRfl
namespace Go.Proofs.Ytciamnnfnbmjpaa
/- THE CELL 'sum', in the pinned program and in every row, IS THE sha256 OF THE DUMP (.gsa) THAT YtciamnnfnbmjpaaProg.lean LOADS. Nothing in Lean hashes anything: it is a label: what it is worth is what the hold of that sum in a sandbox is worth. -/
noncomputable def Try.pinned : Pinned := { name := "ytciamnnfnbmjpaa", sum := "162380d8800836c772e1f9947274c67df752997f31bbc9e20b1cd7ceb2362ee9", checked := Try.checked }
namespace Rows
def none {H : Type} : Left H := { results := [], args := [] }

/-- 'laws.FnExactBackSwing': WHATEVER THE INPUT: true; the input reads as it did. -/
def fnExactBackSwingSpec : ChangeSpec := { name := "fnExactBackSwing", fn := fun _ => fun
  | [d] => { results := [.lit (.bool true)], args := [d] }
  | _ => none }
def fnExactBackSwingRow : OpenClaim := { program := "ytciamnnfnbmjpaa", sum := "162380d8800836c772e1f9947274c67df752997f31bbc9e20b1cd7ceb2362ee9", func := "loop.example/g01253/laws.FnExactBackSwing", spec := "fnExactBackSwing", unfollowed := true, recurses := true, apart := false }
def FnExactBackSwingSaid : Prop := fnExactBackSwingRow.holds Try.pinned (OpenSpec.ofChange fnExactBackSwingSpec)

/-- ITS FALSE NEIGHBOUR: 'it returns false'. Refute it at one input. -/
def fnExactBackSwingWrong : ChangeSpec := { name := "fnExactBackSwing", fn := fun _ => fun
  | [d] => { results := [.lit (.bool false)], args := [d] }
  | _ => none }
def FnExactBackSwingWrongFalsely : Prop := fnExactBackSwingRow.holds Try.pinned (OpenSpec.ofChange fnExactBackSwingWrong)

/-- 'laws.FnExactEscapeOnce': WHATEVER THE INPUT: true; the input reads as it did. -/
def fnExactEscapeOnceSpec : ChangeSpec := { name := "fnExactEscapeOnce", fn := fun _ => fun
  | [d1, d2, d3, d4] => { results := [.lit (.bool true)], args := [d1, d2, d3, d4] }
  | _ => none }
def fnExactEscapeOnceRow : OpenClaim := { program := "ytciamnnfnbmjpaa", sum := "162380d8800836c772e1f9947274c67df752997f31bbc9e20b1cd7ceb2362ee9", func := "loop.example/g01253/laws.FnExactEscapeOnce", spec := "fnExactEscapeOnce", unfollowed := true, recurses := true, apart := false }
def FnExactEscapeOnceSaid : Prop := fnExactEscapeOnceRow.holds Try.pinned (OpenSpec.ofChange fnExactEscapeOnceSpec)

/-- ITS FALSE NEIGHBOUR: 'it returns false'. Refute it at one input. -/
def fnExactEscapeOnceWrong : ChangeSpec := { name := "fnExactEscapeOnce", fn := fun _ => fun
  | [d1, d2, d3, d4] => { results := [.lit (.bool false)], args := [d1, d2, d3, d4] }
  | _ => none }
def FnExactEscapeOnceWrongFalsely : Prop := fnExactEscapeOnceRow.holds Try.pinned (OpenSpec.ofChange fnExactEscapeOnceWrong)

/-- 'laws.FnExactSameTop': WHATEVER THE INPUT: true; the input reads as it did. -/
def fnExactSameTopSpec : ChangeSpec := { name := "fnExactSameTop", fn := fun _ => fun
  | [d1, d2] => { results := [.lit (.bool true)], args := [d1, d2] }
  | _ => none }
def fnExactSameTopRow : OpenClaim := { program := "ytciamnnfnbmjpaa", sum := "162380d8800836c772e1f9947274c67df752997f31bbc9e20b1cd7ceb2362ee9", func := "loop.example/g01253/laws.FnExactSameTop", spec := "fnExactSameTop", inPlace := ["math.Float32bits"], unfollowed := true, recurses := true, apart := false }
def FnExactSameTopSaid : Prop := fnExactSameTopRow.holds Try.pinned (OpenSpec.ofChange fnExactSameTopSpec)

/-- ITS FALSE NEIGHBOUR: 'it returns false'. Refute it at one input. -/
def fnExactSameTopWrong : ChangeSpec := { name := "fnExactSameTop", fn := fun _ => fun
  | [d1, d2] => { results := [.lit (.bool false)], args := [d1, d2] }
  | _ => none }
def FnExactSameTopWrongFalsely : Prop := fnExactSameTopRow.holds Try.pinned (OpenSpec.ofChange fnExactSameTopWrong)

/-- 'laws.FnExactFlyFall': WHATEVER THE INPUT: true; the input reads as it did. -/
def fnExactFlyFallSpec : ChangeSpec := { name := "fnExactFlyFall", fn := fun _ => fun
  | [d1, d2, d3] => { results := [.lit (.bool true)], args := [d1, d2, d3] }
  | _ => none }
def fnExactFlyFallRow : OpenClaim := { program := "ytciamnnfnbmjpaa", sum := "162380d8800836c772e1f9947274c67df752997f31bbc9e20b1cd7ceb2362ee9", func := "loop.example/g01253/laws.FnExactFlyFall", spec := "fnExactFlyFall", unfollowed := true, recurses := true, apart := false }
def FnExactFlyFallSaid : Prop := fnExactFlyFallRow.holds Try.pinned (OpenSpec.ofChange fnExactFlyFallSpec)

/-- ITS FALSE NEIGHBOUR: 'it returns false'. Refute it at one input. -/
def fnExactFlyFallWrong : ChangeSpec := { name := "fnExactFlyFall", fn := fun _ => fun
  | [d1, d2, d3] => { results := [.lit (.bool false)], args := [d1, d2, d3] }
  | _ => none }
def FnExactFlyFallWrongFalsely : Prop := fnExactFlyFallRow.holds Try.pinned (OpenSpec.ofChange fnExactFlyFallWrong)

/-- 'laws.FnExactSteadyAround': WHATEVER THE INPUT: true; the input reads as it did. -/
def fnExactSteadyAroundSpec : ChangeSpec := { name := "fnExactSteadyAround", fn := fun _ => fun
  | [d1, d2, d3] => { results := [.lit (.bool true)], args := [d1, d2, d3] }
  | _ => none }
def fnExactSteadyAroundRow : OpenClaim := { program := "ytciamnnfnbmjpaa", sum := "162380d8800836c772e1f9947274c67df752997f31bbc9e20b1cd7ceb2362ee9", func := "loop.example/g01253/laws.FnExactSteadyAround", spec := "fnExactSteadyAround", unfollowed := true, recurses := true, apart := false }
def FnExactSteadyAroundSaid : Prop := fnExactSteadyAroundRow.holds Try.pinned (OpenSpec.ofChange fnExactSteadyAroundSpec)

/-- ITS FALSE NEIGHBOUR: 'it returns false'. Refute it at one input. -/
def fnExactSteadyAroundWrong : ChangeSpec := { name := "fnExactSteadyAround", fn := fun _ => fun
  | [d1, d2, d3] => { results := [.lit (.bool false)], args := [d1, d2, d3] }
  | _ => none }
def FnExactSteadyAroundWrongFalsely : Prop := fnExactSteadyAroundRow.holds Try.pinned (OpenSpec.ofChange fnExactSteadyAroundWrong)

/-- 'laws.FnExactSizeOfSpin': WHATEVER THE INPUT: true; the input reads as it did. -/
def fnExactSizeOfSpinSpec : ChangeSpec := { name := "fnExactSizeOfSpin", fn := fun _ => fun
  | [d] => { results := [.lit (.bool true)], args := [d] }
  | _ => none }
def fnExactSizeOfSpinRow : OpenClaim := { program := "ytciamnnfnbmjpaa", sum := "162380d8800836c772e1f9947274c67df752997f31bbc9e20b1cd7ceb2362ee9", func := "loop.example/g01253/laws.FnExactSizeOfSpin", spec := "fnExactSizeOfSpin", inPlace := ["math.sqrt"], apart := false }
def FnExactSizeOfSpinSaid : Prop := fnExactSizeOfSpinRow.holds Try.pinned (OpenSpec.ofChange fnExactSizeOfSpinSpec)

/-- ITS FALSE NEIGHBOUR: 'it returns false'. Refute it at one input. -/
def fnExactSizeOfSpinWrong : ChangeSpec := { name := "fnExactSizeOfSpin", fn := fun _ => fun
  | [d] => { results := [.lit (.bool false)], args := [d] }
  | _ => none }
def FnExactSizeOfSpinWrongFalsely : Prop := fnExactSizeOfSpinRow.holds Try.pinned (OpenSpec.ofChange fnExactSizeOfSpinWrong)

/-- 'laws.FnExactEnergyOfTop': WHATEVER THE INPUT: true; the input reads as it did. -/
def fnExactEnergyOfTopSpec : ChangeSpec := { name := "fnExactEnergyOfTop", fn := fun _ => fun
  | [d] => { results := [.lit (.bool true)], args := [d] }
  | _ => none }
def fnExactEnergyOfTopRow : OpenClaim := { program := "ytciamnnfnbmjpaa", sum := "162380d8800836c772e1f9947274c67df752997f31bbc9e20b1cd7ceb2362ee9", func := "loop.example/g01253/laws.FnExactEnergyOfTop", spec := "fnExactEnergyOfTop", unfollowed := true, recurses := true, apart := false }
def FnExactEnergyOfTopSaid : Prop := fnExactEnergyOfTopRow.holds Try.pinned (OpenSpec.ofChange fnExactEnergyOfTopSpec)

/-- ITS FALSE NEIGHBOUR: 'it returns false'. Refute it at one input. -/
def fnExactEnergyOfTopWrong : ChangeSpec := { name := "fnExactEnergyOfTop", fn := fun _ => fun
  | [d] => { results := [.lit (.bool false)], args := [d] }
  | _ => none }
def FnExactEnergyOfTopWrongFalsely : Prop := fnExactEnergyOfTopRow.holds Try.pinned (OpenSpec.ofChange fnExactEnergyOfTopWrong)

/-- 'laws.FnExactWrapTurn': WHATEVER THE INPUT: true; the input reads as it did. -/
def fnExactWrapTurnSpec : ChangeSpec := { name := "fnExactWrapTurn", fn := fun _ => fun
  | [d] => { results := [.lit (.bool true)], args := [d] }
  | _ => none }
def fnExactWrapTurnRow : OpenClaim := { program := "ytciamnnfnbmjpaa", sum := "162380d8800836c772e1f9947274c67df752997f31bbc9e20b1cd7ceb2362ee9", func := "loop.example/g01253/laws.FnExactWrapTurn", spec := "fnExactWrapTurn", inPlace := ["math.archFloor", "math.Float64bits", "math.Float64frombits", "math.archTrunc"], apart := false }
def FnExactWrapTurnSaid : Prop := fnExactWrapTurnRow.holds Try.pinned (OpenSpec.ofChange fnExactWrapTurnSpec)

/-- ITS FALSE NEIGHBOUR: 'it returns false'. Refute it at one input. -/
def fnExactWrapTurnWrong : ChangeSpec := { name := "fnExactWrapTurn", fn := fun _ => fun
  | [d] => { results := [.lit (.bool false)], args := [d] }
  | _ => none }
def FnExactWrapTurnWrongFalsely : Prop := fnExactWrapTurnRow.holds Try.pinned (OpenSpec.ofChange fnExactWrapTurnWrong)

/-- 'laws.FnExactRunEscape': WHATEVER THE INPUT: true; the input reads as it did. -/
def fnExactRunEscapeSpec : ChangeSpec := { name := "fnExactRunEscape", fn := fun _ => fun
  | [d1, d2, d3, d4, d5] => { results := [.lit (.bool true)], args := [d1, d2, d3, d4, d5] }
  | _ => none }
def fnExactRunEscapeRow : OpenClaim := { program := "ytciamnnfnbmjpaa", sum := "162380d8800836c772e1f9947274c67df752997f31bbc9e20b1cd7ceb2362ee9", func := "loop.example/g01253/laws.FnExactRunEscape", spec := "fnExactRunEscape", unfollowed := true, recurses := true, apart := false }
def FnExactRunEscapeSaid : Prop := fnExactRunEscapeRow.holds Try.pinned (OpenSpec.ofChange fnExactRunEscapeSpec)

/-- ITS FALSE NEIGHBOUR: 'it returns false'. Refute it at one input. -/
def fnExactRunEscapeWrong : ChangeSpec := { name := "fnExactRunEscape", fn := fun _ => fun
  | [d1, d2, d3, d4, d5] => { results := [.lit (.bool false)], args := [d1, d2, d3, d4, d5] }
  | _ => none }
def FnExactRunEscapeWrongFalsely : Prop := fnExactRunEscapeRow.holds Try.pinned (OpenSpec.ofChange fnExactRunEscapeWrong)

/-- 'laws.FnExactMomentumInTop': WHATEVER THE INPUT: true; the input reads as it did. -/
def fnExactMomentumInTopSpec : ChangeSpec := { name := "fnExactMomentumInTop", fn := fun _ => fun
  | [d] => { results := [.lit (.bool true)], args := [d] }
  | _ => none }
def fnExactMomentumInTopRow : OpenClaim := { program := "ytciamnnfnbmjpaa", sum := "162380d8800836c772e1f9947274c67df752997f31bbc9e20b1cd7ceb2362ee9", func := "loop.example/g01253/laws.FnExactMomentumInTop", spec := "fnExactMomentumInTop", unfollowed := true, recurses := true, apart := false }
def FnExactMomentumInTopSaid : Prop := fnExactMomentumInTopRow.holds Try.pinned (OpenSpec.ofChange fnExactMomentumInTopSpec)

/-- ITS FALSE NEIGHBOUR: 'it returns false'. Refute it at one input. -/
def fnExactMomentumInTopWrong : ChangeSpec := { name := "fnExactMomentumInTop", fn := fun _ => fun
  | [d] => { results := [.lit (.bool false)], args := [d] }
  | _ => none }
def FnExactMomentumInTopWrongFalsely : Prop := fnExactMomentumInTopRow.holds Try.pinned (OpenSpec.ofChange fnExactMomentumInTopWrong)

/-- 'laws.FnExactRateOfTop': WHATEVER THE INPUT: true; the input reads as it did. -/
def fnExactRateOfTopSpec : ChangeSpec := { name := "fnExactRateOfTop", fn := fun _ => fun
  | [d1, d2] => { results := [.lit (.bool true)], args := [d1, d2] }
  | _ => none }
def fnExactRateOfTopRow : OpenClaim := { program := "ytciamnnfnbmjpaa", sum := "162380d8800836c772e1f9947274c67df752997f31bbc9e20b1cd7ceb2362ee9", func := "loop.example/g01253/laws.FnExactRateOfTop", spec := "fnExactRateOfTop", unfollowed := true, recurses := true, apart := false }
def FnExactRateOfTopSaid : Prop := fnExactRateOfTopRow.holds Try.pinned (OpenSpec.ofChange fnExactRateOfTopSpec)

/-- ITS FALSE NEIGHBOUR: 'it returns false'. Refute it at one input. -/
def fnExactRateOfTopWrong : ChangeSpec := { name := "fnExactRateOfTop", fn := fun _ => fun
  | [d1, d2] => { results := [.lit (.bool false)], args := [d1, d2] }
  | _ => none }
def FnExactRateOfTopWrongFalsely : Prop := fnExactRateOfTopRow.holds Try.pinned (OpenSpec.ofChange fnExactRateOfTopWrong)

/-- 'laws.FnExactTurnsApart': WHATEVER THE INPUT: true; the input reads as it did. -/
def fnExactTurnsApartSpec : ChangeSpec := { name := "fnExactTurnsApart", fn := fun _ => fun
  | [d1, d2] => { results := [.lit (.bool true)], args := [d1, d2] }
  | _ => none }
def fnExactTurnsApartRow : OpenClaim := { program := "ytciamnnfnbmjpaa", sum := "162380d8800836c772e1f9947274c67df752997f31bbc9e20b1cd7ceb2362ee9", func := "loop.example/g01253/laws.FnExactTurnsApart", spec := "fnExactTurnsApart", inPlace := ["math.archFloor", "math.Float64bits", "math.Float64frombits", "math.archTrunc"], unfollowed := true, recurses := true, apart := false }
def FnExactTurnsApartSaid : Prop := fnExactTurnsApartRow.holds Try.pinned (OpenSpec.ofChange fnExactTurnsApartSpec)

/-- ITS FALSE NEIGHBOUR: 'it returns false'. Refute it at one input. -/
def fnExactTurnsApartWrong : ChangeSpec := { name := "fnExactTurnsApart", fn := fun _ => fun
  | [d1, d2] => { results := [.lit (.bool false)], args := [d1, d2] }
  | _ => none }
def FnExactTurnsApartWrongFalsely : Prop := fnExactTurnsApartRow.holds Try.pinned (OpenSpec.ofChange fnExactTurnsApartWrong)

/- THE SECOND FORM. 'bulk': how many values and letters a reading holds, each counted each time it is reached (what is shared counts as often as it is met; a slice's spare places count too). A statement '..UptoSaid' is the law's where the arguments, and the package variables that the reading takes, are together of bulk at most 1048576: NARROWER than '..Said'. Prove '..Said' where nothing that the law and all that it calls make is longer than what came in: it says more and counts as full. Else prove '..UptoSaid'. A law counts once. -/
mutual
def uptoBulk {H : Type} : DataW H → Nat
  | .lit (.string bytes) => bytes.length + 1
  | .lit _ => 1
  | .nil => 1
  | .ptr d => uptoBulk d + 1
  | .slice elems spare => uptoBulkAll elems + uptoBulkAll spare + 1
  | .agg parts => uptoBulkAll parts + 1
  | .iface _ d => uptoBulk d + 1
  | .map entries => uptoBulkEntries entries + 1
  | .held _ => 1
def uptoBulkAll {H : Type} : List (DataW H) → Nat
  | [] => 0
  | d :: r => uptoBulk d + uptoBulkAll r
def uptoBulkEntries {H : Type} : List (Lit × DataW H) → Nat
  | [] => 0
  | x :: r => uptoBulkEntry x + uptoBulkEntries r
def uptoBulkEntry {H : Type} : Lit × DataW H → Nat
  | (.string bytes, d) => bytes.length + uptoBulk d + 1
  | (_, d) => uptoBulk d + 1
 end
def uptoSmall : (H : Type) → List (DataW H) → Bool := fun _ ds => decide (uptoBulkAll ds ≤ 1048576)
def OpenSpec.upto (s : _root_.Go.ChangeSpec) : _root_.Go.OpenSpec := { _root_.Go.OpenSpec.ofChange s with cond := some uptoSmall }

/-- 'laws.FnExactBackSwing', WHERE WHAT IT READS IS OF BULK AT MOST 1048576: true; the input reads as it did. -/
def fnExactBackSwingUptoRow : OpenClaim := { program := "ytciamnnfnbmjpaa", sum := "162380d8800836c772e1f9947274c67df752997f31bbc9e20b1cd7ceb2362ee9", func := "loop.example/g01253/laws.FnExactBackSwing", spec := "fnExactBackSwing", unfollowed := true, recurses := true, apart := false, narrowed := true }
def FnExactBackSwingUptoSaid : Prop := fnExactBackSwingUptoRow.holds Try.pinned (OpenSpec.upto fnExactBackSwingSpec)

/-- 'laws.FnExactEscapeOnce', WHERE WHAT IT READS IS OF BULK AT MOST 1048576: true; the input reads as it did. -/
def fnExactEscapeOnceUptoRow : OpenClaim := { program := "ytciamnnfnbmjpaa", sum := "162380d8800836c772e1f9947274c67df752997f31bbc9e20b1cd7ceb2362ee9", func := "loop.example/g01253/laws.FnExactEscapeOnce", spec := "fnExactEscapeOnce", unfollowed := true, recurses := true, apart := false, narrowed := true }
def FnExactEscapeOnceUptoSaid : Prop := fnExactEscapeOnceUptoRow.holds Try.pinned (OpenSpec.upto fnExactEscapeOnceSpec)

/-- 'laws.FnExactSameTop', WHERE WHAT IT READS IS OF BULK AT MOST 1048576: true; the input reads as it did. -/
def fnExactSameTopUptoRow : OpenClaim := { program := "ytciamnnfnbmjpaa", sum := "162380d8800836c772e1f9947274c67df752997f31bbc9e20b1cd7ceb2362ee9", func := "loop.example/g01253/laws.FnExactSameTop", spec := "fnExactSameTop", inPlace := ["math.Float32bits"], unfollowed := true, recurses := true, apart := false, narrowed := true }
def FnExactSameTopUptoSaid : Prop := fnExactSameTopUptoRow.holds Try.pinned (OpenSpec.upto fnExactSameTopSpec)

/-- 'laws.FnExactFlyFall', WHERE WHAT IT READS IS OF BULK AT MOST 1048576: true; the input reads as it did. -/
def fnExactFlyFallUptoRow : OpenClaim := { program := "ytciamnnfnbmjpaa", sum := "162380d8800836c772e1f9947274c67df752997f31bbc9e20b1cd7ceb2362ee9", func := "loop.example/g01253/laws.FnExactFlyFall", spec := "fnExactFlyFall", unfollowed := true, recurses := true, apart := false, narrowed := true }
def FnExactFlyFallUptoSaid : Prop := fnExactFlyFallUptoRow.holds Try.pinned (OpenSpec.upto fnExactFlyFallSpec)

/-- 'laws.FnExactSteadyAround', WHERE WHAT IT READS IS OF BULK AT MOST 1048576: true; the input reads as it did. -/
def fnExactSteadyAroundUptoRow : OpenClaim := { program := "ytciamnnfnbmjpaa", sum := "162380d8800836c772e1f9947274c67df752997f31bbc9e20b1cd7ceb2362ee9", func := "loop.example/g01253/laws.FnExactSteadyAround", spec := "fnExactSteadyAround", unfollowed := true, recurses := true, apart := false, narrowed := true }
def FnExactSteadyAroundUptoSaid : Prop := fnExactSteadyAroundUptoRow.holds Try.pinned (OpenSpec.upto fnExactSteadyAroundSpec)

/-- 'laws.FnExactSizeOfSpin', WHERE WHAT IT READS IS OF BULK AT MOST 1048576: true; the input reads as it did. -/
def fnExactSizeOfSpinUptoRow : OpenClaim := { program := "ytciamnnfnbmjpaa", sum := "162380d8800836c772e1f9947274c67df752997f31bbc9e20b1cd7ceb2362ee9", func := "loop.example/g01253/laws.FnExactSizeOfSpin", spec := "fnExactSizeOfSpin", inPlace := ["math.sqrt"], apart := false, narrowed := true }
def FnExactSizeOfSpinUptoSaid : Prop := fnExactSizeOfSpinUptoRow.holds Try.pinned (OpenSpec.upto fnExactSizeOfSpinSpec)

/-- 'laws.FnExactEnergyOfTop', WHERE WHAT IT READS IS OF BULK AT MOST 1048576: true; the input reads as it did. -/
def fnExactEnergyOfTopUptoRow : OpenClaim := { program := "ytciamnnfnbmjpaa", sum := "162380d8800836c772e1f9947274c67df752997f31bbc9e20b1cd7ceb2362ee9", func := "loop.example/g01253/laws.FnExactEnergyOfTop", spec := "fnExactEnergyOfTop", unfollowed := true, recurses := true, apart := false, narrowed := true }
def FnExactEnergyOfTopUptoSaid : Prop := fnExactEnergyOfTopUptoRow.holds Try.pinned (OpenSpec.upto fnExactEnergyOfTopSpec)

/-- 'laws.FnExactWrapTurn', WHERE WHAT IT READS IS OF BULK AT MOST 1048576: true; the input reads as it did. -/
def fnExactWrapTurnUptoRow : OpenClaim := { program := "ytciamnnfnbmjpaa", sum := "162380d8800836c772e1f9947274c67df752997f31bbc9e20b1cd7ceb2362ee9", func := "loop.example/g01253/laws.FnExactWrapTurn", spec := "fnExactWrapTurn", inPlace := ["math.archFloor", "math.Float64bits", "math.Float64frombits", "math.archTrunc"], apart := false, narrowed := true }
def FnExactWrapTurnUptoSaid : Prop := fnExactWrapTurnUptoRow.holds Try.pinned (OpenSpec.upto fnExactWrapTurnSpec)

/-- 'laws.FnExactRunEscape', WHERE WHAT IT READS IS OF BULK AT MOST 1048576: true; the input reads as it did. -/
def fnExactRunEscapeUptoRow : OpenClaim := { program := "ytciamnnfnbmjpaa", sum := "162380d8800836c772e1f9947274c67df752997f31bbc9e20b1cd7ceb2362ee9", func := "loop.example/g01253/laws.FnExactRunEscape", spec := "fnExactRunEscape", unfollowed := true, recurses := true, apart := false, narrowed := true }
def FnExactRunEscapeUptoSaid : Prop := fnExactRunEscapeUptoRow.holds Try.pinned (OpenSpec.upto fnExactRunEscapeSpec)

/-- 'laws.FnExactMomentumInTop', WHERE WHAT IT READS IS OF BULK AT MOST 1048576: true; the input reads as it did. -/
def fnExactMomentumInTopUptoRow : OpenClaim := { program := "ytciamnnfnbmjpaa", sum := "162380d8800836c772e1f9947274c67df752997f31bbc9e20b1cd7ceb2362ee9", func := "loop.example/g01253/laws.FnExactMomentumInTop", spec := "fnExactMomentumInTop", unfollowed := true, recurses := true, apart := false, narrowed := true }
def FnExactMomentumInTopUptoSaid : Prop := fnExactMomentumInTopUptoRow.holds Try.pinned (OpenSpec.upto fnExactMomentumInTopSpec)

/-- 'laws.FnExactRateOfTop', WHERE WHAT IT READS IS OF BULK AT MOST 1048576: true; the input reads as it did. -/
def fnExactRateOfTopUptoRow : OpenClaim := { program := "ytciamnnfnbmjpaa", sum := "162380d8800836c772e1f9947274c67df752997f31bbc9e20b1cd7ceb2362ee9", func := "loop.example/g01253/laws.FnExactRateOfTop", spec := "fnExactRateOfTop", unfollowed := true, recurses := true, apart := false, narrowed := true }
def FnExactRateOfTopUptoSaid : Prop := fnExactRateOfTopUptoRow.holds Try.pinned (OpenSpec.upto fnExactRateOfTopSpec)

/-- 'laws.FnExactTurnsApart', WHERE WHAT IT READS IS OF BULK AT MOST 1048576: true; the input reads as it did. -/
def fnExactTurnsApartUptoRow : OpenClaim := { program := "ytciamnnfnbmjpaa", sum := "162380d8800836c772e1f9947274c67df752997f31bbc9e20b1cd7ceb2362ee9", func := "loop.example/g01253/laws.FnExactTurnsApart", spec := "fnExactTurnsApart", inPlace := ["math.archFloor", "math.Float64bits", "math.Float64frombits", "math.archTrunc"], unfollowed := true, recurses := true, apart := false, narrowed := true }
def FnExactTurnsApartUptoSaid : Prop := fnExactTurnsApartUptoRow.holds Try.pinned (OpenSpec.upto fnExactTurnsApartSpec)

end Rows
end Go.Proofs.Ytciamnnfnbmjpaa
