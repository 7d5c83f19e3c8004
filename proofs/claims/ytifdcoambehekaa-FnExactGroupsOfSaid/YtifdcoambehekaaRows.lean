/-
  No cell of these rows narrows 'for every input' (looked for: loops, veiled, ifaces, maps, wideKeys, modest, calm, conditions, laid).
  DERIVED. THE GIVEN ROWS OF THIS SEAT. 12 by the template 'for every input the law returns true; each argument reads behind the call as it read before'; 0 by the template 'total and deterministic' (their statements: YtifdcoambehekaaTotals.lean).
  GIVEN WITH THE SEED: the statements are not yours to turn. If you find one false, say at which input.
  Laid BY PROGRAM, IN A SANDBOX (cutbox-rows.mjs): the forced cells as the released guide's own fill.sh prints them over the translation 452fc510fb6f378c… (all of the seat's roots in one cut). By AI agents, Wed Nov 11 2026. No macro, syntax, notation, axiom, sorry.
-/
import Derived.Test.YtifdcoambehekaaChecked
import GoSem.Claim
import GoSem.ClaimJoined
import GoSem.ClaimMapViews
import Derived.JoinedTies
import Derived.KernelRfl
namespace Go.Proofs.Ytifdcoambehekaa
/- THE CELL 'sum', in the pinned program and in every row, IS THE sha256 OF THE DUMP (.gsa) THAT YtifdcoambehekaaProg.lean LOADS. Nothing in Lean hashes anything: it is a label: what it is worth is what the hold of that sum in a sandbox is worth. -/
noncomputable def Try.pinned : Pinned := { name := "ytifdcoambehekaa", sum := "452fc510fb6f378c2c1d0a4472ea2cadcbe42ac35c6d262ab875187f179cfe84", checked := Try.checked }
namespace Rows
def none {H : Type} : Left H := { results := [], args := [] }

/-- 'laws.FnExactEvenClocks': WHATEVER THE INPUT: true; the input reads as it did. -/
def fnExactEvenClocksSpec : ChangeSpec := { name := "fnExactEvenClocks", fn := fun _ => fun
  | [d1, d2, d3] => { results := [.lit (.bool true)], args := [d1, d2, d3] }
  | _ => none }
def fnExactEvenClocksRow : OpenClaim := { program := "ytifdcoambehekaa", sum := "452fc510fb6f378c2c1d0a4472ea2cadcbe42ac35c6d262ab875187f179cfe84", func := "loop.example/g01253/laws.FnExactEvenClocks", spec := "fnExactEvenClocks", unfollowed := true, recurses := true, apart := false }
def FnExactEvenClocksSaid : Prop := fnExactEvenClocksRow.holds Try.pinned (OpenSpec.ofChange fnExactEvenClocksSpec)

/-- ITS FALSE NEIGHBOUR: 'it returns false'. Refute it at one input. -/
def fnExactEvenClocksWrong : ChangeSpec := { name := "fnExactEvenClocks", fn := fun _ => fun
  | [d1, d2, d3] => { results := [.lit (.bool false)], args := [d1, d2, d3] }
  | _ => none }
def FnExactEvenClocksWrongFalsely : Prop := fnExactEvenClocksRow.holds Try.pinned (OpenSpec.ofChange fnExactEvenClocksWrong)

/-- 'laws.FnExactSetLink': WHATEVER THE INPUT: true; the input reads as it did. -/
def fnExactSetLinkSpec : ChangeSpec := { name := "fnExactSetLink", fn := fun _ => fun
  | [d1, d2, d3, d4] => { results := [.lit (.bool true)], args := [d1, d2, d3, d4] }
  | _ => none }
def fnExactSetLinkRow : OpenClaim := { program := "ytifdcoambehekaa", sum := "452fc510fb6f378c2c1d0a4472ea2cadcbe42ac35c6d262ab875187f179cfe84", func := "loop.example/g01253/laws.FnExactSetLink", spec := "fnExactSetLink", unfollowed := true, recurses := true, apart := false }
def FnExactSetLinkSaid : Prop := fnExactSetLinkRow.holds Try.pinned (OpenSpec.ofChange fnExactSetLinkSpec)

/-- ITS FALSE NEIGHBOUR: 'it returns false'. Refute it at one input. -/
def fnExactSetLinkWrong : ChangeSpec := { name := "fnExactSetLink", fn := fun _ => fun
  | [d1, d2, d3, d4] => { results := [.lit (.bool false)], args := [d1, d2, d3, d4] }
  | _ => none }
def FnExactSetLinkWrongFalsely : Prop := fnExactSetLinkRow.holds Try.pinned (OpenSpec.ofChange fnExactSetLinkWrong)

/-- 'laws.FnExactDropClock': WHATEVER THE INPUT: true; the input reads as it did. -/
def fnExactDropClockSpec : ChangeSpec := { name := "fnExactDropClock", fn := fun _ => fun
  | [d1, d2] => { results := [.lit (.bool true)], args := [d1, d2] }
  | _ => none }
def fnExactDropClockRow : OpenClaim := { program := "ytifdcoambehekaa", sum := "452fc510fb6f378c2c1d0a4472ea2cadcbe42ac35c6d262ab875187f179cfe84", func := "loop.example/g01253/laws.FnExactDropClock", spec := "fnExactDropClock", unfollowed := true, recurses := true, apart := false }
def FnExactDropClockSaid : Prop := fnExactDropClockRow.holds Try.pinned (OpenSpec.ofChange fnExactDropClockSpec)

/-- ITS FALSE NEIGHBOUR: 'it returns false'. Refute it at one input. -/
def fnExactDropClockWrong : ChangeSpec := { name := "fnExactDropClock", fn := fun _ => fun
  | [d1, d2] => { results := [.lit (.bool false)], args := [d1, d2] }
  | _ => none }
def FnExactDropClockWrongFalsely : Prop := fnExactDropClockRow.holds Try.pinned (OpenSpec.ofChange fnExactDropClockWrong)

/-- 'laws.FnExactPullOn': WHATEVER THE INPUT: true; the input reads as it did. -/
def fnExactPullOnSpec : ChangeSpec := { name := "fnExactPullOn", fn := fun _ => fun
  | [d1, d2] => { results := [.lit (.bool true)], args := [d1, d2] }
  | _ => none }
def fnExactPullOnRow : OpenClaim := { program := "ytifdcoambehekaa", sum := "452fc510fb6f378c2c1d0a4472ea2cadcbe42ac35c6d262ab875187f179cfe84", func := "loop.example/g01253/laws.FnExactPullOn", spec := "fnExactPullOn", inPlace := ["math.Float64frombits", "math.Float64bits", "math.archTrunc"], unfollowed := true, recurses := true, apart := false }
def FnExactPullOnSaid : Prop := fnExactPullOnRow.holds Try.pinned (OpenSpec.ofChange fnExactPullOnSpec)

/-- ITS FALSE NEIGHBOUR: 'it returns false'. Refute it at one input. -/
def fnExactPullOnWrong : ChangeSpec := { name := "fnExactPullOn", fn := fun _ => fun
  | [d1, d2] => { results := [.lit (.bool false)], args := [d1, d2] }
  | _ => none }
def FnExactPullOnWrongFalsely : Prop := fnExactPullOnRow.holds Try.pinned (OpenSpec.ofChange fnExactPullOnWrong)

/-- 'laws.FnExactOrderClocks': WHATEVER THE INPUT: true; the input reads as it did. -/
def fnExactOrderClocksSpec : ChangeSpec := { name := "fnExactOrderClocks", fn := fun _ => fun
  | [d1, d2] => { results := [.lit (.bool true)], args := [d1, d2] }
  | _ => none }
def fnExactOrderClocksRow : OpenClaim := { program := "ytifdcoambehekaa", sum := "452fc510fb6f378c2c1d0a4472ea2cadcbe42ac35c6d262ab875187f179cfe84", func := "loop.example/g01253/laws.FnExactOrderClocks", spec := "fnExactOrderClocks", unfollowed := true, recurses := true, apart := false }
def FnExactOrderClocksSaid : Prop := fnExactOrderClocksRow.holds Try.pinned (OpenSpec.ofChange fnExactOrderClocksSpec)

/-- ITS FALSE NEIGHBOUR: 'it returns false'. Refute it at one input. -/
def fnExactOrderClocksWrong : ChangeSpec := { name := "fnExactOrderClocks", fn := fun _ => fun
  | [d1, d2] => { results := [.lit (.bool false)], args := [d1, d2] }
  | _ => none }
def FnExactOrderClocksWrongFalsely : Prop := fnExactOrderClocksRow.holds Try.pinned (OpenSpec.ofChange fnExactOrderClocksWrong)

/-- 'laws.FnExactRatesOf': WHATEVER THE INPUT: true; the input reads as it did. -/
def fnExactRatesOfSpec : ChangeSpec := { name := "fnExactRatesOf", fn := fun _ => fun
  | [d] => { results := [.lit (.bool true)], args := [d] }
  | _ => none }
def fnExactRatesOfRow : OpenClaim := { program := "ytifdcoambehekaa", sum := "452fc510fb6f378c2c1d0a4472ea2cadcbe42ac35c6d262ab875187f179cfe84", func := "loop.example/g01253/laws.FnExactRatesOf", spec := "fnExactRatesOf", inPlace := ["math.Float64frombits", "math.Float64bits", "math.archTrunc"], unfollowed := true, recurses := true, apart := false }
def FnExactRatesOfSaid : Prop := fnExactRatesOfRow.holds Try.pinned (OpenSpec.ofChange fnExactRatesOfSpec)

/-- ITS FALSE NEIGHBOUR: 'it returns false'. Refute it at one input. -/
def fnExactRatesOfWrong : ChangeSpec := { name := "fnExactRatesOf", fn := fun _ => fun
  | [d] => { results := [.lit (.bool false)], args := [d] }
  | _ => none }
def FnExactRatesOfWrongFalsely : Prop := fnExactRatesOfRow.holds Try.pinned (OpenSpec.ofChange fnExactRatesOfWrong)

/-- 'laws.FnExactSetClock': WHATEVER THE INPUT: true; the input reads as it did. -/
def fnExactSetClockSpec : ChangeSpec := { name := "fnExactSetClock", fn := fun _ => fun
  | [d1, d2, d3, d4] => { results := [.lit (.bool true)], args := [d1, d2, d3, d4] }
  | _ => none }
def fnExactSetClockRow : OpenClaim := { program := "ytifdcoambehekaa", sum := "452fc510fb6f378c2c1d0a4472ea2cadcbe42ac35c6d262ab875187f179cfe84", func := "loop.example/g01253/laws.FnExactSetClock", spec := "fnExactSetClock", inPlace := ["math.archFloor", "math.Float64bits", "math.Float64frombits", "math.archTrunc"], unfollowed := true, recurses := true, apart := false }
def FnExactSetClockSaid : Prop := fnExactSetClockRow.holds Try.pinned (OpenSpec.ofChange fnExactSetClockSpec)

/-- ITS FALSE NEIGHBOUR: 'it returns false'. Refute it at one input. -/
def fnExactSetClockWrong : ChangeSpec := { name := "fnExactSetClock", fn := fun _ => fun
  | [d1, d2, d3, d4] => { results := [.lit (.bool false)], args := [d1, d2, d3, d4] }
  | _ => none }
def FnExactSetClockWrongFalsely : Prop := fnExactSetClockRow.holds Try.pinned (OpenSpec.ofChange fnExactSetClockWrong)

/-- 'laws.FnExactTurnAll': WHATEVER THE INPUT: true; the input reads as it did. -/
def fnExactTurnAllSpec : ChangeSpec := { name := "fnExactTurnAll", fn := fun _ => fun
  | [d1, d2] => { results := [.lit (.bool true)], args := [d1, d2] }
  | _ => none }
def fnExactTurnAllRow : OpenClaim := { program := "ytifdcoambehekaa", sum := "452fc510fb6f378c2c1d0a4472ea2cadcbe42ac35c6d262ab875187f179cfe84", func := "loop.example/g01253/laws.FnExactTurnAll", spec := "fnExactTurnAll", inPlace := ["math.archFloor", "math.Float64bits", "math.Float64frombits", "math.archTrunc"], unfollowed := true, recurses := true, apart := false }
def FnExactTurnAllSaid : Prop := fnExactTurnAllRow.holds Try.pinned (OpenSpec.ofChange fnExactTurnAllSpec)

/-- ITS FALSE NEIGHBOUR: 'it returns false'. Refute it at one input. -/
def fnExactTurnAllWrong : ChangeSpec := { name := "fnExactTurnAll", fn := fun _ => fun
  | [d1, d2] => { results := [.lit (.bool false)], args := [d1, d2] }
  | _ => none }
def FnExactTurnAllWrongFalsely : Prop := fnExactTurnAllRow.holds Try.pinned (OpenSpec.ofChange fnExactTurnAllWrong)

/-- 'laws.FnExactGroupsOf': WHATEVER THE INPUT: true; the input reads as it did. -/
def fnExactGroupsOfSpec : ChangeSpec := { name := "fnExactGroupsOf", fn := fun _ => fun
  | [d1, d2] => { results := [.lit (.bool true)], args := [d1, d2] }
  | _ => none }
def fnExactGroupsOfRow : OpenClaim := { program := "ytifdcoambehekaa", sum := "452fc510fb6f378c2c1d0a4472ea2cadcbe42ac35c6d262ab875187f179cfe84", func := "loop.example/g01253/laws.FnExactGroupsOf", spec := "fnExactGroupsOf", inPlace := ["math.archFloor", "math.Float64bits", "math.Float64frombits", "math.archTrunc", "math.Float32bits", "math.Float32frombits"], unfollowed := true, recurses := true, apart := false }
def FnExactGroupsOfSaid : Prop := fnExactGroupsOfRow.holds Try.pinned (OpenSpec.ofChange fnExactGroupsOfSpec)

/-- ITS FALSE NEIGHBOUR: 'it returns false'. Refute it at one input. -/
def fnExactGroupsOfWrong : ChangeSpec := { name := "fnExactGroupsOf", fn := fun _ => fun
  | [d1, d2] => { results := [.lit (.bool false)], args := [d1, d2] }
  | _ => none }
def FnExactGroupsOfWrongFalsely : Prop := fnExactGroupsOfRow.holds Try.pinned (OpenSpec.ofChange fnExactGroupsOfWrong)

/-- 'laws.FnExactOrderOf': WHATEVER THE INPUT: true; the input reads as it did. -/
def fnExactOrderOfSpec : ChangeSpec := { name := "fnExactOrderOf", fn := fun _ => fun
  | [d] => { results := [.lit (.bool true)], args := [d] }
  | _ => none }
def fnExactOrderOfRow : OpenClaim := { program := "ytifdcoambehekaa", sum := "452fc510fb6f378c2c1d0a4472ea2cadcbe42ac35c6d262ab875187f179cfe84", func := "loop.example/g01253/laws.FnExactOrderOf", spec := "fnExactOrderOf", inPlace := ["math.Float64frombits", "math.sqrt", "math.Float64bits", "math.archTrunc"], unfollowed := true, recurses := true, apart := false }
def FnExactOrderOfSaid : Prop := fnExactOrderOfRow.holds Try.pinned (OpenSpec.ofChange fnExactOrderOfSpec)

/-- ITS FALSE NEIGHBOUR: 'it returns false'. Refute it at one input. -/
def fnExactOrderOfWrong : ChangeSpec := { name := "fnExactOrderOf", fn := fun _ => fun
  | [d] => { results := [.lit (.bool false)], args := [d] }
  | _ => none }
def FnExactOrderOfWrongFalsely : Prop := fnExactOrderOfRow.holds Try.pinned (OpenSpec.ofChange fnExactOrderOfWrong)

/-- 'laws.FnExactKickClocks': WHATEVER THE INPUT: true; the input reads as it did. -/
def fnExactKickClocksSpec : ChangeSpec := { name := "fnExactKickClocks", fn := fun _ => fun
  | [d1, d2] => { results := [.lit (.bool true)], args := [d1, d2] }
  | _ => none }
def fnExactKickClocksRow : OpenClaim := { program := "ytifdcoambehekaa", sum := "452fc510fb6f378c2c1d0a4472ea2cadcbe42ac35c6d262ab875187f179cfe84", func := "loop.example/g01253/laws.FnExactKickClocks", spec := "fnExactKickClocks", inPlace := ["math.Float64frombits", "math.archFloor", "math.Float64bits", "math.archTrunc"], unfollowed := true, recurses := true, apart := false }
def FnExactKickClocksSaid : Prop := fnExactKickClocksRow.holds Try.pinned (OpenSpec.ofChange fnExactKickClocksSpec)

/-- ITS FALSE NEIGHBOUR: 'it returns false'. Refute it at one input. -/
def fnExactKickClocksWrong : ChangeSpec := { name := "fnExactKickClocks", fn := fun _ => fun
  | [d1, d2] => { results := [.lit (.bool false)], args := [d1, d2] }
  | _ => none }
def FnExactKickClocksWrongFalsely : Prop := fnExactKickClocksRow.holds Try.pinned (OpenSpec.ofChange fnExactKickClocksWrong)

/-- 'laws.FnExactStepClocks': WHATEVER THE INPUT: true; the input reads as it did. -/
def fnExactStepClocksSpec : ChangeSpec := { name := "fnExactStepClocks", fn := fun _ => fun
  | [d1, d2] => { results := [.lit (.bool true)], args := [d1, d2] }
  | _ => none }
def fnExactStepClocksRow : OpenClaim := { program := "ytifdcoambehekaa", sum := "452fc510fb6f378c2c1d0a4472ea2cadcbe42ac35c6d262ab875187f179cfe84", func := "loop.example/g01253/laws.FnExactStepClocks", spec := "fnExactStepClocks", inPlace := ["math.Float64frombits", "math.archFloor", "math.Float64bits", "math.archTrunc"], unfollowed := true, recurses := true, apart := false }
def FnExactStepClocksSaid : Prop := fnExactStepClocksRow.holds Try.pinned (OpenSpec.ofChange fnExactStepClocksSpec)

/-- ITS FALSE NEIGHBOUR: 'it returns false'. Refute it at one input. -/
def fnExactStepClocksWrong : ChangeSpec := { name := "fnExactStepClocks", fn := fun _ => fun
  | [d1, d2] => { results := [.lit (.bool false)], args := [d1, d2] }
  | _ => none }
def FnExactStepClocksWrongFalsely : Prop := fnExactStepClocksRow.holds Try.pinned (OpenSpec.ofChange fnExactStepClocksWrong)

/- THE SECOND FORM. 'bulk': how many values and letters a reading holds, each counted each time it is reached (what is shared counts as often as it is met; a slice's spare places count too). A statement '..UptoSaid' is the law's where the arguments, and the package variables that the reading takes, are together of bulk at most 1048576: NARROWER than '..Said'. Prove '..Said' where nothing that the law and all that it calls make is longer than what came in: it says more and counts as full. Else prove '..UptoSaid'. A law counts once. -/
mutual
def uptoBulk {H : Type} : DataW H → Nat
  | .lit (.string bytes) => bytes.length + 1
  | .lit _ => 1
  | .nil => 1
  | .ptr d => uptoBulk d + 1
  | .slice elems spare => uptoBulkAll elems + uptoBulkAll spare + 1
  | .agg parts => uptoBulkAll parts + 1
  | .iface _ d => uptoBulk d + 1
  | .map entries => uptoBulkEntries entries + 1
  | .held _ => 1
def uptoBulkAll {H : Type} : List (DataW H) → Nat
  | [] => 0
  | d :: r => uptoBulk d + uptoBulkAll r
def uptoBulkEntries {H : Type} : List (Lit × DataW H) → Nat
  | [] => 0
  | x :: r => uptoBulkEntry x + uptoBulkEntries r
def uptoBulkEntry {H : Type} : Lit × DataW H → Nat
  | (.string bytes, d) => bytes.length + uptoBulk d + 1
  | (_, d) => uptoBulk d + 1
 end
def uptoSmall : (H : Type) → List (DataW H) → Bool := fun _ ds => decide (uptoBulkAll ds ≤ 1048576)
def OpenSpec.upto (s : _root_.Go.ChangeSpec) : _root_.Go.OpenSpec := { _root_.Go.OpenSpec.ofChange s with cond := some uptoSmall }

/-- 'laws.FnExactEvenClocks', WHERE WHAT IT READS IS OF BULK AT MOST 1048576: true; the input reads as it did. -/
def fnExactEvenClocksUptoRow : OpenClaim := { program := "ytifdcoambehekaa", sum := "452fc510fb6f378c2c1d0a4472ea2cadcbe42ac35c6d262ab875187f179cfe84", func := "loop.example/g01253/laws.FnExactEvenClocks", spec := "fnExactEvenClocks", unfollowed := true, recurses := true, apart := false, narrowed := true }
def FnExactEvenClocksUptoSaid : Prop := fnExactEvenClocksUptoRow.holds Try.pinned (OpenSpec.upto fnExactEvenClocksSpec)

/-- 'laws.FnExactSetLink', WHERE WHAT IT READS IS OF BULK AT MOST 1048576: true; the input reads as it did. -/
def fnExactSetLinkUptoRow : OpenClaim := { program := "ytifdcoambehekaa", sum := "452fc510fb6f378c2c1d0a4472ea2cadcbe42ac35c6d262ab875187f179cfe84", func := "loop.example/g01253/laws.FnExactSetLink", spec := "fnExactSetLink", unfollowed := true, recurses := true, apart := false, narrowed := true }
def FnExactSetLinkUptoSaid : Prop := fnExactSetLinkUptoRow.holds Try.pinned (OpenSpec.upto fnExactSetLinkSpec)

/-- 'laws.FnExactDropClock', WHERE WHAT IT READS IS OF BULK AT MOST 1048576: true; the input reads as it did. -/
def fnExactDropClockUptoRow : OpenClaim := { program := "ytifdcoambehekaa", sum := "452fc510fb6f378c2c1d0a4472ea2cadcbe42ac35c6d262ab875187f179cfe84", func := "loop.example/g01253/laws.FnExactDropClock", spec := "fnExactDropClock", unfollowed := true, recurses := true, apart := false, narrowed := true }
def FnExactDropClockUptoSaid : Prop := fnExactDropClockUptoRow.holds Try.pinned (OpenSpec.upto fnExactDropClockSpec)

/-- 'laws.FnExactPullOn', WHERE WHAT IT READS IS OF BULK AT MOST 1048576: true; the input reads as it did. -/
def fnExactPullOnUptoRow : OpenClaim := { program := "ytifdcoambehekaa", sum := "452fc510fb6f378c2c1d0a4472ea2cadcbe42ac35c6d262ab875187f179cfe84", func := "loop.example/g01253/laws.FnExactPullOn", spec := "fnExactPullOn", inPlace := ["math.Float64frombits", "math.Float64bits", "math.archTrunc"], unfollowed := true, recurses := true, apart := false, narrowed := true }
def FnExactPullOnUptoSaid : Prop := fnExactPullOnUptoRow.holds Try.pinned (OpenSpec.upto fnExactPullOnSpec)

/-- 'laws.FnExactOrderClocks', WHERE WHAT IT READS IS OF BULK AT MOST 1048576: true; the input reads as it did. -/
def fnExactOrderClocksUptoRow : OpenClaim := { program := "ytifdcoambehekaa", sum := "452fc510fb6f378c2c1d0a4472ea2cadcbe42ac35c6d262ab875187f179cfe84", func := "loop.example/g01253/laws.FnExactOrderClocks", spec := "fnExactOrderClocks", unfollowed := true, recurses := true, apart := false, narrowed := true }
def FnExactOrderClocksUptoSaid : Prop := fnExactOrderClocksUptoRow.holds Try.pinned (OpenSpec.upto fnExactOrderClocksSpec)

/-- 'laws.FnExactRatesOf', WHERE WHAT IT READS IS OF BULK AT MOST 1048576: true; the input reads as it did. -/
def fnExactRatesOfUptoRow : OpenClaim := { program := "ytifdcoambehekaa", sum := "452fc510fb6f378c2c1d0a4472ea2cadcbe42ac35c6d262ab875187f179cfe84", func := "loop.example/g01253/laws.FnExactRatesOf", spec := "fnExactRatesOf", inPlace := ["math.Float64frombits", "math.Float64bits", "math.archTrunc"], unfollowed := true, recurses := true, apart := false, narrowed := true }
def FnExactRatesOfUptoSaid : Prop := fnExactRatesOfUptoRow.holds Try.pinned (OpenSpec.upto fnExactRatesOfSpec)

/-- 'laws.FnExactSetClock', WHERE WHAT IT READS IS OF BULK AT MOST 1048576: true; the input reads as it did. -/
def fnExactSetClockUptoRow : OpenClaim := { program := "ytifdcoambehekaa", sum := "452fc510fb6f378c2c1d0a4472ea2cadcbe42ac35c6d262ab875187f179cfe84", func := "loop.example/g01253/laws.FnExactSetClock", spec := "fnExactSetClock", inPlace := ["math.archFloor", "math.Float64bits", "math.Float64frombits", "math.archTrunc"], unfollowed := true, recurses := true, apart := false, narrowed := true }
def FnExactSetClockUptoSaid : Prop := fnExactSetClockUptoRow.holds Try.pinned (OpenSpec.upto fnExactSetClockSpec)

/-- 'laws.FnExactTurnAll', WHERE WHAT IT READS IS OF BULK AT MOST 1048576: true; the input reads as it did. -/
def fnExactTurnAllUptoRow : OpenClaim := { program := "ytifdcoambehekaa", sum := "452fc510fb6f378c2c1d0a4472ea2cadcbe42ac35c6d262ab875187f179cfe84", func := "loop.example/g01253/laws.FnExactTurnAll", spec := "fnExactTurnAll", inPlace := ["math.archFloor", "math.Float64bits", "math.Float64frombits", "math.archTrunc"], unfollowed := true, recurses := true, apart := false, narrowed := true }
def FnExactTurnAllUptoSaid : Prop := fnExactTurnAllUptoRow.holds Try.pinned (OpenSpec.upto fnExactTurnAllSpec)

/-- 'laws.FnExactGroupsOf', WHERE WHAT IT READS IS OF BULK AT MOST 1048576: true; the input reads as it did. -/
def fnExactGroupsOfUptoRow : OpenClaim := { program := "ytifdcoambehekaa", sum := "452fc510fb6f378c2c1d0a4472ea2cadcbe42ac35c6d262ab875187f179cfe84", func := "loop.example/g01253/laws.FnExactGroupsOf", spec := "fnExactGroupsOf", inPlace := ["math.archFloor", "math.Float64bits", "math.Float64frombits", "math.archTrunc", "math.Float32bits", "math.Float32frombits"], unfollowed := true, recurses := true, apart := false, narrowed := true }
def FnExactGroupsOfUptoSaid : Prop := fnExactGroupsOfUptoRow.holds Try.pinned (OpenSpec.upto fnExactGroupsOfSpec)

/-- 'laws.FnExactOrderOf', WHERE WHAT IT READS IS OF BULK AT MOST 1048576: true; the input reads as it did. -/
def fnExactOrderOfUptoRow : OpenClaim := { program := "ytifdcoambehekaa", sum := "452fc510fb6f378c2c1d0a4472ea2cadcbe42ac35c6d262ab875187f179cfe84", func := "loop.example/g01253/laws.FnExactOrderOf", spec := "fnExactOrderOf", inPlace := ["math.Float64frombits", "math.sqrt", "math.Float64bits", "math.archTrunc"], unfollowed := true, recurses := true, apart := false, narrowed := true }
def FnExactOrderOfUptoSaid : Prop := fnExactOrderOfUptoRow.holds Try.pinned (OpenSpec.upto fnExactOrderOfSpec)

/-- 'laws.FnExactKickClocks', WHERE WHAT IT READS IS OF BULK AT MOST 1048576: true; the input reads as it did. -/
def fnExactKickClocksUptoRow : OpenClaim := { program := "ytifdcoambehekaa", sum := "452fc510fb6f378c2c1d0a4472ea2cadcbe42ac35c6d262ab875187f179cfe84", func := "loop.example/g01253/laws.FnExactKickClocks", spec := "fnExactKickClocks", inPlace := ["math.Float64frombits", "math.archFloor", "math.Float64bits", "math.archTrunc"], unfollowed := true, recurses := true, apart := false, narrowed := true }
def FnExactKickClocksUptoSaid : Prop := fnExactKickClocksUptoRow.holds Try.pinned (OpenSpec.upto fnExactKickClocksSpec)

/-- 'laws.FnExactStepClocks', WHERE WHAT IT READS IS OF BULK AT MOST 1048576: true; the input reads as it did. -/
def fnExactStepClocksUptoRow : OpenClaim := { program := "ytifdcoambehekaa", sum := "452fc510fb6f378c2c1d0a4472ea2cadcbe42ac35c6d262ab875187f179cfe84", func := "loop.example/g01253/laws.FnExactStepClocks", spec := "fnExactStepClocks", inPlace := ["math.Float64frombits", "math.archFloor", "math.Float64bits", "math.archTrunc"], unfollowed := true, recurses := true, apart := false, narrowed := true }
def FnExactStepClocksUptoSaid : Prop := fnExactStepClocksUptoRow.holds Try.pinned (OpenSpec.upto fnExactStepClocksSpec)

end Rows
end Go.Proofs.Ytifdcoambehekaa
