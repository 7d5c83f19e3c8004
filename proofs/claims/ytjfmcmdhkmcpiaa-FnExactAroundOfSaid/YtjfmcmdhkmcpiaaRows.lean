/-
  No cell of these rows narrows 'for every input' (looked for: loops, veiled, ifaces, maps, wideKeys, modest, calm, conditions, laid).
  DERIVED. THE GIVEN ROWS OF THIS SEAT. 12 by the template 'for every input the law returns true; each argument reads behind the call as it read before'; 0 by the template 'total and deterministic' (their statements: YtjfmcmdhkmcpiaaTotals.lean).
  GIVEN WITH THE SEED: the statements are not yours to turn. If you find one false, say at which input.
  Laid BY PROGRAM, IN A SANDBOX (cutbox-rows.mjs): the forced cells as the released guide's own fill.sh prints them over the translation fb46a6333d6ea4d0… (all of the seat's roots in one cut). By AI agents, Wed Nov 11 2026. No macro, syntax, notation, axiom, sorry.
-/
import Derived.Test.YtjfmcmdhkmcpiaaChecked
import GoSem.Claim
import GoSem.ClaimJoined
import GoSem.ClaimMapViews
import Derived.JoinedTies
import Derived.KernelRfl
namespace Go.Proofs.Ytjfmcmdhkmcpiaa
/- THE CELL 'sum', in the pinned program and in every row, IS THE sha256 OF THE DUMP (.gsa) THAT YtjfmcmdhkmcpiaaProg.lean LOADS. Nothing in Lean hashes anything: it is a label: what it is worth is what the hold of that sum in a sandbox is worth. -/
noncomputable def Try.pinned : Pinned := { name := "ytjfmcmdhkmcpiaa", sum := "fb46a6333d6ea4d04ed1435ca22e548303c5424fb46987110d2a8f707596ad4c", checked := Try.checked }
namespace Rows
def none {H : Type} : Left H := { results := [], args := [] }

/-- 'laws.FnExactDriveAt': WHATEVER THE INPUT: true; the input reads as it did. -/
def fnExactDriveAtSpec : ChangeSpec := { name := "fnExactDriveAt", fn := fun _ => fun
  | [d1, d2] => { results := [.lit (.bool true)], args := [d1, d2] }
  | _ => none }
def fnExactDriveAtRow : OpenClaim := { program := "ytjfmcmdhkmcpiaa", sum := "fb46a6333d6ea4d04ed1435ca22e548303c5424fb46987110d2a8f707596ad4c", func := "loop.example/g01253/laws.FnExactDriveAt", spec := "fnExactDriveAt", inPlace := ["math.Float64frombits", "math.Float64bits", "math.archTrunc"], unfollowed := true, recurses := true, apart := false }
def FnExactDriveAtSaid : Prop := fnExactDriveAtRow.holds Try.pinned (OpenSpec.ofChange fnExactDriveAtSpec)

/-- ITS FALSE NEIGHBOUR: 'it returns false'. Refute it at one input. -/
def fnExactDriveAtWrong : ChangeSpec := { name := "fnExactDriveAt", fn := fun _ => fun
  | [d1, d2] => { results := [.lit (.bool false)], args := [d1, d2] }
  | _ => none }
def FnExactDriveAtWrongFalsely : Prop := fnExactDriveAtRow.holds Try.pinned (OpenSpec.ofChange fnExactDriveAtWrong)

/-- 'laws.FnExactPullAt': WHATEVER THE INPUT: true; the input reads as it did. -/
def fnExactPullAtSpec : ChangeSpec := { name := "fnExactPullAt", fn := fun _ => fun
  | [d1, d2] => { results := [.lit (.bool true)], args := [d1, d2] }
  | _ => none }
def fnExactPullAtRow : OpenClaim := { program := "ytjfmcmdhkmcpiaa", sum := "fb46a6333d6ea4d04ed1435ca22e548303c5424fb46987110d2a8f707596ad4c", func := "loop.example/g01253/laws.FnExactPullAt", spec := "fnExactPullAt", inPlace := ["math.Float64frombits", "math.Float64bits", "math.archTrunc"], unfollowed := true, recurses := true, apart := false }
def FnExactPullAtSaid : Prop := fnExactPullAtRow.holds Try.pinned (OpenSpec.ofChange fnExactPullAtSpec)

/-- ITS FALSE NEIGHBOUR: 'it returns false'. Refute it at one input. -/
def fnExactPullAtWrong : ChangeSpec := { name := "fnExactPullAt", fn := fun _ => fun
  | [d1, d2] => { results := [.lit (.bool false)], args := [d1, d2] }
  | _ => none }
def FnExactPullAtWrongFalsely : Prop := fnExactPullAtRow.holds Try.pinned (OpenSpec.ofChange fnExactPullAtWrong)

/-- 'laws.FnExactEnergyOfSwing': WHATEVER THE INPUT: true; the input reads as it did. -/
def fnExactEnergyOfSwingSpec : ChangeSpec := { name := "fnExactEnergyOfSwing", fn := fun _ => fun
  | [d1, d2] => { results := [.lit (.bool true)], args := [d1, d2] }
  | _ => none }
def fnExactEnergyOfSwingRow : OpenClaim := { program := "ytjfmcmdhkmcpiaa", sum := "fb46a6333d6ea4d04ed1435ca22e548303c5424fb46987110d2a8f707596ad4c", func := "loop.example/g01253/laws.FnExactEnergyOfSwing", spec := "fnExactEnergyOfSwing", inPlace := ["math.Float64frombits", "math.Float64bits", "math.archTrunc"], unfollowed := true, recurses := true, apart := false }
def FnExactEnergyOfSwingSaid : Prop := fnExactEnergyOfSwingRow.holds Try.pinned (OpenSpec.ofChange fnExactEnergyOfSwingSpec)

/-- ITS FALSE NEIGHBOUR: 'it returns false'. Refute it at one input. -/
def fnExactEnergyOfSwingWrong : ChangeSpec := { name := "fnExactEnergyOfSwing", fn := fun _ => fun
  | [d1, d2] => { results := [.lit (.bool false)], args := [d1, d2] }
  | _ => none }
def FnExactEnergyOfSwingWrongFalsely : Prop := fnExactEnergyOfSwingRow.holds Try.pinned (OpenSpec.ofChange fnExactEnergyOfSwingWrong)

/-- 'laws.FnExactPlaceOfSwing': WHATEVER THE INPUT: true; the input reads as it did. -/
def fnExactPlaceOfSwingSpec : ChangeSpec := { name := "fnExactPlaceOfSwing", fn := fun _ => fun
  | [d1, d2] => { results := [.lit (.bool true)], args := [d1, d2] }
  | _ => none }
def fnExactPlaceOfSwingRow : OpenClaim := { program := "ytjfmcmdhkmcpiaa", sum := "fb46a6333d6ea4d04ed1435ca22e548303c5424fb46987110d2a8f707596ad4c", func := "loop.example/g01253/laws.FnExactPlaceOfSwing", spec := "fnExactPlaceOfSwing", inPlace := ["math.Float64frombits", "math.Float64bits", "math.archTrunc"], unfollowed := true, recurses := true, apart := false }
def FnExactPlaceOfSwingSaid : Prop := fnExactPlaceOfSwingRow.holds Try.pinned (OpenSpec.ofChange fnExactPlaceOfSwingSpec)

/-- ITS FALSE NEIGHBOUR: 'it returns false'. Refute it at one input. -/
def fnExactPlaceOfSwingWrong : ChangeSpec := { name := "fnExactPlaceOfSwing", fn := fun _ => fun
  | [d1, d2] => { results := [.lit (.bool false)], args := [d1, d2] }
  | _ => none }
def FnExactPlaceOfSwingWrongFalsely : Prop := fnExactPlaceOfSwingRow.holds Try.pinned (OpenSpec.ofChange fnExactPlaceOfSwingWrong)

/-- 'laws.FnExactForceOn': WHATEVER THE INPUT: true; the input reads as it did. -/
def fnExactForceOnSpec : ChangeSpec := { name := "fnExactForceOn", fn := fun _ => fun
  | [d1, d2] => { results := [.lit (.bool true)], args := [d1, d2] }
  | _ => none }
def fnExactForceOnRow : OpenClaim := { program := "ytjfmcmdhkmcpiaa", sum := "fb46a6333d6ea4d04ed1435ca22e548303c5424fb46987110d2a8f707596ad4c", func := "loop.example/g01253/laws.FnExactForceOn", spec := "fnExactForceOn", inPlace := ["math.Float64frombits", "math.Float64bits", "math.archTrunc"], unfollowed := true, recurses := true, apart := false }
def FnExactForceOnSaid : Prop := fnExactForceOnRow.holds Try.pinned (OpenSpec.ofChange fnExactForceOnSpec)

/-- ITS FALSE NEIGHBOUR: 'it returns false'. Refute it at one input. -/
def fnExactForceOnWrong : ChangeSpec := { name := "fnExactForceOn", fn := fun _ => fun
  | [d1, d2] => { results := [.lit (.bool false)], args := [d1, d2] }
  | _ => none }
def FnExactForceOnWrongFalsely : Prop := fnExactForceOnRow.holds Try.pinned (OpenSpec.ofChange fnExactForceOnWrong)

/-- 'laws.FnExactLockApart': WHATEVER THE INPUT: true; the input reads as it did. -/
def fnExactLockApartSpec : ChangeSpec := { name := "fnExactLockApart", fn := fun _ => fun
  | [d1, d2] => { results := [.lit (.bool true)], args := [d1, d2] }
  | _ => none }
def fnExactLockApartRow : OpenClaim := { program := "ytjfmcmdhkmcpiaa", sum := "fb46a6333d6ea4d04ed1435ca22e548303c5424fb46987110d2a8f707596ad4c", func := "loop.example/g01253/laws.FnExactLockApart", spec := "fnExactLockApart", inPlace := ["math.sqrt", "math.Float64frombits", "math.Float64bits", "math.Float32bits", "math.Float32frombits"], unfollowed := true, recurses := true, apart := false }
def FnExactLockApartSaid : Prop := fnExactLockApartRow.holds Try.pinned (OpenSpec.ofChange fnExactLockApartSpec)

/-- ITS FALSE NEIGHBOUR: 'it returns false'. Refute it at one input. -/
def fnExactLockApartWrong : ChangeSpec := { name := "fnExactLockApart", fn := fun _ => fun
  | [d1, d2] => { results := [.lit (.bool false)], args := [d1, d2] }
  | _ => none }
def FnExactLockApartWrongFalsely : Prop := fnExactLockApartRow.holds Try.pinned (OpenSpec.ofChange fnExactLockApartWrong)

/-- 'laws.FnExactKickSwing': WHATEVER THE INPUT: true; the input reads as it did. -/
def fnExactKickSwingSpec : ChangeSpec := { name := "fnExactKickSwing", fn := fun _ => fun
  | [d1, d2, d3] => { results := [.lit (.bool true)], args := [d1, d2, d3] }
  | _ => none }
def fnExactKickSwingRow : OpenClaim := { program := "ytjfmcmdhkmcpiaa", sum := "fb46a6333d6ea4d04ed1435ca22e548303c5424fb46987110d2a8f707596ad4c", func := "loop.example/g01253/laws.FnExactKickSwing", spec := "fnExactKickSwing", inPlace := ["math.Float64frombits", "math.Float64bits", "math.archTrunc"], unfollowed := true, recurses := true, apart := false }
def FnExactKickSwingSaid : Prop := fnExactKickSwingRow.holds Try.pinned (OpenSpec.ofChange fnExactKickSwingSpec)

/-- ITS FALSE NEIGHBOUR: 'it returns false'. Refute it at one input. -/
def fnExactKickSwingWrong : ChangeSpec := { name := "fnExactKickSwing", fn := fun _ => fun
  | [d1, d2, d3] => { results := [.lit (.bool false)], args := [d1, d2, d3] }
  | _ => none }
def FnExactKickSwingWrongFalsely : Prop := fnExactKickSwingRow.holds Try.pinned (OpenSpec.ofChange fnExactKickSwingWrong)

/-- 'laws.FnLocked': WHATEVER THE INPUT: true; the input reads as it did. -/
def fnLockedSpec : ChangeSpec := { name := "fnLocked", fn := fun _ => fun
  | [d1, d2] => { results := [.lit (.bool true)], args := [d1, d2] }
  | _ => none }
def fnLockedRow : OpenClaim := { program := "ytjfmcmdhkmcpiaa", sum := "fb46a6333d6ea4d04ed1435ca22e548303c5424fb46987110d2a8f707596ad4c", func := "loop.example/g01253/laws.FnLocked", spec := "fnLocked", inPlace := ["math.Float32bits", "math.Float32frombits", "math.sqrt", "math.Float64frombits", "math.Float64bits"], unfollowed := true, recurses := true, apart := false }
def FnLockedSaid : Prop := fnLockedRow.holds Try.pinned (OpenSpec.ofChange fnLockedSpec)

/-- ITS FALSE NEIGHBOUR: 'it returns false'. Refute it at one input. -/
def fnLockedWrong : ChangeSpec := { name := "fnLocked", fn := fun _ => fun
  | [d1, d2] => { results := [.lit (.bool false)], args := [d1, d2] }
  | _ => none }
def FnLockedWrongFalsely : Prop := fnLockedRow.holds Try.pinned (OpenSpec.ofChange fnLockedWrong)

/-- 'laws.FnExactSpinAround': WHATEVER THE INPUT: true; the input reads as it did. -/
def fnExactSpinAroundSpec : ChangeSpec := { name := "fnExactSpinAround", fn := fun _ => fun
  | [d1, d2] => { results := [.lit (.bool true)], args := [d1, d2] }
  | _ => none }
def fnExactSpinAroundRow : OpenClaim := { program := "ytjfmcmdhkmcpiaa", sum := "fb46a6333d6ea4d04ed1435ca22e548303c5424fb46987110d2a8f707596ad4c", func := "loop.example/g01253/laws.FnExactSpinAround", spec := "fnExactSpinAround", inPlace := ["math.Float64frombits", "math.sqrt", "math.Float64bits", "math.archTrunc"], unfollowed := true, recurses := true, apart := false }
def FnExactSpinAroundSaid : Prop := fnExactSpinAroundRow.holds Try.pinned (OpenSpec.ofChange fnExactSpinAroundSpec)

/-- ITS FALSE NEIGHBOUR: 'it returns false'. Refute it at one input. -/
def fnExactSpinAroundWrong : ChangeSpec := { name := "fnExactSpinAround", fn := fun _ => fun
  | [d1, d2] => { results := [.lit (.bool false)], args := [d1, d2] }
  | _ => none }
def FnExactSpinAroundWrongFalsely : Prop := fnExactSpinAroundRow.holds Try.pinned (OpenSpec.ofChange fnExactSpinAroundWrong)

/-- 'laws.FnExactWidePeriod': WHATEVER THE INPUT: true; the input reads as it did. -/
def fnExactWidePeriodSpec : ChangeSpec := { name := "fnExactWidePeriod", fn := fun _ => fun
  | [d1, d2, d3] => { results := [.lit (.bool true)], args := [d1, d2, d3] }
  | _ => none }
def fnExactWidePeriodRow : OpenClaim := { program := "ytjfmcmdhkmcpiaa", sum := "fb46a6333d6ea4d04ed1435ca22e548303c5424fb46987110d2a8f707596ad4c", func := "loop.example/g01253/laws.FnExactWidePeriod", spec := "fnExactWidePeriod", inPlace := ["math.Float64frombits", "math.sqrt", "math.Float64bits", "math.archTrunc"], unfollowed := true, recurses := true, apart := false }
def FnExactWidePeriodSaid : Prop := fnExactWidePeriodRow.holds Try.pinned (OpenSpec.ofChange fnExactWidePeriodSpec)

/-- ITS FALSE NEIGHBOUR: 'it returns false'. Refute it at one input. -/
def fnExactWidePeriodWrong : ChangeSpec := { name := "fnExactWidePeriod", fn := fun _ => fun
  | [d1, d2, d3] => { results := [.lit (.bool false)], args := [d1, d2, d3] }
  | _ => none }
def FnExactWidePeriodWrongFalsely : Prop := fnExactWidePeriodRow.holds Try.pinned (OpenSpec.ofChange fnExactWidePeriodWrong)

/-- 'laws.FnExactSmallPeriod': WHATEVER THE INPUT: true; the input reads as it did. -/
def fnExactSmallPeriodSpec : ChangeSpec := { name := "fnExactSmallPeriod", fn := fun _ => fun
  | [d] => { results := [.lit (.bool true)], args := [d] }
  | _ => none }
def fnExactSmallPeriodRow : OpenClaim := { program := "ytjfmcmdhkmcpiaa", sum := "fb46a6333d6ea4d04ed1435ca22e548303c5424fb46987110d2a8f707596ad4c", func := "loop.example/g01253/laws.FnExactSmallPeriod", spec := "fnExactSmallPeriod", inPlace := ["math.sqrt"], unfollowed := true, recurses := true, apart := false }
def FnExactSmallPeriodSaid : Prop := fnExactSmallPeriodRow.holds Try.pinned (OpenSpec.ofChange fnExactSmallPeriodSpec)

/-- ITS FALSE NEIGHBOUR: 'it returns false'. Refute it at one input. -/
def fnExactSmallPeriodWrong : ChangeSpec := { name := "fnExactSmallPeriod", fn := fun _ => fun
  | [d] => { results := [.lit (.bool false)], args := [d] }
  | _ => none }
def FnExactSmallPeriodWrongFalsely : Prop := fnExactSmallPeriodRow.holds Try.pinned (OpenSpec.ofChange fnExactSmallPeriodWrong)

/-- 'laws.FnExactAroundOf': WHATEVER THE INPUT: true; the input reads as it did. -/
def fnExactAroundOfSpec : ChangeSpec := { name := "fnExactAroundOf", fn := fun _ => fun
  | [d] => { results := [.lit (.bool true)], args := [d] }
  | _ => none }
def fnExactAroundOfRow : OpenClaim := { program := "ytjfmcmdhkmcpiaa", sum := "fb46a6333d6ea4d04ed1435ca22e548303c5424fb46987110d2a8f707596ad4c", func := "loop.example/g01253/laws.FnExactAroundOf", spec := "fnExactAroundOf", inPlace := ["math.Float64frombits", "math.Float64bits", "math.sqrt"], unfollowed := true, recurses := true, apart := false }
def FnExactAroundOfSaid : Prop := fnExactAroundOfRow.holds Try.pinned (OpenSpec.ofChange fnExactAroundOfSpec)

/-- ITS FALSE NEIGHBOUR: 'it returns false'. Refute it at one input. -/
def fnExactAroundOfWrong : ChangeSpec := { name := "fnExactAroundOf", fn := fun _ => fun
  | [d] => { results := [.lit (.bool false)], args := [d] }
  | _ => none }
def FnExactAroundOfWrongFalsely : Prop := fnExactAroundOfRow.holds Try.pinned (OpenSpec.ofChange fnExactAroundOfWrong)

/- THE SECOND FORM. 'bulk': how many values and letters a reading holds, each counted each time it is reached (what is shared counts as often as it is met; a slice's spare places count too). A statement '..UptoSaid' is the law's where the arguments, and the package variables that the reading takes, are together of bulk at most 1048576: NARROWER than '..Said'. Prove '..Said' where nothing that the law and all that it calls make is longer than what came in: it says more and counts as full. Else prove '..UptoSaid'. A law counts once. -/
mutual
def uptoBulk {H : Type} : DataW H → Nat
  | .lit (.string bytes) => bytes.length + 1
  | .lit _ => 1
  | .nil => 1
  | .ptr d => uptoBulk d + 1
  | .slice elems spare => uptoBulkAll elems + uptoBulkAll spare + 1
  | .agg parts => uptoBulkAll parts + 1
  | .iface _ d => uptoBulk d + 1
  | .map entries => uptoBulkEntries entries + 1
  | .held _ => 1
def uptoBulkAll {H : Type} : List (DataW H) → Nat
  | [] => 0
  | d :: r => uptoBulk d + uptoBulkAll r
def uptoBulkEntries {H : Type} : List (Lit × DataW H) → Nat
  | [] => 0
  | x :: r => uptoBulkEntry x + uptoBulkEntries r
def uptoBulkEntry {H : Type} : Lit × DataW H → Nat
  | (.string bytes, d) => bytes.length + uptoBulk d + 1
  | (_, d) => uptoBulk d + 1
 end
def uptoSmall : (H : Type) → List (DataW H) → Bool := fun _ ds => decide (uptoBulkAll ds ≤ 1048576)
def OpenSpec.upto (s : _root_.Go.ChangeSpec) : _root_.Go.OpenSpec := { _root_.Go.OpenSpec.ofChange s with cond := some uptoSmall }

/-- 'laws.FnExactDriveAt', WHERE WHAT IT READS IS OF BULK AT MOST 1048576: true; the input reads as it did. -/
def fnExactDriveAtUptoRow : OpenClaim := { program := "ytjfmcmdhkmcpiaa", sum := "fb46a6333d6ea4d04ed1435ca22e548303c5424fb46987110d2a8f707596ad4c", func := "loop.example/g01253/laws.FnExactDriveAt", spec := "fnExactDriveAt", inPlace := ["math.Float64frombits", "math.Float64bits", "math.archTrunc"], unfollowed := true, recurses := true, apart := false, narrowed := true }
def FnExactDriveAtUptoSaid : Prop := fnExactDriveAtUptoRow.holds Try.pinned (OpenSpec.upto fnExactDriveAtSpec)

/-- 'laws.FnExactPullAt', WHERE WHAT IT READS IS OF BULK AT MOST 1048576: true; the input reads as it did. -/
def fnExactPullAtUptoRow : OpenClaim := { program := "ytjfmcmdhkmcpiaa", sum := "fb46a6333d6ea4d04ed1435ca22e548303c5424fb46987110d2a8f707596ad4c", func := "loop.example/g01253/laws.FnExactPullAt", spec := "fnExactPullAt", inPlace := ["math.Float64frombits", "math.Float64bits", "math.archTrunc"], unfollowed := true, recurses := true, apart := false, narrowed := true }
def FnExactPullAtUptoSaid : Prop := fnExactPullAtUptoRow.holds Try.pinned (OpenSpec.upto fnExactPullAtSpec)

/-- 'laws.FnExactEnergyOfSwing', WHERE WHAT IT READS IS OF BULK AT MOST 1048576: true; the input reads as it did. -/
def fnExactEnergyOfSwingUptoRow : OpenClaim := { program := "ytjfmcmdhkmcpiaa", sum := "fb46a6333d6ea4d04ed1435ca22e548303c5424fb46987110d2a8f707596ad4c", func := "loop.example/g01253/laws.FnExactEnergyOfSwing", spec := "fnExactEnergyOfSwing", inPlace := ["math.Float64frombits", "math.Float64bits", "math.archTrunc"], unfollowed := true, recurses := true, apart := false, narrowed := true }
def FnExactEnergyOfSwingUptoSaid : Prop := fnExactEnergyOfSwingUptoRow.holds Try.pinned (OpenSpec.upto fnExactEnergyOfSwingSpec)

/-- 'laws.FnExactPlaceOfSwing', WHERE WHAT IT READS IS OF BULK AT MOST 1048576: true; the input reads as it did. -/
def fnExactPlaceOfSwingUptoRow : OpenClaim := { program := "ytjfmcmdhkmcpiaa", sum := "fb46a6333d6ea4d04ed1435ca22e548303c5424fb46987110d2a8f707596ad4c", func := "loop.example/g01253/laws.FnExactPlaceOfSwing", spec := "fnExactPlaceOfSwing", inPlace := ["math.Float64frombits", "math.Float64bits", "math.archTrunc"], unfollowed := true, recurses := true, apart := false, narrowed := true }
def FnExactPlaceOfSwingUptoSaid : Prop := fnExactPlaceOfSwingUptoRow.holds Try.pinned (OpenSpec.upto fnExactPlaceOfSwingSpec)

/-- 'laws.FnExactForceOn', WHERE WHAT IT READS IS OF BULK AT MOST 1048576: true; the input reads as it did. -/
def fnExactForceOnUptoRow : OpenClaim := { program := "ytjfmcmdhkmcpiaa", sum := "fb46a6333d6ea4d04ed1435ca22e548303c5424fb46987110d2a8f707596ad4c", func := "loop.example/g01253/laws.FnExactForceOn", spec := "fnExactForceOn", inPlace := ["math.Float64frombits", "math.Float64bits", "math.archTrunc"], unfollowed := true, recurses := true, apart := false, narrowed := true }
def FnExactForceOnUptoSaid : Prop := fnExactForceOnUptoRow.holds Try.pinned (OpenSpec.upto fnExactForceOnSpec)

/-- 'laws.FnExactLockApart', WHERE WHAT IT READS IS OF BULK AT MOST 1048576: true; the input reads as it did. -/
def fnExactLockApartUptoRow : OpenClaim := { program := "ytjfmcmdhkmcpiaa", sum := "fb46a6333d6ea4d04ed1435ca22e548303c5424fb46987110d2a8f707596ad4c", func := "loop.example/g01253/laws.FnExactLockApart", spec := "fnExactLockApart", inPlace := ["math.sqrt", "math.Float64frombits", "math.Float64bits", "math.Float32bits", "math.Float32frombits"], unfollowed := true, recurses := true, apart := false, narrowed := true }
def FnExactLockApartUptoSaid : Prop := fnExactLockApartUptoRow.holds Try.pinned (OpenSpec.upto fnExactLockApartSpec)

/-- 'laws.FnExactKickSwing', WHERE WHAT IT READS IS OF BULK AT MOST 1048576: true; the input reads as it did. -/
def fnExactKickSwingUptoRow : OpenClaim := { program := "ytjfmcmdhkmcpiaa", sum := "fb46a6333d6ea4d04ed1435ca22e548303c5424fb46987110d2a8f707596ad4c", func := "loop.example/g01253/laws.FnExactKickSwing", spec := "fnExactKickSwing", inPlace := ["math.Float64frombits", "math.Float64bits", "math.archTrunc"], unfollowed := true, recurses := true, apart := false, narrowed := true }
def FnExactKickSwingUptoSaid : Prop := fnExactKickSwingUptoRow.holds Try.pinned (OpenSpec.upto fnExactKickSwingSpec)

/-- 'laws.FnLocked', WHERE WHAT IT READS IS OF BULK AT MOST 1048576: true; the input reads as it did. -/
def fnLockedUptoRow : OpenClaim := { program := "ytjfmcmdhkmcpiaa", sum := "fb46a6333d6ea4d04ed1435ca22e548303c5424fb46987110d2a8f707596ad4c", func := "loop.example/g01253/laws.FnLocked", spec := "fnLocked", inPlace := ["math.Float32bits", "math.Float32frombits", "math.sqrt", "math.Float64frombits", "math.Float64bits"], unfollowed := true, recurses := true, apart := false, narrowed := true }
def FnLockedUptoSaid : Prop := fnLockedUptoRow.holds Try.pinned (OpenSpec.upto fnLockedSpec)

/-- 'laws.FnExactSpinAround', WHERE WHAT IT READS IS OF BULK AT MOST 1048576: true; the input reads as it did. -/
def fnExactSpinAroundUptoRow : OpenClaim := { program := "ytjfmcmdhkmcpiaa", sum := "fb46a6333d6ea4d04ed1435ca22e548303c5424fb46987110d2a8f707596ad4c", func := "loop.example/g01253/laws.FnExactSpinAround", spec := "fnExactSpinAround", inPlace := ["math.Float64frombits", "math.sqrt", "math.Float64bits", "math.archTrunc"], unfollowed := true, recurses := true, apart := false, narrowed := true }
def FnExactSpinAroundUptoSaid : Prop := fnExactSpinAroundUptoRow.holds Try.pinned (OpenSpec.upto fnExactSpinAroundSpec)

/-- 'laws.FnExactWidePeriod', WHERE WHAT IT READS IS OF BULK AT MOST 1048576: true; the input reads as it did. -/
def fnExactWidePeriodUptoRow : OpenClaim := { program := "ytjfmcmdhkmcpiaa", sum := "fb46a6333d6ea4d04ed1435ca22e548303c5424fb46987110d2a8f707596ad4c", func := "loop.example/g01253/laws.FnExactWidePeriod", spec := "fnExactWidePeriod", inPlace := ["math.Float64frombits", "math.sqrt", "math.Float64bits", "math.archTrunc"], unfollowed := true, recurses := true, apart := false, narrowed := true }
def FnExactWidePeriodUptoSaid : Prop := fnExactWidePeriodUptoRow.holds Try.pinned (OpenSpec.upto fnExactWidePeriodSpec)

/-- 'laws.FnExactSmallPeriod', WHERE WHAT IT READS IS OF BULK AT MOST 1048576: true; the input reads as it did. -/
def fnExactSmallPeriodUptoRow : OpenClaim := { program := "ytjfmcmdhkmcpiaa", sum := "fb46a6333d6ea4d04ed1435ca22e548303c5424fb46987110d2a8f707596ad4c", func := "loop.example/g01253/laws.FnExactSmallPeriod", spec := "fnExactSmallPeriod", inPlace := ["math.sqrt"], unfollowed := true, recurses := true, apart := false, narrowed := true }
def FnExactSmallPeriodUptoSaid : Prop := fnExactSmallPeriodUptoRow.holds Try.pinned (OpenSpec.upto fnExactSmallPeriodSpec)

/-- 'laws.FnExactAroundOf', WHERE WHAT IT READS IS OF BULK AT MOST 1048576: true; the input reads as it did. -/
def fnExactAroundOfUptoRow : OpenClaim := { program := "ytjfmcmdhkmcpiaa", sum := "fb46a6333d6ea4d04ed1435ca22e548303c5424fb46987110d2a8f707596ad4c", func := "loop.example/g01253/laws.FnExactAroundOf", spec := "fnExactAroundOf", inPlace := ["math.Float64frombits", "math.Float64bits", "math.sqrt"], unfollowed := true, recurses := true, apart := false, narrowed := true }
def FnExactAroundOfUptoSaid : Prop := fnExactAroundOfUptoRow.holds Try.pinned (OpenSpec.upto fnExactAroundOfSpec)

end Rows
end Go.Proofs.Ytjfmcmdhkmcpiaa
