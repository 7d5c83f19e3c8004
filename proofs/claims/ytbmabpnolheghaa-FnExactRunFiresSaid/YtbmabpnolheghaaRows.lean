/-
  No cell of these rows narrows 'for every input' (looked for: loops, veiled, ifaces, maps, wideKeys, modest, calm, conditions, laid).
  DERIVED. THE GIVEN ROWS OF THIS SEAT. 11 by the template 'for every input the law returns true; each argument reads behind the call as it read before'; 0 by the template 'total and deterministic' (their statements: YtbmabpnolheghaaTotals.lean).
  GIVEN WITH THE SEED: the statements are not yours to turn. If you find one false, say at which input.
  Laid BY PROGRAM, IN A SANDBOX (cutbox-rows.mjs): the forced cells as the released guide's own fill.sh prints them over the translation 14f1a508c77c537b… (all of the seat's roots in one cut). By AI agents, Wed Nov 11 2026. No macro, syntax, notation, axiom, sorry.
-/
import Derived.Test.YtbmabpnolheghaaChecked
import GoSem.Claim
import GoSem.ClaimJoined
import GoSem.ClaimMapViews
import Derived.JoinedTies
import Derived.KernelRfl
namespace Go.Proofs.Ytbmabpnolheghaa
/- THE CELL 'sum', in the pinned program and in every row, IS THE sha256 OF THE DUMP (.gsa) THAT YtbmabpnolheghaaProg.lean LOADS. Nothing in Lean hashes anything: it is a label: what it is worth is what the hold of that sum in a sandbox is worth. -/
noncomputable def Try.pinned : Pinned := { name := "ytbmabpnolheghaa", sum := "14f1a508c77c537bef2da8f79bcc8b264ba1922a5ca4a25dacfd42b61660036d", checked := Try.checked }
namespace Rows
def none {H : Type} : Left H := { results := [], args := [] }

/-- 'laws.FnExactValidRow': WHATEVER THE INPUT: true; the input reads as it did. -/
def fnExactValidRowSpec : ChangeSpec := { name := "fnExactValidRow", fn := fun _ => fun
  | [d] => { results := [.lit (.bool true)], args := [d] }
  | _ => none }
def fnExactValidRowRow : OpenClaim := { program := "ytbmabpnolheghaa", sum := "14f1a508c77c537bef2da8f79bcc8b264ba1922a5ca4a25dacfd42b61660036d", func := "loop.example/g01253/laws.FnExactValidRow", spec := "fnExactValidRow", unfollowed := true, recurses := true, apart := false }
def FnExactValidRowSaid : Prop := fnExactValidRowRow.holds Try.pinned (OpenSpec.ofChange fnExactValidRowSpec)

/-- ITS FALSE NEIGHBOUR: 'it returns false'. Refute it at one input. -/
def fnExactValidRowWrong : ChangeSpec := { name := "fnExactValidRow", fn := fun _ => fun
  | [d] => { results := [.lit (.bool false)], args := [d] }
  | _ => none }
def FnExactValidRowWrongFalsely : Prop := fnExactValidRowRow.holds Try.pinned (OpenSpec.ofChange fnExactValidRowWrong)

/-- 'laws.FnExactSameRow': WHATEVER THE INPUT: true; the input reads as it did. -/
def fnExactSameRowSpec : ChangeSpec := { name := "fnExactSameRow", fn := fun _ => fun
  | [d1, d2] => { results := [.lit (.bool true)], args := [d1, d2] }
  | _ => none }
def fnExactSameRowRow : OpenClaim := { program := "ytbmabpnolheghaa", sum := "14f1a508c77c537bef2da8f79bcc8b264ba1922a5ca4a25dacfd42b61660036d", func := "loop.example/g01253/laws.FnExactSameRow", spec := "fnExactSameRow", inPlace := ["math.Float32bits"], unfollowed := true, recurses := true, apart := false }
def FnExactSameRowSaid : Prop := fnExactSameRowRow.holds Try.pinned (OpenSpec.ofChange fnExactSameRowSpec)

/-- ITS FALSE NEIGHBOUR: 'it returns false'. Refute it at one input. -/
def fnExactSameRowWrong : ChangeSpec := { name := "fnExactSameRow", fn := fun _ => fun
  | [d1, d2] => { results := [.lit (.bool false)], args := [d1, d2] }
  | _ => none }
def FnExactSameRowWrongFalsely : Prop := fnExactSameRowRow.holds Try.pinned (OpenSpec.ofChange fnExactSameRowWrong)

/-- 'laws.FnExactIsApart': WHATEVER THE INPUT: true; the input reads as it did. -/
def fnExactIsApartSpec : ChangeSpec := { name := "fnExactIsApart", fn := fun _ => fun
  | [d] => { results := [.lit (.bool true)], args := [d] }
  | _ => none }
def fnExactIsApartRow : OpenClaim := { program := "ytbmabpnolheghaa", sum := "14f1a508c77c537bef2da8f79bcc8b264ba1922a5ca4a25dacfd42b61660036d", func := "loop.example/g01253/laws.FnExactIsApart", spec := "fnExactIsApart", unfollowed := true, recurses := true, apart := false }
def FnExactIsApartSaid : Prop := fnExactIsApartRow.holds Try.pinned (OpenSpec.ofChange fnExactIsApartSpec)

/-- ITS FALSE NEIGHBOUR: 'it returns false'. Refute it at one input. -/
def fnExactIsApartWrong : ChangeSpec := { name := "fnExactIsApart", fn := fun _ => fun
  | [d] => { results := [.lit (.bool false)], args := [d] }
  | _ => none }
def FnExactIsApartWrongFalsely : Prop := fnExactIsApartRow.holds Try.pinned (OpenSpec.ofChange fnExactIsApartWrong)

/-- 'laws.FnExactVectorText': WHATEVER THE INPUT: true; the input reads as it did. -/
def fnExactVectorTextSpec : ChangeSpec := { name := "fnExactVectorText", fn := fun _ => fun
  | [d] => { results := [.lit (.bool true)], args := [d] }
  | _ => none }
def fnExactVectorTextRow : OpenClaim := { program := "ytbmabpnolheghaa", sum := "14f1a508c77c537bef2da8f79bcc8b264ba1922a5ca4a25dacfd42b61660036d", func := "loop.example/g01253/laws.FnExactVectorText", spec := "fnExactVectorText", inPlace := ["math.Float32bits", "internal/abi.NoEscape", "internal/bytealg.MakeNoZero"], apart := false }
def FnExactVectorTextSaid : Prop := fnExactVectorTextRow.holds Try.pinned (OpenSpec.ofChange fnExactVectorTextSpec)

/-- ITS FALSE NEIGHBOUR: 'it returns false'. Refute it at one input. -/
def fnExactVectorTextWrong : ChangeSpec := { name := "fnExactVectorText", fn := fun _ => fun
  | [d] => { results := [.lit (.bool false)], args := [d] }
  | _ => none }
def FnExactVectorTextWrongFalsely : Prop := fnExactVectorTextRow.holds Try.pinned (OpenSpec.ofChange fnExactVectorTextWrong)

/-- 'laws.FnExactValidClocks': WHATEVER THE INPUT: true; the input reads as it did. -/
def fnExactValidClocksSpec : ChangeSpec := { name := "fnExactValidClocks", fn := fun _ => fun
  | [d] => { results := [.lit (.bool true)], args := [d] }
  | _ => none }
def fnExactValidClocksRow : OpenClaim := { program := "ytbmabpnolheghaa", sum := "14f1a508c77c537bef2da8f79bcc8b264ba1922a5ca4a25dacfd42b61660036d", func := "loop.example/g01253/laws.FnExactValidClocks", spec := "fnExactValidClocks", unfollowed := true, recurses := true, apart := false }
def FnExactValidClocksSaid : Prop := fnExactValidClocksRow.holds Try.pinned (OpenSpec.ofChange fnExactValidClocksSpec)

/-- ITS FALSE NEIGHBOUR: 'it returns false'. Refute it at one input. -/
def fnExactValidClocksWrong : ChangeSpec := { name := "fnExactValidClocks", fn := fun _ => fun
  | [d] => { results := [.lit (.bool false)], args := [d] }
  | _ => none }
def FnExactValidClocksWrongFalsely : Prop := fnExactValidClocksRow.holds Try.pinned (OpenSpec.ofChange fnExactValidClocksWrong)

/-- 'laws.FnExactSameClocks': WHATEVER THE INPUT: true; the input reads as it did. -/
def fnExactSameClocksSpec : ChangeSpec := { name := "fnExactSameClocks", fn := fun _ => fun
  | [d1, d2] => { results := [.lit (.bool true)], args := [d1, d2] }
  | _ => none }
def fnExactSameClocksRow : OpenClaim := { program := "ytbmabpnolheghaa", sum := "14f1a508c77c537bef2da8f79bcc8b264ba1922a5ca4a25dacfd42b61660036d", func := "loop.example/g01253/laws.FnExactSameClocks", spec := "fnExactSameClocks", inPlace := ["math.Float32bits"], unfollowed := true, recurses := true, apart := false }
def FnExactSameClocksSaid : Prop := fnExactSameClocksRow.holds Try.pinned (OpenSpec.ofChange fnExactSameClocksSpec)

/-- ITS FALSE NEIGHBOUR: 'it returns false'. Refute it at one input. -/
def fnExactSameClocksWrong : ChangeSpec := { name := "fnExactSameClocks", fn := fun _ => fun
  | [d1, d2] => { results := [.lit (.bool false)], args := [d1, d2] }
  | _ => none }
def FnExactSameClocksWrongFalsely : Prop := fnExactSameClocksRow.holds Try.pinned (OpenSpec.ofChange fnExactSameClocksWrong)

/-- 'laws.FnExactSameChain': WHATEVER THE INPUT: true; the input reads as it did. -/
def fnExactSameChainSpec : ChangeSpec := { name := "fnExactSameChain", fn := fun _ => fun
  | [d1, d2] => { results := [.lit (.bool true)], args := [d1, d2] }
  | _ => none }
def fnExactSameChainRow : OpenClaim := { program := "ytbmabpnolheghaa", sum := "14f1a508c77c537bef2da8f79bcc8b264ba1922a5ca4a25dacfd42b61660036d", func := "loop.example/g01253/laws.FnExactSameChain", spec := "fnExactSameChain", inPlace := ["math.Float32bits"], unfollowed := true, recurses := true, apart := false }
def FnExactSameChainSaid : Prop := fnExactSameChainRow.holds Try.pinned (OpenSpec.ofChange fnExactSameChainSpec)

/-- ITS FALSE NEIGHBOUR: 'it returns false'. Refute it at one input. -/
def fnExactSameChainWrong : ChangeSpec := { name := "fnExactSameChain", fn := fun _ => fun
  | [d1, d2] => { results := [.lit (.bool false)], args := [d1, d2] }
  | _ => none }
def FnExactSameChainWrongFalsely : Prop := fnExactSameChainRow.holds Try.pinned (OpenSpec.ofChange fnExactSameChainWrong)

/-- 'laws.FnExactNormSpin': WHATEVER THE INPUT: true; the input reads as it did. -/
def fnExactNormSpinSpec : ChangeSpec := { name := "fnExactNormSpin", fn := fun _ => fun
  | [d] => { results := [.lit (.bool true)], args := [d] }
  | _ => none }
def fnExactNormSpinRow : OpenClaim := { program := "ytbmabpnolheghaa", sum := "14f1a508c77c537bef2da8f79bcc8b264ba1922a5ca4a25dacfd42b61660036d", func := "loop.example/g01253/laws.FnExactNormSpin", spec := "fnExactNormSpin", inPlace := ["math.sqrt"], unfollowed := true, recurses := true, apart := false }
def FnExactNormSpinSaid : Prop := fnExactNormSpinRow.holds Try.pinned (OpenSpec.ofChange fnExactNormSpinSpec)

/-- ITS FALSE NEIGHBOUR: 'it returns false'. Refute it at one input. -/
def fnExactNormSpinWrong : ChangeSpec := { name := "fnExactNormSpin", fn := fun _ => fun
  | [d] => { results := [.lit (.bool false)], args := [d] }
  | _ => none }
def FnExactNormSpinWrongFalsely : Prop := fnExactNormSpinRow.holds Try.pinned (OpenSpec.ofChange fnExactNormSpinWrong)

/-- 'laws.FnExactRunClocks': WHATEVER THE INPUT: true; the input reads as it did. -/
def fnExactRunClocksSpec : ChangeSpec := { name := "fnExactRunClocks", fn := fun _ => fun
  | [d1, d2, d3] => { results := [.lit (.bool true)], args := [d1, d2, d3] }
  | _ => none }
def fnExactRunClocksRow : OpenClaim := { program := "ytbmabpnolheghaa", sum := "14f1a508c77c537bef2da8f79bcc8b264ba1922a5ca4a25dacfd42b61660036d", func := "loop.example/g01253/laws.FnExactRunClocks", spec := "fnExactRunClocks", inPlace := ["math.Float64frombits", "math.archFloor", "math.Float64bits", "math.archTrunc", "math.sqrt"], unfollowed := true, recurses := true, apart := false }
def FnExactRunClocksSaid : Prop := fnExactRunClocksRow.holds Try.pinned (OpenSpec.ofChange fnExactRunClocksSpec)

/-- ITS FALSE NEIGHBOUR: 'it returns false'. Refute it at one input. -/
def fnExactRunClocksWrong : ChangeSpec := { name := "fnExactRunClocks", fn := fun _ => fun
  | [d1, d2, d3] => { results := [.lit (.bool false)], args := [d1, d2, d3] }
  | _ => none }
def FnExactRunClocksWrongFalsely : Prop := fnExactRunClocksRow.holds Try.pinned (OpenSpec.ofChange fnExactRunClocksWrong)

/-- 'laws.FnExactRunFires': WHATEVER THE INPUT: true; the input reads as it did. -/
def fnExactRunFiresSpec : ChangeSpec := { name := "fnExactRunFires", fn := fun _ => fun
  | [d1, d2, d3] => { results := [.lit (.bool true)], args := [d1, d2, d3] }
  | _ => none }
def fnExactRunFiresRow : OpenClaim := { program := "ytbmabpnolheghaa", sum := "14f1a508c77c537bef2da8f79bcc8b264ba1922a5ca4a25dacfd42b61660036d", func := "loop.example/g01253/laws.FnExactRunFires", spec := "fnExactRunFires", unfollowed := true, recurses := true, apart := false }
def FnExactRunFiresSaid : Prop := fnExactRunFiresRow.holds Try.pinned (OpenSpec.ofChange fnExactRunFiresSpec)

/-- ITS FALSE NEIGHBOUR: 'it returns false'. Refute it at one input. -/
def fnExactRunFiresWrong : ChangeSpec := { name := "fnExactRunFires", fn := fun _ => fun
  | [d1, d2, d3] => { results := [.lit (.bool false)], args := [d1, d2, d3] }
  | _ => none }
def FnExactRunFiresWrongFalsely : Prop := fnExactRunFiresRow.holds Try.pinned (OpenSpec.ofChange fnExactRunFiresWrong)

/-- 'laws.FnExactFireNext': WHATEVER THE INPUT: true; the input reads as it did. -/
def fnExactFireNextSpec : ChangeSpec := { name := "fnExactFireNext", fn := fun _ => fun
  | [d1, d2] => { results := [.lit (.bool true)], args := [d1, d2] }
  | _ => none }
def fnExactFireNextRow : OpenClaim := { program := "ytbmabpnolheghaa", sum := "14f1a508c77c537bef2da8f79bcc8b264ba1922a5ca4a25dacfd42b61660036d", func := "loop.example/g01253/laws.FnExactFireNext", spec := "fnExactFireNext", unfollowed := true, recurses := true, apart := false }
def FnExactFireNextSaid : Prop := fnExactFireNextRow.holds Try.pinned (OpenSpec.ofChange fnExactFireNextSpec)

/-- ITS FALSE NEIGHBOUR: 'it returns false'. Refute it at one input. -/
def fnExactFireNextWrong : ChangeSpec := { name := "fnExactFireNext", fn := fun _ => fun
  | [d1, d2] => { results := [.lit (.bool false)], args := [d1, d2] }
  | _ => none }
def FnExactFireNextWrongFalsely : Prop := fnExactFireNextRow.holds Try.pinned (OpenSpec.ofChange fnExactFireNextWrong)

/- THE SECOND FORM. 'bulk': how many values and letters a reading holds, each counted each time it is reached (what is shared counts as often as it is met; a slice's spare places count too). A statement '..UptoSaid' is the law's where the arguments, and the package variables that the reading takes, are together of bulk at most 1048576: NARROWER than '..Said'. Prove '..Said' where nothing that the law and all that it calls make is longer than what came in: it says more and counts as full. Else prove '..UptoSaid'. A law counts once. -/
mutual
def uptoBulk {H : Type} : DataW H → Nat
  | .lit (.string bytes) => bytes.length + 1
  | .lit _ => 1
  | .nil => 1
  | .ptr d => uptoBulk d + 1
  | .slice elems spare => uptoBulkAll elems + uptoBulkAll spare + 1
  | .agg parts => uptoBulkAll parts + 1
  | .iface _ d => uptoBulk d + 1
  | .map entries => uptoBulkEntries entries + 1
  | .held _ => 1
def uptoBulkAll {H : Type} : List (DataW H) → Nat
  | [] => 0
  | d :: r => uptoBulk d + uptoBulkAll r
def uptoBulkEntries {H : Type} : List (Lit × DataW H) → Nat
  | [] => 0
  | x :: r => uptoBulkEntry x + uptoBulkEntries r
def uptoBulkEntry {H : Type} : Lit × DataW H → Nat
  | (.string bytes, d) => bytes.length + uptoBulk d + 1
  | (_, d) => uptoBulk d + 1
 end
def uptoSmall : (H : Type) → List (DataW H) → Bool := fun _ ds => decide (uptoBulkAll ds ≤ 1048576)
def OpenSpec.upto (s : _root_.Go.ChangeSpec) : _root_.Go.OpenSpec := { _root_.Go.OpenSpec.ofChange s with cond := some uptoSmall }

/-- 'laws.FnExactValidRow', WHERE WHAT IT READS IS OF BULK AT MOST 1048576: true; the input reads as it did. -/
def fnExactValidRowUptoRow : OpenClaim := { program := "ytbmabpnolheghaa", sum := "14f1a508c77c537bef2da8f79bcc8b264ba1922a5ca4a25dacfd42b61660036d", func := "loop.example/g01253/laws.FnExactValidRow", spec := "fnExactValidRow", unfollowed := true, recurses := true, apart := false, narrowed := true }
def FnExactValidRowUptoSaid : Prop := fnExactValidRowUptoRow.holds Try.pinned (OpenSpec.upto fnExactValidRowSpec)

/-- 'laws.FnExactSameRow', WHERE WHAT IT READS IS OF BULK AT MOST 1048576: true; the input reads as it did. -/
def fnExactSameRowUptoRow : OpenClaim := { program := "ytbmabpnolheghaa", sum := "14f1a508c77c537bef2da8f79bcc8b264ba1922a5ca4a25dacfd42b61660036d", func := "loop.example/g01253/laws.FnExactSameRow", spec := "fnExactSameRow", inPlace := ["math.Float32bits"], unfollowed := true, recurses := true, apart := false, narrowed := true }
def FnExactSameRowUptoSaid : Prop := fnExactSameRowUptoRow.holds Try.pinned (OpenSpec.upto fnExactSameRowSpec)

/-- 'laws.FnExactIsApart', WHERE WHAT IT READS IS OF BULK AT MOST 1048576: true; the input reads as it did. -/
def fnExactIsApartUptoRow : OpenClaim := { program := "ytbmabpnolheghaa", sum := "14f1a508c77c537bef2da8f79bcc8b264ba1922a5ca4a25dacfd42b61660036d", func := "loop.example/g01253/laws.FnExactIsApart", spec := "fnExactIsApart", unfollowed := true, recurses := true, apart := false, narrowed := true }
def FnExactIsApartUptoSaid : Prop := fnExactIsApartUptoRow.holds Try.pinned (OpenSpec.upto fnExactIsApartSpec)

/-- 'laws.FnExactVectorText', WHERE WHAT IT READS IS OF BULK AT MOST 1048576: true; the input reads as it did. -/
def fnExactVectorTextUptoRow : OpenClaim := { program := "ytbmabpnolheghaa", sum := "14f1a508c77c537bef2da8f79bcc8b264ba1922a5ca4a25dacfd42b61660036d", func := "loop.example/g01253/laws.FnExactVectorText", spec := "fnExactVectorText", inPlace := ["math.Float32bits", "internal/abi.NoEscape", "internal/bytealg.MakeNoZero"], apart := false, narrowed := true }
def FnExactVectorTextUptoSaid : Prop := fnExactVectorTextUptoRow.holds Try.pinned (OpenSpec.upto fnExactVectorTextSpec)

/-- 'laws.FnExactValidClocks', WHERE WHAT IT READS IS OF BULK AT MOST 1048576: true; the input reads as it did. -/
def fnExactValidClocksUptoRow : OpenClaim := { program := "ytbmabpnolheghaa", sum := "14f1a508c77c537bef2da8f79bcc8b264ba1922a5ca4a25dacfd42b61660036d", func := "loop.example/g01253/laws.FnExactValidClocks", spec := "fnExactValidClocks", unfollowed := true, recurses := true, apart := false, narrowed := true }
def FnExactValidClocksUptoSaid : Prop := fnExactValidClocksUptoRow.holds Try.pinned (OpenSpec.upto fnExactValidClocksSpec)

/-- 'laws.FnExactSameClocks', WHERE WHAT IT READS IS OF BULK AT MOST 1048576: true; the input reads as it did. -/
def fnExactSameClocksUptoRow : OpenClaim := { program := "ytbmabpnolheghaa", sum := "14f1a508c77c537bef2da8f79bcc8b264ba1922a5ca4a25dacfd42b61660036d", func := "loop.example/g01253/laws.FnExactSameClocks", spec := "fnExactSameClocks", inPlace := ["math.Float32bits"], unfollowed := true, recurses := true, apart := false, narrowed := true }
def FnExactSameClocksUptoSaid : Prop := fnExactSameClocksUptoRow.holds Try.pinned (OpenSpec.upto fnExactSameClocksSpec)

/-- 'laws.FnExactSameChain', WHERE WHAT IT READS IS OF BULK AT MOST 1048576: true; the input reads as it did. -/
def fnExactSameChainUptoRow : OpenClaim := { program := "ytbmabpnolheghaa", sum := "14f1a508c77c537bef2da8f79bcc8b264ba1922a5ca4a25dacfd42b61660036d", func := "loop.example/g01253/laws.FnExactSameChain", spec := "fnExactSameChain", inPlace := ["math.Float32bits"], unfollowed := true, recurses := true, apart := false, narrowed := true }
def FnExactSameChainUptoSaid : Prop := fnExactSameChainUptoRow.holds Try.pinned (OpenSpec.upto fnExactSameChainSpec)

/-- 'laws.FnExactNormSpin', WHERE WHAT IT READS IS OF BULK AT MOST 1048576: true; the input reads as it did. -/
def fnExactNormSpinUptoRow : OpenClaim := { program := "ytbmabpnolheghaa", sum := "14f1a508c77c537bef2da8f79bcc8b264ba1922a5ca4a25dacfd42b61660036d", func := "loop.example/g01253/laws.FnExactNormSpin", spec := "fnExactNormSpin", inPlace := ["math.sqrt"], unfollowed := true, recurses := true, apart := false, narrowed := true }
def FnExactNormSpinUptoSaid : Prop := fnExactNormSpinUptoRow.holds Try.pinned (OpenSpec.upto fnExactNormSpinSpec)

/-- 'laws.FnExactRunClocks', WHERE WHAT IT READS IS OF BULK AT MOST 1048576: true; the input reads as it did. -/
def fnExactRunClocksUptoRow : OpenClaim := { program := "ytbmabpnolheghaa", sum := "14f1a508c77c537bef2da8f79bcc8b264ba1922a5ca4a25dacfd42b61660036d", func := "loop.example/g01253/laws.FnExactRunClocks", spec := "fnExactRunClocks", inPlace := ["math.Float64frombits", "math.archFloor", "math.Float64bits", "math.archTrunc", "math.sqrt"], unfollowed := true, recurses := true, apart := false, narrowed := true }
def FnExactRunClocksUptoSaid : Prop := fnExactRunClocksUptoRow.holds Try.pinned (OpenSpec.upto fnExactRunClocksSpec)

/-- 'laws.FnExactRunFires', WHERE WHAT IT READS IS OF BULK AT MOST 1048576: true; the input reads as it did. -/
def fnExactRunFiresUptoRow : OpenClaim := { program := "ytbmabpnolheghaa", sum := "14f1a508c77c537bef2da8f79bcc8b264ba1922a5ca4a25dacfd42b61660036d", func := "loop.example/g01253/laws.FnExactRunFires", spec := "fnExactRunFires", unfollowed := true, recurses := true, apart := false, narrowed := true }
def FnExactRunFiresUptoSaid : Prop := fnExactRunFiresUptoRow.holds Try.pinned (OpenSpec.upto fnExactRunFiresSpec)

/-- 'laws.FnExactFireNext', WHERE WHAT IT READS IS OF BULK AT MOST 1048576: true; the input reads as it did. -/
def fnExactFireNextUptoRow : OpenClaim := { program := "ytbmabpnolheghaa", sum := "14f1a508c77c537bef2da8f79bcc8b264ba1922a5ca4a25dacfd42b61660036d", func := "loop.example/g01253/laws.FnExactFireNext", spec := "fnExactFireNext", unfollowed := true, recurses := true, apart := false, narrowed := true }
def FnExactFireNextUptoSaid : Prop := fnExactFireNextUptoRow.holds Try.pinned (OpenSpec.upto fnExactFireNextSpec)

end Rows
end Go.Proofs.Ytbmabpnolheghaa
