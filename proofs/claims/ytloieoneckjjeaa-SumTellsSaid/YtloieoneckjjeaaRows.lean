/-
  No cell of these rows narrows 'for every input' (looked for: loops, veiled, ifaces, maps, wideKeys, modest, calm, conditions, laid).
  DERIVED. THE GIVEN ROWS OF THIS SEAT. 6 by the template 'for every input the law returns true; each argument reads behind the call as it read before'; 0 by the template 'total and deterministic' (their statements: YtloieoneckjjeaaTotals.lean).
  GIVEN WITH THE SEED: the statements are not yours to turn. If you find one false, say at which input.
  Laid BY PROGRAM, IN A SANDBOX (cutbox-rows.mjs): the forced cells as the released guide's own fill.sh prints them over the translation f10bb51e63397b4e… (all of the seat's roots in one cut). By AI agents, Wed Nov 11 2026. No macro, syntax, notation, axiom, sorry.
-/
import Derived.Test.YtloieoneckjjeaaChecked
import GoSem.Claim
import GoSem.ClaimJoined
import GoSem.ClaimMapViews
import Derived.JoinedTies
import Derived.KernelRfl
namespace Go.Proofs.Ytloieoneckjjeaa
/- THE CELL 'sum', in the pinned program and in every row, IS THE sha256 OF THE DUMP (.gsa) THAT YtloieoneckjjeaaProg.lean LOADS. Nothing in Lean hashes anything: it is a label: what it is worth is what the hold of that sum in a sandbox is worth. -/
noncomputable def Try.pinned : Pinned := { name := "ytloieoneckjjeaa", sum := "f10bb51e63397b4e2815274c8ad4df091dff398ca0a493f7b4af30f27d139ec2", checked := Try.checked }
namespace Rows
def none {H : Type} : Left H := { results := [], args := [] }

/-- 'agoralaw03.SumTells': WHATEVER THE INPUT: true; the input reads as it did. -/
def sumTellsSpec : ChangeSpec := { name := "sumTells", fn := fun _ => fun
  | [d] => { results := [.lit (.bool true)], args := [d] }
  | _ => none }
def sumTellsRow : OpenClaim := { program := "ytloieoneckjjeaa", sum := "f10bb51e63397b4e2815274c8ad4df091dff398ca0a493f7b4af30f27d139ec2", func := "agora/agoralaw03.SumTells", spec := "sumTells", inPlace := ["internal/bytealg.IndexByteString", "internal/abi.NoEscape"], apart := false }
def SumTellsSaid : Prop := sumTellsRow.holds Try.pinned (OpenSpec.ofChange sumTellsSpec)

/-- ITS FALSE NEIGHBOUR: 'it returns false'. Refute it at one input. -/
def sumTellsWrong : ChangeSpec := { name := "sumTells", fn := fun _ => fun
  | [d] => { results := [.lit (.bool false)], args := [d] }
  | _ => none }
def SumTellsWrongFalsely : Prop := sumTellsRow.holds Try.pinned (OpenSpec.ofChange sumTellsWrong)

/-- 'agoralaw03.SumHexes': WHATEVER THE INPUT: true; the input reads as it did. -/
def sumHexesSpec : ChangeSpec := { name := "sumHexes", fn := fun _ => fun
  | [d1, d2] => { results := [.lit (.bool true)], args := [d1, d2] }
  | _ => none }
def sumHexesRow : OpenClaim := { program := "ytloieoneckjjeaa", sum := "f10bb51e63397b4e2815274c8ad4df091dff398ca0a493f7b4af30f27d139ec2", func := "agora/agoralaw03.SumHexes", spec := "sumHexes", inPlace := ["internal/bytealg.IndexByteString", "internal/abi.NoEscape"], apart := false }
def SumHexesSaid : Prop := sumHexesRow.holds Try.pinned (OpenSpec.ofChange sumHexesSpec)

/-- ITS FALSE NEIGHBOUR: 'it returns false'. Refute it at one input. -/
def sumHexesWrong : ChangeSpec := { name := "sumHexes", fn := fun _ => fun
  | [d1, d2] => { results := [.lit (.bool false)], args := [d1, d2] }
  | _ => none }
def SumHexesWrongFalsely : Prop := sumHexesRow.holds Try.pinned (OpenSpec.ofChange sumHexesWrong)

/-- 'agoralaw03.SumDetects': WHATEVER THE INPUT: true; the input reads as it did. -/
def sumDetectsSpec : ChangeSpec := { name := "sumDetects", fn := fun _ => fun
  | [d1, d2, d3] => { results := [.lit (.bool true)], args := [d1, d2, d3] }
  | _ => none }
def sumDetectsRow : OpenClaim := { program := "ytloieoneckjjeaa", sum := "f10bb51e63397b4e2815274c8ad4df091dff398ca0a493f7b4af30f27d139ec2", func := "agora/agoralaw03.SumDetects", spec := "sumDetects", inPlace := ["internal/bytealg.IndexByteString", "internal/abi.NoEscape"], apart := false }
def SumDetectsSaid : Prop := sumDetectsRow.holds Try.pinned (OpenSpec.ofChange sumDetectsSpec)

/-- ITS FALSE NEIGHBOUR: 'it returns false'. Refute it at one input. -/
def sumDetectsWrong : ChangeSpec := { name := "sumDetects", fn := fun _ => fun
  | [d1, d2, d3] => { results := [.lit (.bool false)], args := [d1, d2, d3] }
  | _ => none }
def SumDetectsWrongFalsely : Prop := sumDetectsRow.holds Try.pinned (OpenSpec.ofChange sumDetectsWrong)

/-- 'agoralaw03.SumResidue': WHATEVER THE INPUT: true; the input reads as it did. -/
def sumResidueSpec : ChangeSpec := { name := "sumResidue", fn := fun _ => fun
  | [d1, d2] => { results := [.lit (.bool true)], args := [d1, d2] }
  | _ => none }
def sumResidueRow : OpenClaim := { program := "ytloieoneckjjeaa", sum := "f10bb51e63397b4e2815274c8ad4df091dff398ca0a493f7b4af30f27d139ec2", func := "agora/agoralaw03.SumResidue", spec := "sumResidue", inPlace := ["internal/bytealg.IndexByteString", "internal/abi.NoEscape"], apart := false }
def SumResidueSaid : Prop := sumResidueRow.holds Try.pinned (OpenSpec.ofChange sumResidueSpec)

/-- ITS FALSE NEIGHBOUR: 'it returns false'. Refute it at one input. -/
def sumResidueWrong : ChangeSpec := { name := "sumResidue", fn := fun _ => fun
  | [d1, d2] => { results := [.lit (.bool false)], args := [d1, d2] }
  | _ => none }
def SumResidueWrongFalsely : Prop := sumResidueRow.holds Try.pinned (OpenSpec.ofChange sumResidueWrong)

/-- 'agoralaw03.SumXors': WHATEVER THE INPUT: true; the input reads as it did. -/
def sumXorsSpec : ChangeSpec := { name := "sumXors", fn := fun _ => fun
  | [d1, d2, d3] => { results := [.lit (.bool true)], args := [d1, d2, d3] }
  | _ => none }
def sumXorsRow : OpenClaim := { program := "ytloieoneckjjeaa", sum := "f10bb51e63397b4e2815274c8ad4df091dff398ca0a493f7b4af30f27d139ec2", func := "agora/agoralaw03.SumXors", spec := "sumXors", inPlace := ["internal/bytealg.IndexByteString", "internal/abi.NoEscape"], apart := false }
def SumXorsSaid : Prop := sumXorsRow.holds Try.pinned (OpenSpec.ofChange sumXorsSpec)

/-- ITS FALSE NEIGHBOUR: 'it returns false'. Refute it at one input. -/
def sumXorsWrong : ChangeSpec := { name := "sumXors", fn := fun _ => fun
  | [d1, d2, d3] => { results := [.lit (.bool false)], args := [d1, d2, d3] }
  | _ => none }
def SumXorsWrongFalsely : Prop := sumXorsRow.holds Try.pinned (OpenSpec.ofChange sumXorsWrong)

/-- 'agoralaw03.SumNumbers': WHATEVER THE INPUT: true; the input reads as it did. -/
def sumNumbersSpec : ChangeSpec := { name := "sumNumbers", fn := fun _ => fun
  | [d1, d2, d3] => { results := [.lit (.bool true)], args := [d1, d2, d3] }
  | _ => none }
def sumNumbersRow : OpenClaim := { program := "ytloieoneckjjeaa", sum := "f10bb51e63397b4e2815274c8ad4df091dff398ca0a493f7b4af30f27d139ec2", func := "agora/agoralaw03.SumNumbers", spec := "sumNumbers", inPlace := ["internal/bytealg.IndexByteString", "internal/abi.NoEscape"], apart := false }
def SumNumbersSaid : Prop := sumNumbersRow.holds Try.pinned (OpenSpec.ofChange sumNumbersSpec)

/-- ITS FALSE NEIGHBOUR: 'it returns false'. Refute it at one input. -/
def sumNumbersWrong : ChangeSpec := { name := "sumNumbers", fn := fun _ => fun
  | [d1, d2, d3] => { results := [.lit (.bool false)], args := [d1, d2, d3] }
  | _ => none }
def SumNumbersWrongFalsely : Prop := sumNumbersRow.holds Try.pinned (OpenSpec.ofChange sumNumbersWrong)

/- THE SECOND FORM. 'bulk': how many values and letters a reading holds, each counted each time it is reached (what is shared counts as often as it is met; a slice's spare places count too). A statement '..UptoSaid' is the law's where the arguments, and the package variables that the reading takes, are together of bulk at most 1048576: NARROWER than '..Said'. Prove '..Said' where nothing that the law and all that it calls make is longer than what came in: it says more and counts as full. Else prove '..UptoSaid'. A law counts once. -/
mutual
def uptoBulk {H : Type} : DataW H → Nat
  | .lit (.string bytes) => bytes.length + 1
  | .lit _ => 1
  | .nil => 1
  | .ptr d => uptoBulk d + 1
  | .slice elems spare => uptoBulkAll elems + uptoBulkAll spare + 1
  | .agg parts => uptoBulkAll parts + 1
  | .iface _ d => uptoBulk d + 1
  | .map entries => uptoBulkEntries entries + 1
  | .held _ => 1
def uptoBulkAll {H : Type} : List (DataW H) → Nat
  | [] => 0
  | d :: r => uptoBulk d + uptoBulkAll r
def uptoBulkEntries {H : Type} : List (Lit × DataW H) → Nat
  | [] => 0
  | x :: r => uptoBulkEntry x + uptoBulkEntries r
def uptoBulkEntry {H : Type} : Lit × DataW H → Nat
  | (.string bytes, d) => bytes.length + uptoBulk d + 1
  | (_, d) => uptoBulk d + 1
 end
def uptoSmall : (H : Type) → List (DataW H) → Bool := fun _ ds => decide (uptoBulkAll ds ≤ 1048576)
def OpenSpec.upto (s : _root_.Go.ChangeSpec) : _root_.Go.OpenSpec := { _root_.Go.OpenSpec.ofChange s with cond := some uptoSmall }

/-- 'agoralaw03.SumTells', WHERE WHAT IT READS IS OF BULK AT MOST 1048576: true; the input reads as it did. -/
def sumTellsUptoRow : OpenClaim := { program := "ytloieoneckjjeaa", sum := "f10bb51e63397b4e2815274c8ad4df091dff398ca0a493f7b4af30f27d139ec2", func := "agora/agoralaw03.SumTells", spec := "sumTells", inPlace := ["internal/bytealg.IndexByteString", "internal/abi.NoEscape"], apart := false, narrowed := true }
def SumTellsUptoSaid : Prop := sumTellsUptoRow.holds Try.pinned (OpenSpec.upto sumTellsSpec)

/-- 'agoralaw03.SumHexes', WHERE WHAT IT READS IS OF BULK AT MOST 1048576: true; the input reads as it did. -/
def sumHexesUptoRow : OpenClaim := { program := "ytloieoneckjjeaa", sum := "f10bb51e63397b4e2815274c8ad4df091dff398ca0a493f7b4af30f27d139ec2", func := "agora/agoralaw03.SumHexes", spec := "sumHexes", inPlace := ["internal/bytealg.IndexByteString", "internal/abi.NoEscape"], apart := false, narrowed := true }
def SumHexesUptoSaid : Prop := sumHexesUptoRow.holds Try.pinned (OpenSpec.upto sumHexesSpec)

/-- 'agoralaw03.SumDetects', WHERE WHAT IT READS IS OF BULK AT MOST 1048576: true; the input reads as it did. -/
def sumDetectsUptoRow : OpenClaim := { program := "ytloieoneckjjeaa", sum := "f10bb51e63397b4e2815274c8ad4df091dff398ca0a493f7b4af30f27d139ec2", func := "agora/agoralaw03.SumDetects", spec := "sumDetects", inPlace := ["internal/bytealg.IndexByteString", "internal/abi.NoEscape"], apart := false, narrowed := true }
def SumDetectsUptoSaid : Prop := sumDetectsUptoRow.holds Try.pinned (OpenSpec.upto sumDetectsSpec)

/-- 'agoralaw03.SumResidue', WHERE WHAT IT READS IS OF BULK AT MOST 1048576: true; the input reads as it did. -/
def sumResidueUptoRow : OpenClaim := { program := "ytloieoneckjjeaa", sum := "f10bb51e63397b4e2815274c8ad4df091dff398ca0a493f7b4af30f27d139ec2", func := "agora/agoralaw03.SumResidue", spec := "sumResidue", inPlace := ["internal/bytealg.IndexByteString", "internal/abi.NoEscape"], apart := false, narrowed := true }
def SumResidueUptoSaid : Prop := sumResidueUptoRow.holds Try.pinned (OpenSpec.upto sumResidueSpec)

/-- 'agoralaw03.SumXors', WHERE WHAT IT READS IS OF BULK AT MOST 1048576: true; the input reads as it did. -/
def sumXorsUptoRow : OpenClaim := { program := "ytloieoneckjjeaa", sum := "f10bb51e63397b4e2815274c8ad4df091dff398ca0a493f7b4af30f27d139ec2", func := "agora/agoralaw03.SumXors", spec := "sumXors", inPlace := ["internal/bytealg.IndexByteString", "internal/abi.NoEscape"], apart := false, narrowed := true }
def SumXorsUptoSaid : Prop := sumXorsUptoRow.holds Try.pinned (OpenSpec.upto sumXorsSpec)

/-- 'agoralaw03.SumNumbers', WHERE WHAT IT READS IS OF BULK AT MOST 1048576: true; the input reads as it did. -/
def sumNumbersUptoRow : OpenClaim := { program := "ytloieoneckjjeaa", sum := "f10bb51e63397b4e2815274c8ad4df091dff398ca0a493f7b4af30f27d139ec2", func := "agora/agoralaw03.SumNumbers", spec := "sumNumbers", inPlace := ["internal/bytealg.IndexByteString", "internal/abi.NoEscape"], apart := false, narrowed := true }
def SumNumbersUptoSaid : Prop := sumNumbersUptoRow.holds Try.pinned (OpenSpec.upto sumNumbersSpec)

end Rows
end Go.Proofs.Ytloieoneckjjeaa
