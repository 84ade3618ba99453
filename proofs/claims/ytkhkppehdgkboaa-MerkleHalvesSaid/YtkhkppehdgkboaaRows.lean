/-
  No cell of these rows narrows 'for every input' (looked for: loops, veiled, ifaces, maps, wideKeys, modest, calm, conditions, laid).
  DERIVED. THE GIVEN ROWS OF THIS SEAT. 6 by the template 'for every input the law returns true; each argument reads behind the call as it read before'; 0 by the template 'total and deterministic' (their statements: YtkhkppehdgkboaaTotals.lean).
  GIVEN WITH THE SEED: the statements are not yours to turn. If you find one false, say at which input.
  Laid BY PROGRAM, IN A SANDBOX (cutbox-rows.mjs): the forced cells as the released guide's own fill.sh prints them over the translation d95ae484a78c6420… (all of the seat's roots in one cut). By AI agents, Wed Nov 11 2026. No macro, syntax, notation, axiom, sorry.
-/
import Derived.Test.YtkhkppehdgkboaaChecked
import GoSem.Claim
import GoSem.ClaimJoined
import GoSem.ClaimMapViews
import Derived.JoinedTies
import Derived.KernelRfl
namespace Go.Proofs.Ytkhkppehdgkboaa
/- THE CELL 'sum', in the pinned program and in every row, IS THE sha256 OF THE DUMP (.gsa) THAT YtkhkppehdgkboaaProg.lean LOADS. Nothing in Lean hashes anything: it is a label: what it is worth is what the hold of that sum in a sandbox is worth. -/
noncomputable def Try.pinned : Pinned := { name := "ytkhkppehdgkboaa", sum := "d95ae484a78c6420a7088f9c49a83ed819e76e073be6c598eeb7190d1e74d5da", checked := Try.checked }
namespace Rows
def none {H : Type} : Left H := { results := [], args := [] }

/-- 'agoralaw08.MerkleBuilds': WHATEVER THE INPUT: true; the input reads as it did. -/
def merkleBuildsSpec : ChangeSpec := { name := "merkleBuilds", fn := fun _ => fun
  | [d1, d2] => { results := [.lit (.bool true)], args := [d1, d2] }
  | _ => none }
def merkleBuildsRow : OpenClaim := { program := "ytkhkppehdgkboaa", sum := "d95ae484a78c6420a7088f9c49a83ed819e76e073be6c598eeb7190d1e74d5da", func := "agora/agoralaw08.MerkleBuilds", spec := "merkleBuilds", inPlace := ["internal/abi.NoEscape"], unfollowed := true, recurses := true, apart := false }
def MerkleBuildsSaid : Prop := merkleBuildsRow.holds Try.pinned (OpenSpec.ofChange merkleBuildsSpec)

/-- ITS FALSE NEIGHBOUR: 'it returns false'. Refute it at one input. -/
def merkleBuildsWrong : ChangeSpec := { name := "merkleBuilds", fn := fun _ => fun
  | [d1, d2] => { results := [.lit (.bool false)], args := [d1, d2] }
  | _ => none }
def MerkleBuildsWrongFalsely : Prop := merkleBuildsRow.holds Try.pinned (OpenSpec.ofChange merkleBuildsWrong)

/-- 'agoralaw08.MerkleProves': WHATEVER THE INPUT: true; the input reads as it did. -/
def merkleProvesSpec : ChangeSpec := { name := "merkleProves", fn := fun _ => fun
  | [d1, d2, d3] => { results := [.lit (.bool true)], args := [d1, d2, d3] }
  | _ => none }
def merkleProvesRow : OpenClaim := { program := "ytkhkppehdgkboaa", sum := "d95ae484a78c6420a7088f9c49a83ed819e76e073be6c598eeb7190d1e74d5da", func := "agora/agoralaw08.MerkleProves", spec := "merkleProves", inPlace := ["internal/abi.NoEscape"], unfollowed := true, recurses := true, apart := false }
def MerkleProvesSaid : Prop := merkleProvesRow.holds Try.pinned (OpenSpec.ofChange merkleProvesSpec)

/-- ITS FALSE NEIGHBOUR: 'it returns false'. Refute it at one input. -/
def merkleProvesWrong : ChangeSpec := { name := "merkleProves", fn := fun _ => fun
  | [d1, d2, d3] => { results := [.lit (.bool false)], args := [d1, d2, d3] }
  | _ => none }
def MerkleProvesWrongFalsely : Prop := merkleProvesRow.holds Try.pinned (OpenSpec.ofChange merkleProvesWrong)

/-- 'agoralaw08.MerkleBinds': WHATEVER THE INPUT: true; the input reads as it did. -/
def merkleBindsSpec : ChangeSpec := { name := "merkleBinds", fn := fun _ => fun
  | [d1, d2, d3, d4] => { results := [.lit (.bool true)], args := [d1, d2, d3, d4] }
  | _ => none }
def merkleBindsRow : OpenClaim := { program := "ytkhkppehdgkboaa", sum := "d95ae484a78c6420a7088f9c49a83ed819e76e073be6c598eeb7190d1e74d5da", func := "agora/agoralaw08.MerkleBinds", spec := "merkleBinds", inPlace := ["internal/abi.NoEscape"], unfollowed := true, recurses := true, apart := false }
def MerkleBindsSaid : Prop := merkleBindsRow.holds Try.pinned (OpenSpec.ofChange merkleBindsSpec)

/-- ITS FALSE NEIGHBOUR: 'it returns false'. Refute it at one input. -/
def merkleBindsWrong : ChangeSpec := { name := "merkleBinds", fn := fun _ => fun
  | [d1, d2, d3, d4] => { results := [.lit (.bool false)], args := [d1, d2, d3, d4] }
  | _ => none }
def MerkleBindsWrongFalsely : Prop := merkleBindsRow.holds Try.pinned (OpenSpec.ofChange merkleBindsWrong)

/-- 'agoralaw08.MerkleGrows': WHATEVER THE INPUT: true; the input reads as it did. -/
def merkleGrowsSpec : ChangeSpec := { name := "merkleGrows", fn := fun _ => fun
  | [d1, d2, d3] => { results := [.lit (.bool true)], args := [d1, d2, d3] }
  | _ => none }
def merkleGrowsRow : OpenClaim := { program := "ytkhkppehdgkboaa", sum := "d95ae484a78c6420a7088f9c49a83ed819e76e073be6c598eeb7190d1e74d5da", func := "agora/agoralaw08.MerkleGrows", spec := "merkleGrows", inPlace := ["internal/abi.NoEscape"], unfollowed := true, recurses := true, apart := false }
def MerkleGrowsSaid : Prop := merkleGrowsRow.holds Try.pinned (OpenSpec.ofChange merkleGrowsSpec)

/-- ITS FALSE NEIGHBOUR: 'it returns false'. Refute it at one input. -/
def merkleGrowsWrong : ChangeSpec := { name := "merkleGrows", fn := fun _ => fun
  | [d1, d2, d3] => { results := [.lit (.bool false)], args := [d1, d2, d3] }
  | _ => none }
def MerkleGrowsWrongFalsely : Prop := merkleGrowsRow.holds Try.pinned (OpenSpec.ofChange merkleGrowsWrong)

/-- 'agoralaw08.MerkleOnce': WHATEVER THE INPUT: true; the input reads as it did. -/
def merkleOnceSpec : ChangeSpec := { name := "merkleOnce", fn := fun _ => fun
  | [d1, d2, d3, d4, d5, d6, d7] => { results := [.lit (.bool true)], args := [d1, d2, d3, d4, d5, d6, d7] }
  | _ => none }
def merkleOnceRow : OpenClaim := { program := "ytkhkppehdgkboaa", sum := "d95ae484a78c6420a7088f9c49a83ed819e76e073be6c598eeb7190d1e74d5da", func := "agora/agoralaw08.MerkleOnce", spec := "merkleOnce", inPlace := ["internal/abi.NoEscape"], unfollowed := true, recurses := true, apart := false }
def MerkleOnceSaid : Prop := merkleOnceRow.holds Try.pinned (OpenSpec.ofChange merkleOnceSpec)

/-- ITS FALSE NEIGHBOUR: 'it returns false'. Refute it at one input. -/
def merkleOnceWrong : ChangeSpec := { name := "merkleOnce", fn := fun _ => fun
  | [d1, d2, d3, d4, d5, d6, d7] => { results := [.lit (.bool false)], args := [d1, d2, d3, d4, d5, d6, d7] }
  | _ => none }
def MerkleOnceWrongFalsely : Prop := merkleOnceRow.holds Try.pinned (OpenSpec.ofChange merkleOnceWrong)

/-- 'agoralaw08.MerkleHalves': WHATEVER THE INPUT: true; the input reads as it did. -/
def merkleHalvesSpec : ChangeSpec := { name := "merkleHalves", fn := fun _ => fun
  | [d1, d2] => { results := [.lit (.bool true)], args := [d1, d2] }
  | _ => none }
def merkleHalvesRow : OpenClaim := { program := "ytkhkppehdgkboaa", sum := "d95ae484a78c6420a7088f9c49a83ed819e76e073be6c598eeb7190d1e74d5da", func := "agora/agoralaw08.MerkleHalves", spec := "merkleHalves", inPlace := ["internal/abi.NoEscape"], unfollowed := true, recurses := true, apart := false }
def MerkleHalvesSaid : Prop := merkleHalvesRow.holds Try.pinned (OpenSpec.ofChange merkleHalvesSpec)

/-- ITS FALSE NEIGHBOUR: 'it returns false'. Refute it at one input. -/
def merkleHalvesWrong : ChangeSpec := { name := "merkleHalves", fn := fun _ => fun
  | [d1, d2] => { results := [.lit (.bool false)], args := [d1, d2] }
  | _ => none }
def MerkleHalvesWrongFalsely : Prop := merkleHalvesRow.holds Try.pinned (OpenSpec.ofChange merkleHalvesWrong)

/- THE SECOND FORM. 'bulk': how many values and letters a reading holds, each counted each time it is reached (what is shared counts as often as it is met; a slice's spare places count too). A statement '..UptoSaid' is the law's where the arguments, and the package variables that the reading takes, are together of bulk at most 1048576: NARROWER than '..Said'. Prove '..Said' where nothing that the law and all that it calls make is longer than what came in: it says more and counts as full. Else prove '..UptoSaid'. A law counts once. -/
mutual
def uptoBulk {H : Type} : DataW H → Nat
  | .lit (.string bytes) => bytes.length + 1
  | .lit _ => 1
  | .nil => 1
  | .ptr d => uptoBulk d + 1
  | .slice elems spare => uptoBulkAll elems + uptoBulkAll spare + 1
  | .agg parts => uptoBulkAll parts + 1
  | .iface _ d => uptoBulk d + 1
  | .map entries => uptoBulkEntries entries + 1
  | .held _ => 1
def uptoBulkAll {H : Type} : List (DataW H) → Nat
  | [] => 0
  | d :: r => uptoBulk d + uptoBulkAll r
def uptoBulkEntries {H : Type} : List (Lit × DataW H) → Nat
  | [] => 0
  | x :: r => uptoBulkEntry x + uptoBulkEntries r
def uptoBulkEntry {H : Type} : Lit × DataW H → Nat
  | (.string bytes, d) => bytes.length + uptoBulk d + 1
  | (_, d) => uptoBulk d + 1
 end
def uptoSmall : (H : Type) → List (DataW H) → Bool := fun _ ds => decide (uptoBulkAll ds ≤ 1048576)
def OpenSpec.upto (s : _root_.Go.ChangeSpec) : _root_.Go.OpenSpec := { _root_.Go.OpenSpec.ofChange s with cond := some uptoSmall }

/-- 'agoralaw08.MerkleBuilds', WHERE WHAT IT READS IS OF BULK AT MOST 1048576: true; the input reads as it did. -/
def merkleBuildsUptoRow : OpenClaim := { program := "ytkhkppehdgkboaa", sum := "d95ae484a78c6420a7088f9c49a83ed819e76e073be6c598eeb7190d1e74d5da", func := "agora/agoralaw08.MerkleBuilds", spec := "merkleBuilds", inPlace := ["internal/abi.NoEscape"], unfollowed := true, recurses := true, apart := false, narrowed := true }
def MerkleBuildsUptoSaid : Prop := merkleBuildsUptoRow.holds Try.pinned (OpenSpec.upto merkleBuildsSpec)

/-- 'agoralaw08.MerkleProves', WHERE WHAT IT READS IS OF BULK AT MOST 1048576: true; the input reads as it did. -/
def merkleProvesUptoRow : OpenClaim := { program := "ytkhkppehdgkboaa", sum := "d95ae484a78c6420a7088f9c49a83ed819e76e073be6c598eeb7190d1e74d5da", func := "agora/agoralaw08.MerkleProves", spec := "merkleProves", inPlace := ["internal/abi.NoEscape"], unfollowed := true, recurses := true, apart := false, narrowed := true }
def MerkleProvesUptoSaid : Prop := merkleProvesUptoRow.holds Try.pinned (OpenSpec.upto merkleProvesSpec)

/-- 'agoralaw08.MerkleBinds', WHERE WHAT IT READS IS OF BULK AT MOST 1048576: true; the input reads as it did. -/
def merkleBindsUptoRow : OpenClaim := { program := "ytkhkppehdgkboaa", sum := "d95ae484a78c6420a7088f9c49a83ed819e76e073be6c598eeb7190d1e74d5da", func := "agora/agoralaw08.MerkleBinds", spec := "merkleBinds", inPlace := ["internal/abi.NoEscape"], unfollowed := true, recurses := true, apart := false, narrowed := true }
def MerkleBindsUptoSaid : Prop := merkleBindsUptoRow.holds Try.pinned (OpenSpec.upto merkleBindsSpec)

/-- 'agoralaw08.MerkleGrows', WHERE WHAT IT READS IS OF BULK AT MOST 1048576: true; the input reads as it did. -/
def merkleGrowsUptoRow : OpenClaim := { program := "ytkhkppehdgkboaa", sum := "d95ae484a78c6420a7088f9c49a83ed819e76e073be6c598eeb7190d1e74d5da", func := "agora/agoralaw08.MerkleGrows", spec := "merkleGrows", inPlace := ["internal/abi.NoEscape"], unfollowed := true, recurses := true, apart := false, narrowed := true }
def MerkleGrowsUptoSaid : Prop := merkleGrowsUptoRow.holds Try.pinned (OpenSpec.upto merkleGrowsSpec)

/-- 'agoralaw08.MerkleOnce', WHERE WHAT IT READS IS OF BULK AT MOST 1048576: true; the input reads as it did. -/
def merkleOnceUptoRow : OpenClaim := { program := "ytkhkppehdgkboaa", sum := "d95ae484a78c6420a7088f9c49a83ed819e76e073be6c598eeb7190d1e74d5da", func := "agora/agoralaw08.MerkleOnce", spec := "merkleOnce", inPlace := ["internal/abi.NoEscape"], unfollowed := true, recurses := true, apart := false, narrowed := true }
def MerkleOnceUptoSaid : Prop := merkleOnceUptoRow.holds Try.pinned (OpenSpec.upto merkleOnceSpec)

/-- 'agoralaw08.MerkleHalves', WHERE WHAT IT READS IS OF BULK AT MOST 1048576: true; the input reads as it did. -/
def merkleHalvesUptoRow : OpenClaim := { program := "ytkhkppehdgkboaa", sum := "d95ae484a78c6420a7088f9c49a83ed819e76e073be6c598eeb7190d1e74d5da", func := "agora/agoralaw08.MerkleHalves", spec := "merkleHalves", inPlace := ["internal/abi.NoEscape"], unfollowed := true, recurses := true, apart := false, narrowed := true }
def MerkleHalvesUptoSaid : Prop := merkleHalvesUptoRow.holds Try.pinned (OpenSpec.upto merkleHalvesSpec)

end Rows
end Go.Proofs.Ytkhkppehdgkboaa
