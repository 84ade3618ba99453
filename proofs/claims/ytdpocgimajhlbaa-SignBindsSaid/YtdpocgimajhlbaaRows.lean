/-
  No cell of these rows narrows 'for every input' (looked for: loops, veiled, ifaces, maps, wideKeys, modest, calm, conditions, laid).
  DERIVED. THE GIVEN ROWS OF THIS SEAT. 7 by the template 'for every input the law returns true; each argument reads behind the call as it read before'; 0 by the template 'total and deterministic' (their statements: YtdpocgimajhlbaaTotals.lean).
  GIVEN WITH THE SEED: the statements are not yours to turn. If you find one false, say at which input.
  Laid BY PROGRAM, IN A SANDBOX (cutbox-rows.mjs): the forced cells as the released guide's own fill.sh prints them over the translation 343b4309fd203ab7… (all of the seat's roots in one cut). By AI agents, Wed Nov 11 2026. No macro, syntax, notation, axiom, sorry.
-/
import Derived.Test.YtdpocgimajhlbaaChecked
import GoSem.Claim
import GoSem.ClaimJoined
import GoSem.ClaimMapViews
import Derived.JoinedTies
import Derived.KernelRfl
namespace Go.Proofs.Ytdpocgimajhlbaa
/- THE CELL 'sum', in the pinned program and in every row, IS THE sha256 OF THE DUMP (.gsa) THAT YtdpocgimajhlbaaProg.lean LOADS. Nothing in Lean hashes anything: it is a label: what it is worth is what the hold of that sum in a sandbox is worth. -/
noncomputable def Try.pinned : Pinned := { name := "ytdpocgimajhlbaa", sum := "343b4309fd203ab791fef7d96fbc792aec3be00ac96066c1952fcfe37b8d2100", checked := Try.checked }
namespace Rows
def none {H : Type} : Left H := { results := [], args := [] }

/-- 'agoralaw05.SignKeys': WHATEVER THE INPUT: true; the input reads as it did. -/
def signKeysSpec : ChangeSpec := { name := "signKeys", fn := fun _ => fun
  | [d1, d2, d3] => { results := [.lit (.bool true)], args := [d1, d2, d3] }
  | _ => none }
def signKeysRow : OpenClaim := { program := "ytdpocgimajhlbaa", sum := "343b4309fd203ab791fef7d96fbc792aec3be00ac96066c1952fcfe37b8d2100", func := "agora/agoralaw05.SignKeys", spec := "signKeys", inPlace := ["internal/abi.NoEscape", "internal/bytealg.MakeNoZero"], recurses := true, named := ["math/bits.divideError", "math/bits.overflowError"], apart := false }
def SignKeysSaid : Prop := signKeysRow.holds Try.pinned (OpenSpec.ofChange signKeysSpec)

/-- ITS FALSE NEIGHBOUR: 'it returns false'. Refute it at one input. -/
def signKeysWrong : ChangeSpec := { name := "signKeys", fn := fun _ => fun
  | [d1, d2, d3] => { results := [.lit (.bool false)], args := [d1, d2, d3] }
  | _ => none }
def SignKeysWrongFalsely : Prop := signKeysRow.holds Try.pinned (OpenSpec.ofChange signKeysWrong)

/-- 'agoralaw05.SignTells': WHATEVER THE INPUT: true; the input reads as it did. -/
def signTellsSpec : ChangeSpec := { name := "signTells", fn := fun _ => fun
  | [d1, d2, d3] => { results := [.lit (.bool true)], args := [d1, d2, d3] }
  | _ => none }
def signTellsRow : OpenClaim := { program := "ytdpocgimajhlbaa", sum := "343b4309fd203ab791fef7d96fbc792aec3be00ac96066c1952fcfe37b8d2100", func := "agora/agoralaw05.SignTells", spec := "signTells", inPlace := ["internal/abi.NoEscape", "internal/bytealg.MakeNoZero"], recurses := true, named := ["math/bits.divideError", "math/bits.overflowError"], apart := false }
def SignTellsSaid : Prop := signTellsRow.holds Try.pinned (OpenSpec.ofChange signTellsSpec)

/-- ITS FALSE NEIGHBOUR: 'it returns false'. Refute it at one input. -/
def signTellsWrong : ChangeSpec := { name := "signTells", fn := fun _ => fun
  | [d1, d2, d3] => { results := [.lit (.bool false)], args := [d1, d2, d3] }
  | _ => none }
def SignTellsWrongFalsely : Prop := signTellsRow.holds Try.pinned (OpenSpec.ofChange signTellsWrong)

/-- 'agoralaw05.SignVerifies': WHATEVER THE INPUT: true; the input reads as it did. -/
def signVerifiesSpec : ChangeSpec := { name := "signVerifies", fn := fun _ => fun
  | [d1, d2, d3, d4, d5] => { results := [.lit (.bool true)], args := [d1, d2, d3, d4, d5] }
  | _ => none }
def signVerifiesRow : OpenClaim := { program := "ytdpocgimajhlbaa", sum := "343b4309fd203ab791fef7d96fbc792aec3be00ac96066c1952fcfe37b8d2100", func := "agora/agoralaw05.SignVerifies", spec := "signVerifies", inPlace := ["internal/abi.NoEscape", "internal/bytealg.MakeNoZero"], recurses := true, named := ["math/bits.divideError", "math/bits.overflowError"], apart := false }
def SignVerifiesSaid : Prop := signVerifiesRow.holds Try.pinned (OpenSpec.ofChange signVerifiesSpec)

/-- ITS FALSE NEIGHBOUR: 'it returns false'. Refute it at one input. -/
def signVerifiesWrong : ChangeSpec := { name := "signVerifies", fn := fun _ => fun
  | [d1, d2, d3, d4, d5] => { results := [.lit (.bool false)], args := [d1, d2, d3, d4, d5] }
  | _ => none }
def SignVerifiesWrongFalsely : Prop := signVerifiesRow.holds Try.pinned (OpenSpec.ofChange signVerifiesWrong)

/-- 'agoralaw05.SignHolds': WHATEVER THE INPUT: true; the input reads as it did. -/
def signHoldsSpec : ChangeSpec := { name := "signHolds", fn := fun _ => fun
  | [d1, d2, d3] => { results := [.lit (.bool true)], args := [d1, d2, d3] }
  | _ => none }
def signHoldsRow : OpenClaim := { program := "ytdpocgimajhlbaa", sum := "343b4309fd203ab791fef7d96fbc792aec3be00ac96066c1952fcfe37b8d2100", func := "agora/agoralaw05.SignHolds", spec := "signHolds", inPlace := ["internal/abi.NoEscape", "internal/bytealg.MakeNoZero"], named := ["math/bits.divideError", "math/bits.overflowError"], apart := false }
def SignHoldsSaid : Prop := signHoldsRow.holds Try.pinned (OpenSpec.ofChange signHoldsSpec)

/-- ITS FALSE NEIGHBOUR: 'it returns false'. Refute it at one input. -/
def signHoldsWrong : ChangeSpec := { name := "signHolds", fn := fun _ => fun
  | [d1, d2, d3] => { results := [.lit (.bool false)], args := [d1, d2, d3] }
  | _ => none }
def SignHoldsWrongFalsely : Prop := signHoldsRow.holds Try.pinned (OpenSpec.ofChange signHoldsWrong)

/-- 'agoralaw05.SignBinds': WHATEVER THE INPUT: true; the input reads as it did. -/
def signBindsSpec : ChangeSpec := { name := "signBinds", fn := fun _ => fun
  | [d1, d2, d3] => { results := [.lit (.bool true)], args := [d1, d2, d3] }
  | _ => none }
def signBindsRow : OpenClaim := { program := "ytdpocgimajhlbaa", sum := "343b4309fd203ab791fef7d96fbc792aec3be00ac96066c1952fcfe37b8d2100", func := "agora/agoralaw05.SignBinds", spec := "signBinds", inPlace := ["internal/abi.NoEscape", "internal/bytealg.MakeNoZero"], recurses := true, named := ["math/bits.divideError", "math/bits.overflowError"], apart := false }
def SignBindsSaid : Prop := signBindsRow.holds Try.pinned (OpenSpec.ofChange signBindsSpec)

/-- ITS FALSE NEIGHBOUR: 'it returns false'. Refute it at one input. -/
def signBindsWrong : ChangeSpec := { name := "signBinds", fn := fun _ => fun
  | [d1, d2, d3] => { results := [.lit (.bool false)], args := [d1, d2, d3] }
  | _ => none }
def SignBindsWrongFalsely : Prop := signBindsRow.holds Try.pinned (OpenSpec.ofChange signBindsWrong)

/-- 'agoralaw05.SignMoves': WHATEVER THE INPUT: true; the input reads as it did. -/
def signMovesSpec : ChangeSpec := { name := "signMoves", fn := fun _ => fun
  | [d1, d2, d3] => { results := [.lit (.bool true)], args := [d1, d2, d3] }
  | _ => none }
def signMovesRow : OpenClaim := { program := "ytdpocgimajhlbaa", sum := "343b4309fd203ab791fef7d96fbc792aec3be00ac96066c1952fcfe37b8d2100", func := "agora/agoralaw05.SignMoves", spec := "signMoves", inPlace := ["internal/abi.NoEscape", "internal/bytealg.MakeNoZero"], recurses := true, named := ["math/bits.divideError", "math/bits.overflowError"], apart := false }
def SignMovesSaid : Prop := signMovesRow.holds Try.pinned (OpenSpec.ofChange signMovesSpec)

/-- ITS FALSE NEIGHBOUR: 'it returns false'. Refute it at one input. -/
def signMovesWrong : ChangeSpec := { name := "signMoves", fn := fun _ => fun
  | [d1, d2, d3] => { results := [.lit (.bool false)], args := [d1, d2, d3] }
  | _ => none }
def SignMovesWrongFalsely : Prop := signMovesRow.holds Try.pinned (OpenSpec.ofChange signMovesWrong)

/-- 'agoralaw05.SignSolves': WHATEVER THE INPUT: true; the input reads as it did. -/
def signSolvesSpec : ChangeSpec := { name := "signSolves", fn := fun _ => fun
  | [d1, d2, d3, d4] => { results := [.lit (.bool true)], args := [d1, d2, d3, d4] }
  | _ => none }
def signSolvesRow : OpenClaim := { program := "ytdpocgimajhlbaa", sum := "343b4309fd203ab791fef7d96fbc792aec3be00ac96066c1952fcfe37b8d2100", func := "agora/agoralaw05.SignSolves", spec := "signSolves", inPlace := ["internal/abi.NoEscape", "internal/bytealg.MakeNoZero"], recurses := true, named := ["math/bits.divideError", "math/bits.overflowError"], apart := false }
def SignSolvesSaid : Prop := signSolvesRow.holds Try.pinned (OpenSpec.ofChange signSolvesSpec)

/-- ITS FALSE NEIGHBOUR: 'it returns false'. Refute it at one input. -/
def signSolvesWrong : ChangeSpec := { name := "signSolves", fn := fun _ => fun
  | [d1, d2, d3, d4] => { results := [.lit (.bool false)], args := [d1, d2, d3, d4] }
  | _ => none }
def SignSolvesWrongFalsely : Prop := signSolvesRow.holds Try.pinned (OpenSpec.ofChange signSolvesWrong)

/- THE SECOND FORM. 'bulk': how many values and letters a reading holds, each counted each time it is reached (what is shared counts as often as it is met; a slice's spare places count too). A statement '..UptoSaid' is the law's where the arguments, and the package variables that the reading takes, are together of bulk at most 1048576: NARROWER than '..Said'. Prove '..Said' where nothing that the law and all that it calls make is longer than what came in: it says more and counts as full. Else prove '..UptoSaid'. A law counts once. -/
mutual
def uptoBulk {H : Type} : DataW H → Nat
  | .lit (.string bytes) => bytes.length + 1
  | .lit _ => 1
  | .nil => 1
  | .ptr d => uptoBulk d + 1
  | .slice elems spare => uptoBulkAll elems + uptoBulkAll spare + 1
  | .agg parts => uptoBulkAll parts + 1
  | .iface _ d => uptoBulk d + 1
  | .map entries => uptoBulkEntries entries + 1
  | .held _ => 1
def uptoBulkAll {H : Type} : List (DataW H) → Nat
  | [] => 0
  | d :: r => uptoBulk d + uptoBulkAll r
def uptoBulkEntries {H : Type} : List (Lit × DataW H) → Nat
  | [] => 0
  | x :: r => uptoBulkEntry x + uptoBulkEntries r
def uptoBulkEntry {H : Type} : Lit × DataW H → Nat
  | (.string bytes, d) => bytes.length + uptoBulk d + 1
  | (_, d) => uptoBulk d + 1
 end
def uptoSmall : (H : Type) → List (DataW H) → Bool := fun _ ds => decide (uptoBulkAll ds ≤ 1048576)
def OpenSpec.upto (s : _root_.Go.ChangeSpec) : _root_.Go.OpenSpec := { _root_.Go.OpenSpec.ofChange s with cond := some uptoSmall }

/-- 'agoralaw05.SignKeys', WHERE WHAT IT READS IS OF BULK AT MOST 1048576: true; the input reads as it did. -/
def signKeysUptoRow : OpenClaim := { program := "ytdpocgimajhlbaa", sum := "343b4309fd203ab791fef7d96fbc792aec3be00ac96066c1952fcfe37b8d2100", func := "agora/agoralaw05.SignKeys", spec := "signKeys", inPlace := ["internal/abi.NoEscape", "internal/bytealg.MakeNoZero"], recurses := true, named := ["math/bits.divideError", "math/bits.overflowError"], apart := false, narrowed := true }
def SignKeysUptoSaid : Prop := signKeysUptoRow.holds Try.pinned (OpenSpec.upto signKeysSpec)

/-- 'agoralaw05.SignTells', WHERE WHAT IT READS IS OF BULK AT MOST 1048576: true; the input reads as it did. -/
def signTellsUptoRow : OpenClaim := { program := "ytdpocgimajhlbaa", sum := "343b4309fd203ab791fef7d96fbc792aec3be00ac96066c1952fcfe37b8d2100", func := "agora/agoralaw05.SignTells", spec := "signTells", inPlace := ["internal/abi.NoEscape", "internal/bytealg.MakeNoZero"], recurses := true, named := ["math/bits.divideError", "math/bits.overflowError"], apart := false, narrowed := true }
def SignTellsUptoSaid : Prop := signTellsUptoRow.holds Try.pinned (OpenSpec.upto signTellsSpec)

/-- 'agoralaw05.SignVerifies', WHERE WHAT IT READS IS OF BULK AT MOST 1048576: true; the input reads as it did. -/
def signVerifiesUptoRow : OpenClaim := { program := "ytdpocgimajhlbaa", sum := "343b4309fd203ab791fef7d96fbc792aec3be00ac96066c1952fcfe37b8d2100", func := "agora/agoralaw05.SignVerifies", spec := "signVerifies", inPlace := ["internal/abi.NoEscape", "internal/bytealg.MakeNoZero"], recurses := true, named := ["math/bits.divideError", "math/bits.overflowError"], apart := false, narrowed := true }
def SignVerifiesUptoSaid : Prop := signVerifiesUptoRow.holds Try.pinned (OpenSpec.upto signVerifiesSpec)

/-- 'agoralaw05.SignHolds', WHERE WHAT IT READS IS OF BULK AT MOST 1048576: true; the input reads as it did. -/
def signHoldsUptoRow : OpenClaim := { program := "ytdpocgimajhlbaa", sum := "343b4309fd203ab791fef7d96fbc792aec3be00ac96066c1952fcfe37b8d2100", func := "agora/agoralaw05.SignHolds", spec := "signHolds", inPlace := ["internal/abi.NoEscape", "internal/bytealg.MakeNoZero"], named := ["math/bits.divideError", "math/bits.overflowError"], apart := false, narrowed := true }
def SignHoldsUptoSaid : Prop := signHoldsUptoRow.holds Try.pinned (OpenSpec.upto signHoldsSpec)

/-- 'agoralaw05.SignBinds', WHERE WHAT IT READS IS OF BULK AT MOST 1048576: true; the input reads as it did. -/
def signBindsUptoRow : OpenClaim := { program := "ytdpocgimajhlbaa", sum := "343b4309fd203ab791fef7d96fbc792aec3be00ac96066c1952fcfe37b8d2100", func := "agora/agoralaw05.SignBinds", spec := "signBinds", inPlace := ["internal/abi.NoEscape", "internal/bytealg.MakeNoZero"], recurses := true, named := ["math/bits.divideError", "math/bits.overflowError"], apart := false, narrowed := true }
def SignBindsUptoSaid : Prop := signBindsUptoRow.holds Try.pinned (OpenSpec.upto signBindsSpec)

/-- 'agoralaw05.SignMoves', WHERE WHAT IT READS IS OF BULK AT MOST 1048576: true; the input reads as it did. -/
def signMovesUptoRow : OpenClaim := { program := "ytdpocgimajhlbaa", sum := "343b4309fd203ab791fef7d96fbc792aec3be00ac96066c1952fcfe37b8d2100", func := "agora/agoralaw05.SignMoves", spec := "signMoves", inPlace := ["internal/abi.NoEscape", "internal/bytealg.MakeNoZero"], recurses := true, named := ["math/bits.divideError", "math/bits.overflowError"], apart := false, narrowed := true }
def SignMovesUptoSaid : Prop := signMovesUptoRow.holds Try.pinned (OpenSpec.upto signMovesSpec)

/-- 'agoralaw05.SignSolves', WHERE WHAT IT READS IS OF BULK AT MOST 1048576: true; the input reads as it did. -/
def signSolvesUptoRow : OpenClaim := { program := "ytdpocgimajhlbaa", sum := "343b4309fd203ab791fef7d96fbc792aec3be00ac96066c1952fcfe37b8d2100", func := "agora/agoralaw05.SignSolves", spec := "signSolves", inPlace := ["internal/abi.NoEscape", "internal/bytealg.MakeNoZero"], recurses := true, named := ["math/bits.divideError", "math/bits.overflowError"], apart := false, narrowed := true }
def SignSolvesUptoSaid : Prop := signSolvesUptoRow.holds Try.pinned (OpenSpec.upto signSolvesSpec)

end Rows
end Go.Proofs.Ytdpocgimajhlbaa
