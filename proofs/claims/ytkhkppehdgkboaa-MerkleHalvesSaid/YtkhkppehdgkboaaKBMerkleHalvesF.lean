/- Texts of this claim, merged: what the functions that the law reaches compute, and what that says. -/
import Derived.Test.YtkhkppehdgkboaaKB17
section PureMerkleHalves_
namespace Go.Proofs.Ytkhkppehdgkboaa.Pure
open Go.Proofs.Ytkhkppehdgkboaa.P
theorem MerkleHalves (l : List ByteArray) (a1 : Int) : agoralaw08_MerkleHalves.f 300 l a1 = some true := rfl
end Go.Proofs.Ytkhkppehdgkboaa.Pure
end PureMerkleHalves_
