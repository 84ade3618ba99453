/- Texts of this claim, merged: what the functions that the law reaches compute, and what that says. -/
import Derived.Test.YtdpocgimajhlbaaK24
import Derived.Test.YtdpocgimajhlbaaK25
import Derived.Test.YtdpocgimajhlbaaKSignTellsF
import Derived.Test.YtdpocgimajhlbaaK26
section PureSignTells_
namespace Go.Proofs.Ytdpocgimajhlbaa.Pure
open Go.RowKit Go.Proofs.Ytdpocgimajhlbaa.P Go.Proofs.Ytdpocgimajhlbaa.Grp Go.Proofs.Ytdpocgimajhlbaa.Sgn Go.Proofs.YtdpocgimajhlbaaW.PrintWords Go.Proofs.YtdpocgimajhlbaaW.PrintLast
set_option linter.unusedVariables false
theorem SignTells (y0 y1 : Int) (seed msg : ByteArray) : agoralaw05_SignTells.f 300 y0 y1 seed msg = some true := by
  have skip (k : Nat) : agoralaw05_SignTells.j0 (k + 1) seed msg true true y0 y1 = some true := by
    rw [agoralaw05_SignTells.j0, if_pos rfl]
  unfold agoralaw05_SignTells.f
  rw [smallR _ (by decide), Option.bind_some]
  by_cases h1 : (seed.size : Int) > 2000
  · rw [if_pos h1]; exact skip 299
  rw [if_neg h1]
  by_cases h2 : (msg.size : Int) > 2000
  · rw [decide_eq_true h2]; exact skip 299
  rw [decide_eq_false h2]
  obtain ⟨e, s, a1, a2⟩ := sign_both (k := 299) (by decide) y0 y1 msg (by omega)
  obtain ⟨e', s', b1, b2⟩ := sign_both (k := 299) (by decide) (keySec seed) (pw 37 (keySec seed).toNat) msg (by omega)
  rw [agoralaw05_SignTells.j0, if_neg (by decide), refkey_at (by decide) seed (by omega), Option.bind_some, if_pos rfl, a1, Option.bind_some, a2, Option.bind_some]
  simp only [beq_self_eq_true, Bool.and_self, if_true]
  rw [b1, Option.bind_some, b2, Option.bind_some]
  simp
end Go.Proofs.Ytdpocgimajhlbaa.Pure
end PureSignTells_
