/- Texts of this claim, merged: what the functions that the law reaches compute, and what that says. -/
import Derived.Test.YtdpocgimajhlbaaK5
import Derived.Test.YtdpocgimajhlbaaK19
import Derived.Test.YtdpocgimajhlbaaK24
import Derived.Test.YtdpocgimajhlbaaK25
import Derived.Test.YtdpocgimajhlbaaK26
import Derived.Test.YtdpocgimajhlbaaKSignSolvesF
section PureSignSolves_
namespace Go.Proofs.Ytdpocgimajhlbaa.Pure
open Go.RowKit Go.Proofs.Ytdpocgimajhlbaa.P Go.Proofs.Ytdpocgimajhlbaa.Grp Go.Proofs.Ytdpocgimajhlbaa.Sgn Go.Proofs.YtdpocgimajhlbaaW.PrintWords Go.Proofs.YtdpocgimajhlbaaW.PrintLast
set_option linter.unusedVariables false
theorem SignSolves : agoralaw05_SignSolves.Pure := by
  intro seed msg other u hs hm ho hu
  have hu := bd64 hu
  have skip (k : Nat) : agoralaw05_SignSolves.j0 (k + 1) seed msg other u true true = some true := by
    rw [agoralaw05_SignSolves.j0, if_pos rfl]
  refine ⟨300, ?_⟩
  unfold agoralaw05_SignSolves.f
  rw [smallR _ (by decide), Option.bind_some]
  by_cases h1 : (seed.size : Int) > 2000
  · rw [if_pos h1]; exact skip 299
  rw [if_neg h1]
  by_cases h2 : (msg.size : Int) > 2000
  · rw [if_pos h2]; exact skip 299
  rw [if_neg h2]
  by_cases h3 : (other.size : Int) > 2000
  · rw [decide_eq_true h3]; exact skip 299
  rw [decide_eq_false h3]
  have hx := secN_range [textB ⟨#[107, 101, 121]⟩, textB seed]
  have hk : keySec seed = secN [textB ⟨#[107, 101, 121]⟩, textB seed] := rfl
  generalize keySec seed = x at hk
  have hkey := key_at (k := 299) (by decide) seed (by omega)
  rw [show keySec seed = x from hk.symm] at hkey
  have b := pwb x.toNat
  have b1 := pw37_pos x.toNat
  have r := pwb (ex u)
  have e := chal_range (pw 37 (ex u)) (pw 37 x.toNat) msg
  have f := chal_range (pw 37 (ex u)) (pw 37 x.toNat) other
  have q1 := refchal_at (k := 299) (by decide) (pw 37 (ex u)) (pw 37 x.toNat) msg (by omega) (by omega) (by omega) (by omega) (by omega)
  have q2 := refchal_at (k := 299) (by decide) (pw 37 (ex u)) (pw 37 x.toNat) other (by omega) (by omega) (by omega) (by omega) (by omega)
  have v1 := fun s h1 h2 => verify_in (k := 299) (by decide) (pw 37 x.toNat) (chal (pw 37 (ex u)) (pw 37 x.toNat) msg) s msg (by omega) (by omega) e.1 e.2 h1 h2 (by omega)
  have v2 := fun s h1 h2 => verify_in (k := 299) (by decide) (pw 37 x.toNat) (chal (pw 37 (ex u)) (pw 37 x.toNat) other) s other (by omega) (by omega) f.1 f.2 h1 h2 (by omega)
  have c1 := fun s => com_any x u (chal (pw 37 (ex u)) (pw 37 x.toNat) msg) s (by omega) e.1 e.2
  have c2 := fun s => com_any x u (chal (pw 37 (ex u)) (pw 37 x.toNat) other) s (by omega) f.1 f.2
  rw [agoralaw05_SignSolves.j0, if_neg (by decide), hkey, Option.bind_some, exp_at (by decide) 37 u (by omega), Option.bind_some, q1, Option.bind_some, q2, Option.bind_some,
    mulN_at (by decide), Option.bind_some, addN_eq, Option.bind_some, mulN_at (by decide), Option.bind_some, addN_eq, Option.bind_some]
  rw [v1 _ (by omega) (by omega), c1 _ rfl, Option.bind_some, beq_self_eq_true, if_pos rfl, v2 _ (by omega) (by omega), c2 _ rfl, Option.bind_some, beq_self_eq_true, if_pos rfl, if_pos rfl, subN_eq, Option.bind_some, subN_eq, Option.bind_some, mulN_at (by decide), Option.bind_some]
  generalize chal (pw 37 (ex u)) (pw 37 x.toNat) msg = e1
  generalize chal (pw 37 (ex u)) (pw 37 x.toNat) other = e2
  rw [Int.mul_emod ((e1 - e2) % 2305843009213693950) x, Int.emod_emod, ← Int.mul_emod, Int.sub_mul]
  generalize e1 * x = p
  generalize e2 * x = q
  refine congrArg some ?_
  rw [beq_iff_eq]
  omega
end Go.Proofs.Ytdpocgimajhlbaa.Pure
end PureSignSolves_
