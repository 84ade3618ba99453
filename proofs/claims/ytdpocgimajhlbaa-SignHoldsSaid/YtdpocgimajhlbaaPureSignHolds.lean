/- The law SignHolds, plain. -/
import Derived.Test.YtdpocgimajhlbaaP18
import Derived.Test.YtdpocgimajhlbaaSgnSmall
namespace Go.Proofs.Ytdpocgimajhlbaa.Pure
open Go.RowKit Go.Proofs.Ytdpocgimajhlbaa.P Go.Proofs.Ytdpocgimajhlbaa.Grp Go.Proofs.Ytdpocgimajhlbaa.Sgn Go.Proofs.YtdpocgimajhlbaaW.PrintWords Go.Proofs.YtdpocgimajhlbaaW.PrintLast
set_option linter.unusedVariables false
theorem SignHolds : agoralaw05_SignHolds.Pure := by
  intro seed sec msg hs hw hm
  have skip (k : Nat) : agoralaw05_SignHolds.j0 (k + 1) seed sec msg true true = some true := by
    rw [agoralaw05_SignHolds.j0, if_pos rfl]
  refine ⟨300, ?_⟩
  unfold agoralaw05_SignHolds.f
  rw [smallR _ (by decide), Option.bind_some]
  by_cases h1 : (seed.size : Int) > 2000
  · rw [if_pos h1]; exact skip 299
  rw [if_neg h1]
  by_cases h2 : (msg.size : Int) > 2000
  · rw [decide_eq_true h2]; exact skip 299
  rw [decide_eq_false h2]
  have hx := secN_range [textB ⟨#[107, 101, 121]⟩, textB seed]
  have hk : keySec seed = secN [textB ⟨#[107, 101, 121]⟩, textB seed] := rfl
  rw [agoralaw05_SignHolds.j0, if_neg (by decide), key_at (by decide) seed (by omega), Option.bind_some, sign_at (by decide) (keySec seed) msg (by omega) (by omega) (by omega), Option.bind_some,
    holds (by decide) (keySec seed) msg (by omega) (by omega), Option.bind_some, if_pos rfl, Option.bind_some]
  simp only [beq_self_eq_true, Bool.not_true, Bool.or_false]
  rw [agoralaw05_SignHolds.j1, if_neg (by decide)]
  by_cases hin : 1 ≤ sec ∧ sec < 2305843009213693950
  · rw [of_in (by decide) sec hin.1 hin.2, Option.bind_some, sign_at (by decide) sec msg hin.1 hin.2 (by omega), Option.bind_some, if_pos hin.1, if_pos rfl, if_pos hin.2, holds (by decide) sec msg hin.1 (by omega), Option.bind_some, if_pos rfl]
  · rw [of_out _ sec hin, Option.bind_some, sign_wrong 0 0 msg (right_out _ 0 0 (by omega)), Option.bind_some]
    by_cases c : sec ≥ 1
    · rw [if_pos c, if_pos rfl, if_neg (by omega)]; simp
    · rw [if_neg c, if_pos rfl]; simp
end Go.Proofs.Ytdpocgimajhlbaa.Pure
