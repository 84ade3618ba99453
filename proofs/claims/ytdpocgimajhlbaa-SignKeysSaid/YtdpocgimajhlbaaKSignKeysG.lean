/- Texts of this claim, merged: what the functions that the law reaches compute, and what that says. -/
import Derived.Test.YtdpocgimajhlbaaK24
import Derived.Test.YtdpocgimajhlbaaKSignKeysF
import Derived.Test.YtdpocgimajhlbaaK25
import Derived.Test.YtdpocgimajhlbaaK26
section PureSignKeys_
namespace Go.Proofs.Ytdpocgimajhlbaa.Pure
open Go.RowKit Go.Proofs.Ytdpocgimajhlbaa.P Go.Proofs.Ytdpocgimajhlbaa.Grp Go.Proofs.Ytdpocgimajhlbaa.Sgn Go.Proofs.YtdpocgimajhlbaaW.PrintWords Go.Proofs.YtdpocgimajhlbaaW.PrintLast
set_option linter.unusedVariables false
theorem keys_j0 (seed : ByteArray) (hs : seed.size ≤ 4000) (a y0 y1 : Int) (b : Bool) (hb : b = decide (1 ≤ a ∧ a < 2305843009213693950)) (p : Int × Int) (hp : sign_Of.f 299 a = some p) (q : Int × Int) (hq : sign_Key.f 299 seed = some q) :
    agoralaw05_SignKeys.j0 300 seed a true b y0 y1 q.1 q.2 p.1 p.2 = some true := by
  have hx := secN_range [textB ⟨#[107, 101, 121]⟩, textB seed]
  have hk : keySec seed = secN [textB ⟨#[107, 101, 121]⟩, textB seed] := rfl
  obtain ⟨rb, r1, r2⟩ := right_both (k := 299) (by decide) y0 y1
  rw [key_at (by decide) seed hs] at hq
  obtain rfl := Option.some.inj hq
  rw [agoralaw05_SignKeys.j0, if_pos rfl, refkey_at (by decide) seed hs, Option.bind_some]
  simp only [beq_self_eq_true, Bool.and_self, if_true]
  by_cases hin : 1 ≤ a ∧ a < 2305843009213693950
  · rw [of_in (by decide) a hin.1 hin.2] at hp
    obtain rfl := Option.some.inj hp
    rw [refof_in (by decide) a hin.1 hin.2, Option.bind_some]
    simp only [beq_self_eq_true, Bool.and_self, if_true]
    rw [right_at (by decide) (keySec seed) _ (by omega) (by omega), Option.bind_some, beq_self_eq_true, if_pos rfl, right_at (by decide) a _ hin.1 hin.2, Option.bind_some, hb, decide_eq_true hin, beq_self_eq_true, beq_self_eq_true, if_pos rfl, r1, Option.bind_some, r2, Option.bind_some, beq_self_eq_true]
  · rw [of_out _ a hin] at hp
    obtain rfl := Option.some.inj hp
    rw [refof_out _ a hin, Option.bind_some]
    simp only [beq_self_eq_true, Bool.and_self, if_true]
    rw [right_at (by decide) (keySec seed) _ (by omega) (by omega), Option.bind_some, beq_self_eq_true, if_pos rfl, right_out _ 0 0 (by omega), Option.bind_some, hb, decide_eq_false hin, beq_self_eq_true, if_pos rfl, r1, Option.bind_some, r2, Option.bind_some, beq_self_eq_true]
theorem SignKeys (seed : ByteArray) (a y0 y1 : Int) : agoralaw05_SignKeys.f 300 seed a y0 y1 = some true := by
  unfold agoralaw05_SignKeys.f
  rw [smallR _ (by decide), Option.bind_some]
  by_cases h1 : (seed.size : Int) > 2000
  · rw [if_pos h1]
  rw [if_neg h1]
  have m1 {p : Int × Int} (h : sign_Of.f 299 a = some p) : sign_Of.f 300 a = some p := at_rounds (sign_Of.mono a) (by decide) h
  have m2 {p : Int × Int} (h : sign_Key.f 299 seed = some p) : sign_Key.f 300 seed = some p := at_rounds (sign_Key.mono seed) (by decide) h
  obtain ⟨p, hp⟩ : ∃ p, sign_Of.f 299 a = some p := by
    by_cases hin : 1 ≤ a ∧ a < 2305843009213693950
    · exact ⟨_, of_in (by decide) a hin.1 hin.2⟩
    · exact ⟨_, of_out _ a hin⟩
  obtain ⟨q, hq⟩ : ∃ q, sign_Key.f 299 seed = some q := ⟨_, key_at (by decide) seed (by omega)⟩
  rw [m2 hq, Option.bind_some, m1 hp, Option.bind_some]
  by_cases c : a ≥ 1
  · rw [if_pos c]
    exact keys_j0 seed (by omega) a y0 y1 _ (by by_cases h : a < 2305843009213693950 <;> simp [h, c]) p hp q hq
  · rw [if_neg c]
    exact keys_j0 seed (by omega) a y0 y1 _ (by rw [decide_eq_false]; omega) p hp q hq
end Go.Proofs.Ytdpocgimajhlbaa.Pure
end PureSignKeys_
