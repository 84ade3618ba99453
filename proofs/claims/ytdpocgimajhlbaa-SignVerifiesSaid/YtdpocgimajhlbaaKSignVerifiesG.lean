/- Texts of this claim, merged: what the functions that the law reaches compute, and what that says. -/
import Derived.Test.YtdpocgimajhlbaaK24
import Derived.Test.YtdpocgimajhlbaaK25
import Derived.Test.YtdpocgimajhlbaaK26
import Derived.Test.YtdpocgimajhlbaaKSignVerifiesF
section PureSignVerifies_
namespace Go.Proofs.Ytdpocgimajhlbaa.Pure
open Go.RowKit Go.Proofs.Ytdpocgimajhlbaa.P Go.Proofs.Ytdpocgimajhlbaa.Grp Go.Proofs.Ytdpocgimajhlbaa.Sgn Go.Proofs.YtdpocgimajhlbaaW.PrintWords Go.Proofs.YtdpocgimajhlbaaW.PrintLast
set_option linter.unusedVariables false
theorem ranges_eq (y e s : Int) : agoraref05_Ranges.f y e s = some (decide (1 ≤ y ∧ y < 2305843009213693951 ∧ 0 ≤ e ∧ e < 2305843009213693950 ∧ 0 ≤ s ∧ s < 2305843009213693950)) := by
  unfold agoraref05_Ranges.f
  by_cases c1 : y ≥ 1
  rotate_left; · rw [if_neg c1, decide_eq_false (by omega)]
  rw [if_pos c1]
  by_cases c2 : y < 2305843009213693951
  rotate_left; · rw [if_neg c2, decide_eq_false (by omega)]
  rw [if_pos c2]
  by_cases c3 : e ≥ 0
  rotate_left; · rw [if_neg c3, decide_eq_false (by omega)]
  rw [if_pos c3]
  by_cases c4 : e < 2305843009213693950
  rotate_left; · rw [if_neg c4, decide_eq_false (by omega)]
  rw [if_pos c4]
  by_cases c5 : s ≥ 0
  rotate_left; · rw [if_neg c5, decide_eq_false (by omega)]
  rw [if_pos c5]
  by_cases c6 : s < 2305843009213693950
  · rw [decide_eq_true c6, decide_eq_true (by omega)]
  · rw [decide_eq_false c6, decide_eq_false (by omega)]
theorem verify_both {k : Nat} (hk : 75 ≤ k) (y e s : Int) (m : ByteArray) (hm : m.size ≤ 4000) : ∃ b, sign_Verify.f k y m e s = some b ∧ agoraref05_Verify.f k y m e s = some b := by
  by_cases h : 1 ≤ y ∧ y < 2305843009213693951 ∧ 0 ≤ e ∧ e < 2305843009213693950 ∧ 0 ≤ s ∧ s < 2305843009213693950
  · refine ⟨_, verify_in hk y e s m h.1 h.2.1 h.2.2.1 h.2.2.2.1 h.2.2.2.2.1 h.2.2.2.2.2 hm, ?_⟩
    have c := com_range y e s
    have hk' : 10 ≤ k := by omega
    unfold agoraref05_Verify.f
    rw [ranges_eq, Option.bind_some, if_pos (decide_eq_true h), refcom_at (by omega) y e s h.2.2.1 h.2.2.2.1 h.2.2.2.2.1 h.2.2.2.2.2, Option.bind_some, refchal_at hk' _ y m (by omega) (by omega) (by omega) (by omega) hm, Option.bind_some]
  · refine ⟨_, verify_out (by omega) y e s m h, ?_⟩
    unfold agoraref05_Verify.f
    rw [ranges_eq, Option.bind_some, if_neg (by rw [decide_eq_false h]; decide)]
theorem SignVerifies (y : Int) (msg : ByteArray) (e s : Int) (seed : ByteArray) (t : Int) : agoralaw05_SignVerifies.f 300 y msg e s seed t = some true := by
  have skip (k : Nat) : agoralaw05_SignVerifies.j0 (k + 1) y msg seed t true true e s = some true := by
    rw [agoralaw05_SignVerifies.j0, if_pos rfl]
  unfold agoralaw05_SignVerifies.f
  rw [smallR _ (by decide), Option.bind_some]
  by_cases h1 : (seed.size : Int) > 2000
  · rw [if_pos h1]; exact skip 299
  rw [if_neg h1]
  by_cases h2 : (msg.size : Int) > 2000
  · rw [decide_eq_true h2]; exact skip 299
  rw [decide_eq_false h2]
  have hx := secN_range [textB ⟨#[107, 101, 121]⟩, textB seed]
  have hk : keySec seed = secN [textB ⟨#[107, 101, 121]⟩, textB seed] := rfl
  have hkey := refkey_at (k := 299) (by decide) seed (by omega)
  generalize keySec seed = x at hk hkey
  have b := pwb x.toNat
  have b1 := pw37_pos x.toNat
  have re := sigE_range x msg
  have rs := sigS_range x msg
  obtain ⟨v, v1, v2⟩ := verify_both (k := 299) (by decide) y e s msg (by omega)
  rw [agoralaw05_SignVerifies.j0, if_neg (by decide), v1, Option.bind_some, v2, Option.bind_some, if_neg (by simp), hkey, Option.bind_some, refsign_at (by decide) x msg (by omega) (by omega) (by omega), Option.bind_some]
  by_cases c : Int.tmod t 3 = 0
  · rw [if_pos c, if_pos rfl, holds (by decide) x msg (by omega) (by omega), Option.bind_some]
  · rw [if_neg c]
    have hn : -2 ≤ Int.tmod t 3 ∧ Int.tmod t 3 ≤ 2 := by
      have l1 := Int.tmod_lt_of_pos t (show (0 : Int) < 3 by decide)
      have l2 := Int.neg_tmod (a := t) (b := 3)
      have l3 := Int.tmod_lt_of_pos (-t) (show (0 : Int) < 3 by decide)
      omega
    generalize Int.tmod t 3 = n at c hn
    have w1 : wrap64 (n * 2305843009213693951) = n * 2305843009213693951 := w64_in _ (by omega) (by omega)
    have w2 : wrap64 (n * 2305843009213693950) = n * 2305843009213693950 := w64_in _ (by omega) (by omega)
    rw [w1, w2, w64_in (pw 37 x.toNat + n * 2305843009213693951) (by omega) (by omega), w64_in (sigE x msg + n * 2305843009213693950) (by omega) (by omega), w64_in (sigS x msg + n * 2305843009213693950) (by omega) (by omega),
      verify_out (by decide) _ _ _ msg (by omega), Option.bind_some, verify_out (by decide) _ _ _ msg (by omega), Option.bind_some, verify_out (by decide) _ _ _ msg (by omega), Option.bind_some, if_pos rfl, if_neg (by decide), if_neg (by decide)]
    rfl
end Go.Proofs.Ytdpocgimajhlbaa.Pure
end PureSignVerifies_
