/- Texts of this claim, merged: what the functions that the law reaches compute, and what that says. -/
import Derived.Test.YtdpocgimajhlbaaK5
import Derived.Test.YtdpocgimajhlbaaK19
import Derived.Test.YtdpocgimajhlbaaK24
import Derived.Test.YtdpocgimajhlbaaK25
import Derived.Test.YtdpocgimajhlbaaK26
import Derived.Test.YtdpocgimajhlbaaKSignBindsF
section PureSignBinds_
namespace Go.Proofs.Ytdpocgimajhlbaa.Pure
open Go.RowKit Go.Proofs.Ytdpocgimajhlbaa.P Go.Proofs.Ytdpocgimajhlbaa.Grp Go.Proofs.Ytdpocgimajhlbaa.Sgn Go.Proofs.YtdpocgimajhlbaaW.PrintWords Go.Proofs.YtdpocgimajhlbaaW.PrintLast
set_option linter.unusedVariables false
theorem bytes_inj {a b : ByteArray} (h : a.toList = b.toList) : a = b := by
  rw [ByteArray.toList_eq, ByteArray.toList_eq] at h
  exact ByteArray.ext (Array.toList_inj.1 h)
theorem SignBinds : agoralaw05_SignBinds.Pure := by
  intro seed msg other hs hm ho
  have skip (k : Nat) : agoralaw05_SignBinds.j0 (k + 1) seed msg other true true = some true := by
    rw [agoralaw05_SignBinds.j0, if_pos rfl]
  refine ⟨300, ?_⟩
  unfold agoralaw05_SignBinds.f
  rw [smallR _ (by decide), Option.bind_some]
  by_cases h1 : (seed.size : Int) > 2000
  · rw [if_pos h1]; exact skip 299
  rw [if_neg h1]
  by_cases h2 : (msg.size : Int) > 2000
  · rw [if_pos h2]; exact skip 299
  rw [if_neg h2]
  by_cases h3 : (other.size : Int) > 2000
  · rw [decide_eq_true h3]; exact skip 299
  rw [decide_eq_false h3]
  have hx := secN_range [textB ⟨#[107, 101, 121]⟩, textB seed]
  have hk : keySec seed = secN [textB ⟨#[107, 101, 121]⟩, textB seed] := rfl
  generalize keySec seed = x at hk
  have b := pwb x.toNat
  have b1 := pw37_pos x.toNat
  have e := sigE_range x msg
  have s := sigS_range x msg
  have c := com_range (pw 37 x.toNat) (sigE x msg) (sigS x msg)
  have hE : chal (com (pw 37 x.toNat) (sigE x msg) (sigS x msg)) (pw 37 x.toNat) msg = sigE x msg := by rw [com_sig x msg (by omega)]; rfl
  have hkey := key_at (k := 299) (by decide) seed (by omega)
  rw [show keySec seed = x from hk.symm] at hkey
  have q1 := refchal_at (k := 299) (by decide) (com (pw 37 x.toNat) (sigE x msg) (sigS x msg)) (pw 37 x.toNat) msg (by omega) (by omega) (by omega) (by omega) (by omega)
  have q2 := refchal_at (k := 299) (by decide) (com (pw 37 x.toNat) (sigE x msg) (sigS x msg)) (pw 37 x.toNat) other (by omega) (by omega) (by omega) (by omega) (by omega)
  have q3 := verify_in (k := 299) (by decide) (pw 37 x.toNat) (sigE x msg) (sigS x msg) other (by omega) (by omega) e.1 e.2 s.1 s.2 (by omega)
  rw [agoralaw05_SignBinds.j0, if_neg (by decide), hkey, Option.bind_some, sign_at (by decide) x msg (by omega) (by omega) (by omega), Option.bind_some,
    refcom_at (by decide) _ _ _ e.1 e.2 s.1 s.2, Option.bind_some]
  dsimp only
  rw [q1, Option.bind_some, q2, Option.bind_some, if_pos rfl, q3, Option.bind_some, hE]
  rw [if_pos (by rw [beq_iff_eq]; exact BEq.comm)]
  by_cases h : msg.toList = other.toList
  · rw [if_pos h, ← bytes_inj h, hE]; simp
  · rw [if_neg h]
end Go.Proofs.Ytdpocgimajhlbaa.Pure
end PureSignBinds_
