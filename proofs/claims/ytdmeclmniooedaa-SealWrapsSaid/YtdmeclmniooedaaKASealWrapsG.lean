/- Texts of this claim, merged: what the functions that the law reaches compute, and what that says. -/
import Derived.Test.YtdmeclmniooedaaKA4
import Derived.Test.YtdmeclmniooedaaKA8
import Derived.Test.YtdmeclmniooedaaKA9
import Derived.Test.YtdmeclmniooedaaKA16
import Derived.Test.YtdmeclmniooedaaKA19
import Derived.Test.YtdmeclmniooedaaKA20
import Derived.Test.YtdmeclmniooedaaKA24
import Derived.Test.YtdmeclmniooedaaKASealWrapsF
section PureSealWraps_
namespace Go.Proofs.Ytdmeclmniooedaa.Pure
open Go.RowKit Go.Proofs.Ytdmeclmniooedaa.P Go.Proofs.Ytdmeclmniooedaa.ShaL Go.Proofs.Ytdmeclmniooedaa.Grp Go.Proofs.Ytdmeclmniooedaa.Rng Go.Proofs.Ytdmeclmniooedaa.Sl Go.Proofs.YtdmeclmniooedaaW.PrintWords Go.Proofs.YtdmeclmniooedaaW.PrintLast
set_option linter.unusedVariables false
theorem SealWraps : agoralaw06_SealWraps.Pure := by
  intro x seed plain hw h1 h2
  refine ⟨300, ?_⟩
  have hz := szs2 seed plain
  have skip : agoralaw06_SealWraps.j0 300 x seed plain true true = some true := by rw [agoralaw06_SealWraps.j0, if_pos rfl]
  unfold agoralaw06_SealWraps.f
  rw [smallR _ (by decide), Option.bind_some, few_at _ (by simp) (by decide) (by omega), Option.bind_some]
  by_cases hf : (szs [seed, plain] : Int) ≤ 2000
  rotate_left
  · rw [decide_eq_false hf, if_neg (by decide)]; exact skip
  rw [decide_eq_true hf, if_pos rfl]
  by_cases hx1 : x < 1
  · rw [if_pos hx1]; exact skip
  rw [if_neg hx1]
  by_cases hx2 : x ≥ 2305843009213693950
  · rw [decide_eq_true hx2]; exact skip
  rw [decide_eq_false hx2, agoralaw06_SealWraps.j0, if_neg (by decide), exp_in (by decide) _ _ (by omega) (by omega), Option.bind_some]
  obtain ⟨pub, hpub⟩ : ∃ p, pw 37 x.toNat = p := ⟨_, rfl⟩
  have p1 : 1 ≤ pub := hpub ▸ pw37_pos x.toNat
  have p2 : pub < 2305843009213693951 := hpub ▸ (pwb 37 x.toNat).2
  have e1 : 1 ≤ ephE pub seed := pw37_pos _
  have e2 : ephE pub seed < 2305843009213693951 := (pwb 37 _).2
  have er := expE_range pub seed
  -- both sides compute the same shared integer
  have shared : pw pub (expE pub seed).toNat = pw (ephE pub seed) x.toNat := by
    rw [← hpub, pw_pw, ephE, pw_pw, Nat.mul_comm]
  have hkey : keyB pub (ephE pub seed) (pw (ephE pub seed) x.toNat) = wkey pub seed := by rw [← shared]; rfl
  have s1 := wkey_size pub seed
  have s2 := wnonce_size pub seed
  have s3 := wdata_size pub seed plain
  have hopen : seal_Open.f (wkey pub seed) (wnonce pub seed) (wdata pub seed plain) (wtag pub seed plain) = some (plain, true) := by
    rw [open_in _ _ _ _ (by omega) (by omega) (by omega) (show wtag pub seed plain = tagB (wkey pub seed) (wnonce pub seed) (wdata pub seed plain) from rfl), wdata, mix_mix]
  rw [hpub, wrap_in (by decide) pub seed plain p1 p2 (by omega) (by omega), Option.bind_some, unwrap_in (by decide) x pub (ephE pub seed) _ _ _ ⟨by omega, by omega, hpub.symm, e1, e2⟩, hkey, hopen, Option.bind_some,
    if_pos rfl, if_pos rfl, if_pos rfl, if_pos rfl, if_neg (show ¬ ephE pub seed < 1 by omega), decide_eq_false (show ¬ ephE pub seed ≥ 2305843009213693951 by omega), agoralaw06_SealWraps.j1, if_neg (by decide), P.num_at pub (by omega) (by omega), Option.bind_some,
    list_at _ (by simp) (eph_list pub seed (by omega)), Option.bind_some, sha_at _ (by simp) (eph_list pub seed (by omega)), Option.bind_some, NumL.num_at _ _ (by omega), Option.bind_some, e_w64]
  have hE : 1 + ((NumL.numN (bts (hB [⟨#[101, 112, 104]⟩, seed, numB pub])) : Nat) : Int) % 2305843009213693949 = expE pub seed := rfl
  have b1 := pwb pub (expE pub seed).toNat
  rw [hE, exp_in (by decide) _ _ (by omega) (by omega), Option.bind_some, exp_in (by decide) _ _ (by omega) (by omega), Option.bind_some, if_pos shared, exp_in (by decide) _ _ (by omega) (by omega), Option.bind_some]
  have hb : (ephE pub seed != pw 37 (expE pub seed).toNat) = false := bne_self_eq_false _
  have s5 : (ByteArray.mk #[119, 114, 97, 112]).size = 4 := rfl
  have n1 := numB_size pub
  have n2 := numB_size (ephE pub seed)
  have n3 := numB_size (pw pub (expE pub seed).toNat)
  rw [hb, agoralaw06_SealWraps.j2, if_neg (by decide), P.num_at pub (by omega) (by omega), Option.bind_some, P.num_at (ephE pub seed) (by omega) (by omega), Option.bind_some, P.num_at (pw pub (expE pub seed).toNat) (by omega) (by omega), Option.bind_some,
    list_at _ (by simp) (by rw [szs4]; omega), Option.bind_some, sha_at _ (by simp) (by rw [szs4]; omega), Option.bind_some]
  have hk : hB [⟨#[119, 114, 97, 112]⟩, numB pub, numB (ephE pub seed), numB (pw pub (expE pub seed).toNat)] = wkey pub seed := rfl
  rw [hk, hopen, Option.bind_some, if_pos rfl, if_pos rfl, beq_self_eq_true]
end Go.Proofs.Ytdmeclmniooedaa.Pure
end PureSealWraps_
