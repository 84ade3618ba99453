/- Texts of this claim, merged: what the functions that the law reaches compute, and what that says. -/
import Derived.Test.YtdmeclmniooedaaKB5
import Derived.Test.YtdmeclmniooedaaKB20
import Derived.Test.YtdmeclmniooedaaKB21
import Derived.Test.YtdmeclmniooedaaKB27
import Derived.Test.YtdmeclmniooedaaKBSealOpensF
section PureSealOpens_
namespace Go.Proofs.Ytdmeclmniooedaa.Pure
open Go.RowKit Go.Proofs.Ytdmeclmniooedaa.P Go.Proofs.Ytdmeclmniooedaa.ShaL Go.Proofs.Ytdmeclmniooedaa.Grp Go.Proofs.Ytdmeclmniooedaa.Rng Go.Proofs.Ytdmeclmniooedaa.Sl Go.Proofs.YtdmeclmniooedaaW.PrintWords Go.Proofs.YtdmeclmniooedaaW.PrintLast
set_option linter.unusedVariables false
theorem SealOpens (key nonce plain bn bd bg : ByteArray)
    (h0 : key.size ≤ 140737488351232) (h1 : nonce.size ≤ 140737488351232) (h2 : plain.size ≤ 140737488351232) (h3 : bn.size ≤ 140737488351232) (h4 : bd.size ≤ 140737488351232) (h5 : bg.size ≤ 140737488351232) :
    agoralaw06_SealOpens.f 300 key nonce plain bn bd bg = some true := by
  have hz : szs [key, nonce, plain, bn, bd, bg] = key.size + (nonce.size + (plain.size + (bn.size + (bd.size + (bg.size + 0))))) := rfl
  unfold agoralaw06_SealOpens.f
  rw [smallR _ (by decide), Option.bind_some, few_at _ (by simp) (by decide) (by omega), Option.bind_some]
  by_cases hf : (szs [key, nonce, plain, bn, bd, bg] : Int) ≤ 2000
  rotate_left
  · rw [decide_eq_false hf, if_neg (by decide)]
  have m1 := mixB_size key nonce plain
  have g1 := tagB_size key nonce (mixB key nonce plain)
  rw [decide_eq_true hf, if_pos rfl, seal_at key nonce plain (by omega) (by omega) (by omega), Option.bind_some, open_in key nonce (mixB key nonce plain) _ (by omega) (by omega) (by omega) rfl, Option.bind_some, if_pos rfl, mix_mix,
    if_pos rfl, if_pos rfl, if_pos (show ((mixB key nonce plain).size : Int) = (plain.size : Int) by omega), g1, show ((16 : Nat) : Int) = 16 from rfl, bne_self_eq_false, agoralaw06_SealOpens.j0, if_neg (by decide)]
  have first : ∃ x b, seal_Open.f key nonce (mixB key nonce plain) bg = some (x, b) ∧ (b != (bg.toList == (tagB key nonce (mixB key nonce plain)).toList)) = false := by
    by_cases ht : bg = tagB key nonce (mixB key nonce plain)
    · exact ⟨_, _, open_in _ _ _ _ (by omega) (by omega) (by omega) ht, by rw [ht, beq_self_eq_true]; rfl⟩
    · exact ⟨_, _, open_out _ _ _ _ (by omega) (by omega) (by omega) ht, by rw [beq_eq_false_iff_ne.2 (fun e => ht (bytes_inj e))]; rfl⟩
  obtain ⟨x, b, e1, e2⟩ := first
  rw [e1, Option.bind_some, e2, if_neg (by decide)]
  by_cases ht : bg = tagB key bn bd
  · rw [open_in _ _ _ _ (by omega) (by omega) (by omega) ht, Option.bind_some, if_pos rfl, if_pos rfl, seal_at key bn (mixB key bn bd) (by omega) (by omega) (by rw [mixB_size]; omega), Option.bind_some, mix_mix, ← ht]
    simp
  · rw [open_out _ _ _ _ (by omega) (by omega) (by omega) ht, Option.bind_some, if_neg (by decide), if_pos rfl]; exact congrArg some empty_ok
end Go.Proofs.Ytdmeclmniooedaa.Pure
end PureSealOpens_
