/- Texts of this claim, merged: what the functions that the law reaches compute, and what that says. -/
import Derived.Test.YtdmeclmniooedaaKC5
import Derived.Test.YtdmeclmniooedaaKC20
import Derived.Test.YtdmeclmniooedaaKC21
import Derived.Test.YtdmeclmniooedaaKC24
import Derived.Test.YtdmeclmniooedaaKCSealTellsF
import Derived.Test.YtdmeclmniooedaaKC27
section PureSealTells_
namespace Go.Proofs.Ytdmeclmniooedaa.Pure
open Go.RowKit Go.Proofs.Ytdmeclmniooedaa.P Go.Proofs.Ytdmeclmniooedaa.ShaL Go.Proofs.Ytdmeclmniooedaa.Grp Go.Proofs.Ytdmeclmniooedaa.Rng Go.Proofs.Ytdmeclmniooedaa.Sl Go.Proofs.YtdmeclmniooedaaW.PrintWords Go.Proofs.YtdmeclmniooedaaW.PrintLast
set_option linter.unusedVariables false
theorem SealTells (key nonce plain bn bd bg : ByteArray) (pub x tt eph : Int) (wn wd wg : ByteArray)
    (hpub : (Lit.int .i64 pub).wf = true) (hx : (Lit.int .i64 x).wf = true) (htt : (Lit.int .i64 tt).wf = true) (heph : (Lit.int .i64 eph).wf = true)
    (h0 : key.size ≤ 140737488351232) (h1 : nonce.size ≤ 140737488351232) (h2 : plain.size ≤ 140737488351232) (h3 : bn.size ≤ 140737488351232) (h4 : bd.size ≤ 140737488351232) (h5 : bg.size ≤ 140737488351232)
    (h6 : wn.size ≤ 140737488351232) (h7 : wd.size ≤ 140737488351232) (h8 : wg.size ≤ 140737488351232) :
    agoralaw06_SealTells.f 3000 key nonce plain bn bd bg pub x tt eph wn wd wg = some true := by
  have hz : szs [key, nonce, plain, bn, bd, bg, wn, wd, wg] = key.size + (nonce.size + (plain.size + (bn.size + (bd.size + (bg.size + (wn.size + (wd.size + (wg.size + 0)))))))) := rfl
  unfold agoralaw06_SealTells.f
  rw [smallR _ (by decide), Option.bind_some, few_at _ (by simp) (by decide) (by omega), Option.bind_some]
  by_cases hf : (szs [key, nonce, plain, bn, bd, bg, wn, wd, wg] : Int) ≤ 2000
  rotate_left
  · rw [decide_eq_false hf, if_neg (by decide)]
  have g0 : key.size ≤ 2000 := by omega
  have g1 : nonce.size ≤ 2000 := by omega
  have g2 : plain.size ≤ 2000 := by omega
  have g3 : bn.size ≤ 2000 := by omega
  have g4 : bd.size ≤ 2000 := by omega
  have g6 : wn.size ≤ 2000 := by omega
  have g7 : wd.size ≤ 2000 := by omega
  rw [decide_eq_true hf, if_pos rfl]
  clear hf hz
  obtain ⟨o1, o2, ho⟩ : ∃ o1 o2, seal_Open.f key bn bd bg = some (o1, o2) := by
    by_cases h : bg = tagB key bn bd
    · exact ⟨_, _, open_in _ _ _ _ (by omega) (by omega) (by omega) h⟩
    · exact ⟨_, _, open_out _ _ _ _ (by omega) (by omega) (by omega) h⟩
  obtain ⟨w1, w2, w3, w4, w5, w6, hw, hw'⟩ : ∃ w1 w2 w3 w4 w5 w6, seal_Wrap.f 3000 pub nonce plain = some (w1, w2, w3, w4, w5, w6) ∧ agoraref06_Wrap.f 3000 pub nonce plain = some (w1, w2, w3, w4, w5, w6) := by
    by_cases h : 1 ≤ pub ∧ pub < 2305843009213693951
    · exact ⟨_, _, _, _, _, _, wrap_in (by decide) _ _ _ h.1 h.2 (by omega) (by omega), rwrap_in _ _ _ (by omega) h.1 h.2 (by omega) (by omega)⟩
    · exact ⟨_, _, _, _, _, _, wrap_out _ _ _ _ h, rwrap_out (by decide) _ _ _ h⟩
  obtain ⟨u1, u2, hu, hu'⟩ : ∃ u1 u2, seal_Unwrap.f 3000 x tt eph wn wd wg = some (u1, u2) ∧ agoraref06_Unwrap.f 3000 x tt eph wn wd wg = some (u1, u2) := by
    by_cases h : Fits x tt eph
    · have hks : (keyB tt eph (pw eph x.toNat)).size ≤ 100000 := by rw [keyB, hB_size]; omega
      rw [unwrap_in (by decide) x tt eph wn wd wg h, runwrap_in x tt eph wn wd wg (by omega) (by omega) (by omega) h]
      by_cases h' : wg = tagB (keyB tt eph (pw eph x.toNat)) wn wd
      · exact ⟨_, _, open_in _ _ _ _ hks (by omega) (by omega) h', open_in _ _ _ _ hks (by omega) (by omega) h'⟩
      · exact ⟨_, _, open_out _ _ _ _ hks (by omega) (by omega) h', open_out _ _ _ _ hks (by omega) (by omega) h'⟩
    · exact ⟨_, _, unwrap_out (by decide) _ _ _ _ _ _ h, runwrap_out (by decide) _ _ _ _ _ _ h⟩
  rw [ho, Option.bind_some, ropen_eq key bn bd bg (by omega) (by omega) (by omega) (by omega), ho, Option.bind_some, hw, Option.bind_some, hw', Option.bind_some, hu, Option.bind_some, hu', Option.bind_some, if_pos rfl,
    seal_at key nonce plain (by omega) (by omega) (by omega), Option.bind_some, rseal_at key nonce plain (by omega) (by omega) (by omega) (by omega), Option.bind_some]
  simp
end Go.Proofs.Ytdmeclmniooedaa.Pure
end PureSealTells_
