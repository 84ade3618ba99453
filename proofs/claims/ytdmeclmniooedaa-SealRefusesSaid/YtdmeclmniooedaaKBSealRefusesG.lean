/- Texts of this claim, merged: what the functions that the law reaches compute, and what that says. -/
import Derived.Test.YtdmeclmniooedaaKB5
import Derived.Test.YtdmeclmniooedaaKB20
import Derived.Test.YtdmeclmniooedaaKB21
import Derived.Test.YtdmeclmniooedaaKB27
import Derived.Test.YtdmeclmniooedaaKBSealRefusesF
section PureSealRefuses_
namespace Go.Proofs.Ytdmeclmniooedaa.Pure
open Go.RowKit Go.Proofs.Ytdmeclmniooedaa.P Go.Proofs.Ytdmeclmniooedaa.ShaL Go.Proofs.Ytdmeclmniooedaa.Grp Go.Proofs.Ytdmeclmniooedaa.Rng Go.Proofs.Ytdmeclmniooedaa.Sl Go.Proofs.YtdmeclmniooedaaW.PrintWords Go.Proofs.YtdmeclmniooedaaW.PrintLast
set_option linter.unusedVariables false
theorem SealRefuses (n : Int) (seed plain : ByteArray) (tt eph : Int) (bn bd bg : ByteArray) (hn : (Lit.int .i64 n).wf = true)
    (h1 : seed.size ≤ 140737488351232) (h2 : plain.size ≤ 140737488351232) (h3 : bn.size ≤ 140737488351232) (h4 : bd.size ≤ 140737488351232) (h5 : bg.size ≤ 140737488351232) :
    agoralaw06_SealRefuses.f 300 n seed plain tt eph bn bd bg = some true := by
  have hz : szs [seed, plain, bn, bd, bg] = seed.size + (plain.size + (bn.size + (bd.size + (bg.size + 0)))) := rfl
  unfold agoralaw06_SealRefuses.f
  rw [smallR _ (by decide), Option.bind_some, few_at _ (by simp) (by decide) (by omega), Option.bind_some]
  by_cases hf : (szs [seed, plain, bn, bd, bg] : Int) ≤ 2000
  rotate_left
  · rw [decide_eq_false hf, if_neg (by decide)]
  rw [decide_eq_true hf, if_pos rfl]
  have go : agoralaw06_SealRefuses.j0 300 n true false tt eph bn bd bg = some true := by
    rw [agoralaw06_SealRefuses.j0, if_neg (by decide)]
    by_cases hfit : Fits n tt eph
    rotate_left
    · rw [unwrap_out (by decide) _ _ _ _ _ _ hfit, Option.bind_some, if_neg (by decide), if_pos rfl]; exact congrArg some empty_ok
    have hks : (keyB tt eph (pw eph n.toNat)).size = 32 := hB_size _
    rw [unwrap_in (by decide) _ _ _ _ _ _ hfit]
    by_cases ht : bg = tagB (keyB tt eph (pw eph n.toNat)) bn bd
    · rw [open_in _ _ _ _ (by omega) (by omega) (by omega) ht, Option.bind_some, if_pos rfl, if_pos rfl, if_pos hfit.1, if_pos hfit.2.1, exp_in (by decide) _ _ (by have := hfit.1; omega) (by have := hfit.2.1; omega), Option.bind_some,
        if_pos hfit.2.2.1, if_pos hfit.2.2.2.1, decide_eq_true hfit.2.2.2.2]
    · rw [open_out _ _ _ _ (by omega) (by omega) (by omega) ht, Option.bind_some, if_neg (by decide), if_pos rfl]; exact congrArg some empty_ok
  by_cases hp : 1 ≤ n ∧ n < 2305843009213693951
  · rw [wrap_in (by decide) n seed plain hp.1 hp.2 (by omega) (by omega), Option.bind_some, if_pos hp.1, decide_eq_true hp.2]
    exact go
  · rw [wrap_out _ n seed plain hp, Option.bind_some]
    by_cases hq : n ≥ 1
    · rw [if_pos hq, decide_eq_false (fun h => hp ⟨hq, h⟩)]; exact go
    · rw [if_neg hq]; exact go
end Go.Proofs.Ytdmeclmniooedaa.Pure
end PureSealRefuses_
