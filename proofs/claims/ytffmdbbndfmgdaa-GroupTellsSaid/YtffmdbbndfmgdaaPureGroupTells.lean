/- GroupTells as a statement on numbers: for all ints every function of package group answers what the reference answers. -/
import Derived.Test.YtffmdbbndfmgdaaRef04
import Derived.Test.YtffmdbbndfmgdaaP3
namespace Go.Proofs.Ytffmdbbndfmgdaa.Pure
open Go.RowKit Go.Proofs.Ytffmdbbndfmgdaa.P Go.Proofs.Ytffmdbbndfmgdaa.Grp

theorem GroupTells : agoralaw04_GroupTells.Pure := by
  intro a b ha hb
  have hb2 : b < 9223372036854775808 := by
    have := bd64 hb; omega
  have h0 : 74 ≤ 200 := by decide
  have h1 : 74 ≤ 199 := by decide
  have j : agoralaw04_GroupTells.j0 200 a b true false = some true := by
    rw [show 200 = 199 + 1 from rfl, agoralaw04_GroupTells.j0, if_neg (by decide)]
    rw [add_eq, Option.bind_some, radd_eq, Option.bind_some, if_pos rfl, sub_eq, Option.bind_some, rsub_eq, Option.bind_some, if_pos rfl, mul_at h1, Option.bind_some, rmul_eq, Option.bind_some, if_pos rfl,
      exp_at h1 a b hb2, Option.bind_some, rexp_at h1 a b hb2, Option.bind_some, addN_eq, Option.bind_some, raddN_eq, Option.bind_some, if_pos rfl, subN_eq, Option.bind_some, rsubN_eq, Option.bind_some, if_pos rfl,
      mulN_at h1, Option.bind_some, rmulN_eq, Option.bind_some, if_pos rfl, if_pos rfl, beq_self_eq_true]
  refine ⟨200, ?_⟩
  unfold agoralaw04_GroupTells.f
  rw [small_ok, Option.bind_some, inv_at h0, rinv_at (by decide)]
  by_cases h : a % 2305843009213693951 = 0
  · rw [if_pos h, Option.bind_some, Option.bind_some, if_pos rfl]
    exact j
  · rw [if_neg h, Option.bind_some, Option.bind_some, if_pos rfl]
    exact j
end Go.Proofs.Ytffmdbbndfmgdaa.Pure
