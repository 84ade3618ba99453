/- GroupGenerates as a statement on numbers: for all ints d and e the powers of 37 with these exponents are equal exactly if d and e have the same residue modulo 2^61 - 2, and no power is 0. -/
import Derived.Test.YtffmdbbndfmgdaaGrpLaw
import Derived.Test.YtffmdbbndfmgdaaP5
namespace Go.Proofs.Ytffmdbbndfmgdaa.Pure
open Go.RowKit Go.Proofs.Ytffmdbbndfmgdaa.P Go.Proofs.Ytffmdbbndfmgdaa.Grp

theorem GroupGenerates : agoralaw04_GroupGenerates.Pure := by
  intro d e hd he
  have hd2 := bd64 hd
  have he2 := bd64 he
  refine ⟨200, ?_⟩
  have hk : 74 ≤ 200 := by decide
  have h37 : (37 : Int) % 2305843009213693951 ≠ 0 := by decide
  have hb := pw_bounds 37 (ex d)
  have h0 := pw_ne h37 (ex d)
  have hs : (pw 37 (ex d) == pw 37 (ex e)) = ((d - e) % 2305843009213693950 == 0) := by
    rw [Bool.eq_iff_iff, beq_iff_eq, beq_iff_eq, gen_same]
    have := ex_mod d
    have := ex_mod e
    omega
  unfold agoralaw04_GroupGenerates.f
  rw [small_ok, Option.bind_some, exp_at hk 37 d (by omega), Option.bind_some, exp_at hk 37 e (by omega), Option.bind_some, subN_eq, Option.bind_some, if_pos rfl, hs, if_pos (beq_self_eq_true _), if_pos (by omega), if_pos hb.2]
end Go.Proofs.Ytffmdbbndfmgdaa.Pure
