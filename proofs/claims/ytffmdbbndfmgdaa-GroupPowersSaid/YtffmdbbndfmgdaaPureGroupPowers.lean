/- GroupPowers as a statement on numbers: for all ints the laws of powers modulo 2^61 - 1 under the program's functions. -/
import Derived.Test.YtffmdbbndfmgdaaGrpLaw
import Derived.Test.YtffmdbbndfmgdaaP4
namespace Go.Proofs.Ytffmdbbndfmgdaa.Pure
open Go.RowKit Go.Proofs.Ytffmdbbndfmgdaa.P Go.Proofs.Ytffmdbbndfmgdaa.Grp

theorem powers_j1 (a b d e : Int) (hd : d < 9223372036854775808) (he : e < 9223372036854775808) (h : a % 2305843009213693951 ≠ 0) :
    agoralaw04_GroupPowers.j1 200 a b d e true false = some true := by
  have hk : 74 ≤ 199 := by decide
  rw [show 200 = 199 + 1 from rfl, agoralaw04_GroupPowers.j1, if_neg (by decide)]
  have hn := pw_ne_mod h (ex d)
  have e1 : pw a (ex d) * pw a (ex e) % 2305843009213693951 = pw a (ex ((d + e) % 2305843009213693950)) := by
    rw [pw_add]; apply pw_same h; rw [ex_mod, Int.natCast_add, Int.add_emod, ex_mod, ex_mod, ← Int.add_emod, Int.emod_emod]
  have e2 : pw (pw a (ex d)) (ex e) = pw a (ex (d * e % 2305843009213693950)) := by
    rw [pw_pw]; apply pw_same h; rw [ex_mod, Int.natCast_mul, Int.mul_emod, ex_mod, ex_mod, ← Int.mul_emod, Int.emod_emod]
  have e3 : pw a (ex d) * pw b (ex d) % 2305843009213693951 = pw (a * b % 2305843009213693951) (ex d) := by
    rw [pw_mul, pw_mod]
  have e4 : pw (pw a (ex d)) 2305843009213693949 = pw a (ex ((0 - d) % 2305843009213693950)) := by
    rw [pw_pw]; apply pw_same h
    have := ex_mod d
    rw [ex_mod, Int.natCast_mul]; omega
  have e5 : pw a (ex d) = pw a (ex ((d + 0) % 2305843009213693950)) := by
    apply pw_same h; rw [ex_mod, ex_mod]; omega
  rw [exp_at hk a d hd, Option.bind_some, exp_at hk a e he, Option.bind_some, mul_at hk, Option.bind_some, addN_eq, Option.bind_some, exp_at hk a _ (by omega), Option.bind_some, Option.bind_some, exp_at hk _ e he, Option.bind_some,
    mulN_at hk, Option.bind_some, exp_at hk a _ (by omega), Option.bind_some, Option.bind_some, exp_at hk b d hd, Option.bind_some, mul_at hk, Option.bind_some, mul_at hk, Option.bind_some, exp_at hk _ d hd, Option.bind_some,
    Option.bind_some, inv_at hk, if_neg hn, Option.bind_some, if_pos rfl, subN_eq, Option.bind_some, exp_at hk a _ (by omega), Option.bind_some, if_pos e4, Option.bind_some, addN_eq, Option.bind_some, exp_at hk a _ (by omega), Option.bind_some,
    if_pos rfl, if_pos e1, if_pos e2, if_pos e3, ← e5, beq_self_eq_true]

theorem GroupPowers : agoralaw04_GroupPowers.Pure := by
  intro a b d e _ _ hd he
  have hd2 := bd64 hd
  have he2 := bd64 he
  refine ⟨201, ?_⟩
  have hk : 74 ≤ 201 := by decide
  unfold agoralaw04_GroupPowers.f
  have ex0 : ex 0 = 0 := by decide
  have ex1 : ex 1 = 1 := by decide
  have ex2 : ex 2 = 2 := by decide
  have p2 : pw a 2 = a * a % 2305843009213693951 := by
    rw [show (2 : Nat) = 1 + 1 from rfl, ← pw_add, pw_1, ← Int.mul_emod]
  rw [small_more (by decide), Option.bind_some, exp_at hk a 0 (by decide), Option.bind_some, ex0, if_pos (pw_0 a), exp_at hk a 1 (by decide), Option.bind_some, ex1, add_eq, Option.bind_some, if_pos (by rw [pw_1, Int.add_zero]),
    exp_at hk a 2 (by decide), Option.bind_some, ex2, mul_at hk, Option.bind_some, p2, bne_self_eq_false, show 201 = 200 + 1 from rfl, agoralaw04_GroupPowers.j0, if_neg (by decide), add_eq, Option.bind_some]
  by_cases h : (a + 0) % 2305843009213693951 = 0
  · rw [if_pos h, show 200 = 199 + 1 from rfl, agoralaw04_GroupPowers.j1, if_pos rfl]
  · rw [if_neg h, add_eq, Option.bind_some]
    by_cases h' : (b + 0) % 2305843009213693951 = 0
    · rw [h', show 200 = 199 + 1 from rfl, agoralaw04_GroupPowers.j1, if_pos (by decide)]
    · rw [beq_eq_false_iff_ne.2 h']
      rw [Int.add_zero] at h
      exact powers_j1 a b d e (by omega) (by omega) h
end Go.Proofs.Ytffmdbbndfmgdaa.Pure
