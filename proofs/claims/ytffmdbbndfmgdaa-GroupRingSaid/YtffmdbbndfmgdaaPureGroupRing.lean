/- GroupRing as a statement on numbers: for all ints the residues modulo 2^61 - 2 are a commutative ring under the program's functions. -/
import Derived.Test.YtffmdbbndfmgdaaGrpLaw
import Derived.Test.YtffmdbbndfmgdaaP5
namespace Go.Proofs.Ytffmdbbndfmgdaa.Pure
open Go.RowKit Go.Proofs.Ytffmdbbndfmgdaa.P Go.Proofs.Ytffmdbbndfmgdaa.Grp

theorem bsome_ {α β : Type} (a : α) (f : α → Option β) : (some a).bind f = f a := by rw [Option.bind_some]

theorem GroupRing : agoralaw04_GroupRing.Pure := by
  intro a b c _ _ _
  refine ⟨200, ?_⟩
  have hk : 74 ≤ 200 := by decide
  have hin : agoralaw04_in.f ((a + 0) % 2305843009213693950) 2305843009213693950 = some true := by
    unfold agoralaw04_in.f; rw [if_pos (by omega), decide_eq_true (by omega)]
  have m1 (x y : Int) : x % 2305843009213693950 * y % 2305843009213693950 = x * y % 2305843009213693950 := by rw [Int.mul_emod, Int.emod_emod, ← Int.mul_emod]
  have m2 (x y : Int) : x * (y % 2305843009213693950) % 2305843009213693950 = x * y % 2305843009213693950 := by rw [Int.mul_emod, Int.emod_emod, ← Int.mul_emod]
  unfold agoralaw04_GroupRing.f
  simp only [small_ok, addN_eq, subN_eq, mulN_at hk, bsome_]
  rw [hin, bsome_, if_pos rfl]
  rw [if_pos (show a * 1 % 2305843009213693950 = (a + 0) % 2305843009213693950 by omega)]
  rw [if_pos (show ((a + 0) % 2305843009213693950 + 2305843009213693950) % 2305843009213693950 = (a + 0) % 2305843009213693950 by omega)]
  rw [if_pos (show (a + b) % 2305843009213693950 = (b + a) % 2305843009213693950 by rw [Int.add_comm])]
  rw [if_pos (show a * b % 2305843009213693950 = b * a % 2305843009213693950 by rw [Int.mul_comm])]
  rw [if_pos (show ((a + b) % 2305843009213693950 + c) % 2305843009213693950 = (a + (b + c) % 2305843009213693950) % 2305843009213693950 by omega)]
  rw [if_pos (show (a + 0) % 2305843009213693950 * ((b + 0) % 2305843009213693950) % 2305843009213693950 = a * b % 2305843009213693950 by rw [m1, m2, Int.add_zero, Int.add_zero])]
  rw [if_pos (show ((a + 0) % 2305843009213693950 + (b + 0) % 2305843009213693950) % 2305843009213693950 = (a + b) % 2305843009213693950 by omega)]
  rw [if_pos trivial, if_pos (show (a - a) % 2305843009213693950 = 0 by omega)]
  rw [if_pos (show ((a + b) % 2305843009213693950 - b) % 2305843009213693950 = (a + 0) % 2305843009213693950 by omega)]
  rw [if_pos (show a * b % 2305843009213693950 * c % 2305843009213693950 = a * (b * c % 2305843009213693950) % 2305843009213693950 by rw [m1, m2, Int.mul_assoc])]
  rw [if_pos (show a * ((b + c) % 2305843009213693950) % 2305843009213693950 = (a * b % 2305843009213693950 + a * c % 2305843009213693950) % 2305843009213693950 by rw [m2, ← Int.add_emod, Int.mul_add])]
  rw [show ((a + 0) % 2305843009213693950 - (b + 0) % 2305843009213693950) % 2305843009213693950 = (a - b) % 2305843009213693950 by omega, beq_self_eq_true]
end Go.Proofs.Ytffmdbbndfmgdaa.Pure
