/- GroupField as a statement on numbers: for all ints the residues modulo 2^61 - 1 are a field under the program's functions. -/
import Derived.Test.YtffmdbbndfmgdaaGrpLaw
import Derived.Test.YtffmdbbndfmgdaaP4
namespace Go.Proofs.Ytffmdbbndfmgdaa.Pure
open Go.RowKit Go.Proofs.Ytffmdbbndfmgdaa.P Go.Proofs.Ytffmdbbndfmgdaa.Grp

theorem bsome {α β : Type} (a : α) (f : α → Option β) : (some a).bind f = f a := by rw [Option.bind_some]

theorem in_ok {x m : Int} (h0 : 0 ≤ x) (h : x < m) : agoralaw04_in.f x m = some true := by
  unfold agoralaw04_in.f; rw [if_pos (by omega), decide_eq_true h]

theorem md (a : Int) : 0 ≤ a % 2305843009213693951 ∧ a % 2305843009213693951 < 2305843009213693951 := by omega

theorem mulm (a b : Int) : a % 2305843009213693951 * b % 2305843009213693951 = a * b % 2305843009213693951 := by rw [Int.mul_emod, Int.emod_emod, ← Int.mul_emod]
theorem mulm' (a b : Int) : a * (b % 2305843009213693951) % 2305843009213693951 = a * b % 2305843009213693951 := by rw [Int.mul_emod, Int.emod_emod, ← Int.mul_emod]

theorem six (a b : Int) (hab : a % 2305843009213693951 ≠ 0 ∨ b % 2305843009213693951 = 0) : ((a * b % 2305843009213693951 == 0) == ((b + 0) % 2305843009213693951 == 0)) = true := by
  have h := mul_zero_iff a b
  rw [Int.add_zero]
  by_cases hb : b % 2305843009213693951 = 0
  · rw [h.2 (.inr hb), hb]; rfl
  · have ha : a % 2305843009213693951 ≠ 0 := hab.resolve_right hb
    have h0 : ¬ a * b % 2305843009213693951 = 0 := fun e => (h.1 e).elim ha hb
    rw [beq_eq_false_iff_ne.2 h0, beq_eq_false_iff_ne.2 hb]; rfl

theorem GroupField : agoralaw04_GroupField.Pure := by
  intro a b c _ _ _
  refine ⟨200, ?_⟩
  have hk : 74 ≤ 200 := by decide
  unfold agoralaw04_GroupField.f
  simp only [small_ok, add_eq, sub_eq, mul_at hk, inv_at hk, bsome]
  rw [in_ok (md (a + 0)).1 (md (a + 0)).2, bsome, if_pos rfl]
  rw [if_pos (show a * 1 % 2305843009213693951 = (a + 0) % 2305843009213693951 by omega)]
  rw [if_pos (show (a - 0) % 2305843009213693951 = (a + 0) % 2305843009213693951 by omega)]
  rw [if_pos (show ((a + 0) % 2305843009213693951 + 2305843009213693951) % 2305843009213693951 = (a + 0) % 2305843009213693951 by omega)]
  rw [if_pos (show (a + b) % 2305843009213693951 = (b + a) % 2305843009213693951 by rw [Int.add_comm])]
  rw [if_pos (show a * b % 2305843009213693951 = b * a % 2305843009213693951 by rw [Int.mul_comm])]
  rw [if_pos (show ((a + b) % 2305843009213693951 + c) % 2305843009213693951 = (a + (b + c) % 2305843009213693951) % 2305843009213693951 by omega)]
  have h1 : (a - a) % 2305843009213693951 = 0 := by omega
  have h2 : ((a + b) % 2305843009213693951 - b) % 2305843009213693951 = (a + 0) % 2305843009213693951 := by omega
  have h3 : a * b % 2305843009213693951 * c % 2305843009213693951 = a * (b * c % 2305843009213693951) % 2305843009213693951 := by rw [mulm, mulm', Int.mul_assoc]
  have h4 : a * ((b + c) % 2305843009213693951) % 2305843009213693951 = (a * b % 2305843009213693951 + a * c % 2305843009213693951) % 2305843009213693951 := by
    rw [mulm', ← Int.add_emod, Int.mul_add]
  have e0 : (a + 0) % 2305843009213693951 = a % 2305843009213693951 := by rw [Int.add_zero]
  by_cases h : a % 2305843009213693951 = 0
  · have hz : a * b % 2305843009213693951 = 0 := (mul_zero_iff a b).2 (.inl h)
    rw [hz] at h3 h4
    rw [e0, h] at h2
    simp only [h, e0, if_pos, bsome, h1, h2, hz]
    rw [if_pos (by decide), if_neg (by decide), if_pos h3, if_pos h4]
    rfl
  · have hb := pw_bounds a 2305843009213693949
    have hi := inv_law h
    have hj : b * a % 2305843009213693951 * pw a 2305843009213693949 % 2305843009213693951 = (b + 0) % 2305843009213693951 := by
      rw [mulm, Int.mul_assoc, ← mulm', hi, Int.mul_one, Int.add_zero]
    have h6 := six a b (.inl h)
    have hne : ((a % 2305843009213693951) != 0) = true := by simpa using h
    rw [e0] at h2
    simp only [h, e0, if_neg, if_pos, bsome, hne, in_ok hb.1 hb.2, hi, hj, h1, h2, h3, h4, h6, not_false_eq_true, beq_self_eq_true]
end Go.Proofs.Ytffmdbbndfmgdaa.Pure
