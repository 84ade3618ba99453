/- The law SumResidue, plain. -/
import Derived.Test.YtloieoneckjjeaaP10
import Derived.Test.YtloieoneckjjeaaCrcF
namespace Go.Proofs.Ytloieoneckjjeaa.Pure
open Go.RowKit Go.Proofs.Ytloieoneckjjeaa.P Go.Proofs.Ytloieoneckjjeaa.ShaL Go.Proofs.Ytloieoneckjjeaa.CrcL Go.Proofs.YtloieoneckjjeaaW.PrintWords Go.Proofs.YtloieoneckjjeaaW.PrintLast
set_option linter.unusedVariables false

theorem bts_le4 (t : Nat) : bts (strOfNums ([((t : Nat) : Int) % 256, ((t : Nat) : Int) / 256 % 256, ((t : Nat) : Int) / 65536 % 256, ((t : Nat) : Int) / 16777216 % 256] : List Int)) = le4 t := bts_nums (le4 t) (le4_lt t)

theorem SumResidue : agoralaw03_SumResidue.Pure := by
  intro a0 a1 h0 h1
  obtain ⟨t, rfl, ht⟩ := bdu32 h1
  refine ⟨100000, ?_⟩
  unfold agoralaw03_SumResidue.f
  rw [smallR _ (by decide), Option.bind_some]
  by_cases hs : (a0.size : Int) > 4000
  · rw [if_pos hs]
  rw [if_neg hs, crc_at a0 (by omega) _ (by omega), Option.bind_some, Option.bind_some, Option.bind_some, if_pos rfl]
  have hc := crcN_lt (bts a0) (bts_lt a0)
  have z (t : Nat) : (strOfNums ([((t : Nat) : Int) % 256, ((t : Nat) : Int) / 256 % 256, ((t : Nat) : Int) / 65536 % 256, ((t : Nat) : Int) / 16777216 % 256] : List Int)).size = 4 := by
    rw [strOfNums_size]; rfl
  have s1 (t : Nat) : (a0 ++ strOfNums ([((t : Nat) : Int) % 256, ((t : Nat) : Int) / 256 % 256, ((t : Nat) : Int) / 65536 % 256, ((t : Nat) : Int) / 16777216 % 256] : List Int)).size = a0.size + 4 := by
    rw [ByteArray.size_append, z]
  rw [if_pos (by rw [z]; omega), crc_at _ (by rw [s1]; omega) _ (by rw [s1]; omega), Option.bind_some, bts_append, bts_le4]
  have r1 := (residue (bts a0) (bts_lt a0) _ hc).2 rfl
  rw [r1, if_pos (show ((1214729159 : Nat) : Int) = 1214729159 from rfl), if_pos (by rw [z]; omega), crc_at _ (by rw [s1]; omega) _ (by rw [s1]; omega), Option.bind_some, bts_append, bts_le4]
  have r2 := residue (bts a0) (bts_lt a0) t ht
  by_cases e : t = crcN (bts a0)
  · have := r2.2 e
    rw [this, e, beq_self_eq_true]; rfl
  · have h3 : ¬ crcN (bts a0 ++ le4 t) = 1214729159 := fun h => e (r2.1 h)
    have h4 : (((crcN (bts a0 ++ le4 t) : Nat) : Int) == 1214729159) = false := by
      rw [beq_eq_false_iff_ne]; omega
    have h5 : (((t : Nat) : Int) == ((crcN (bts a0) : Nat) : Int)) = false := by
      rw [beq_eq_false_iff_ne]; omega
    rw [h4, h5]; rfl
end Go.Proofs.Ytloieoneckjjeaa.Pure
