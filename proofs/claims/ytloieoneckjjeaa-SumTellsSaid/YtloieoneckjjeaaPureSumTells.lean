/- The law SumTells, plain: both sides compute the same checksum, digest, digits and number. -/
import Derived.Test.YtloieoneckjjeaaP8
import Derived.Test.YtloieoneckjjeaaRef03
import Derived.Test.YtloieoneckjjeaaNumL
namespace Go.Proofs.Ytloieoneckjjeaa.Pure
open Go.RowKit Go.Proofs.Ytloieoneckjjeaa.P Go.Proofs.Ytloieoneckjjeaa.ShaL Go.Proofs.Ytloieoneckjjeaa.CrcL Go.Proofs.Ytloieoneckjjeaa.HexL Go.Proofs.YtloieoneckjjeaaW.PrintWords Go.Proofs.YtloieoneckjjeaaW.PrintLast
set_option linter.unusedVariables false

theorem SumTells : agoralaw03_SumTells.Pure := by
  intro s hs
  refine ⟨30000, ?_⟩
  unfold agoralaw03_SumTells.f
  rw [smallR _ (by decide), Option.bind_some]
  by_cases h1 : (s.size : Int) > 2000
  · rw [if_pos h1]
  rw [if_neg h1]
  have hz : s.size ≤ 2000 := by omega
  have s1 : sum_Sha.f s = some (Sch.shaB s) := if_pos (by omega)
  have s2 : agoraref03_Sha.f s = some (Sch.shaB s) := if_pos (by omega)
  rw [unhex_at s (by omega) 30000 (by omega), Option.bind_some, Ref03.unhex_at s (by omega) 30000 (by omega), Option.bind_some, if_pos rfl, if_pos rfl, if_pos (beq_self_eq_true _),
    crc_at s (by omega) 30000 (by omega), Option.bind_some, Ref03.crc_at s (by omega) 30000 (by omega), Option.bind_some, if_pos rfl, s1, Option.bind_some, s2, Option.bind_some, if_pos rfl,
    hex_at s (by omega) 30000 (by omega), Option.bind_some, Ref03.hex_at s (by omega) 30000 (by omega), Option.bind_some, if_pos rfl,
    NumL.num_at s 30000 (by decide), Option.bind_some, NumL.refnum_at s 30000 (by decide), Option.bind_some, beq_self_eq_true]
end Go.Proofs.Ytloieoneckjjeaa.Pure
