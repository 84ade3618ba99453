/- sum.Crc computes the checksum; small() holds. -/
import Derived.Test.YtloieoneckjjeaaP3
import Derived.Test.YtloieoneckjjeaaCrcL
import Derived.Test.YtloieoneckjjeaaShaF
import Derived.Laws.BitsAllLaws
namespace Go.Proofs.Ytloieoneckjjeaa.Pure
open Go.RowKit Go.Proofs.Ytloieoneckjjeaa.P Go.Proofs.Ytloieoneckjjeaa.ShaL Go.Proofs.Ytloieoneckjjeaa.CrcL Go.Proofs.YtloieoneckjjeaaW.PrintWords Go.Proofs.YtloieoneckjjeaaW.PrintLast
set_option linter.unusedVariables false

theorem small_ok : agoralaw03_small.f 200 = some true := by decide +kernel

theorem smallR (k : Nat) (hk : 200 ≤ k) : agoralaw03_small.f k = some true := at_rounds agoralaw03_small.mono hk small_ok
theorem bdu32 {n : Int} (h : (Lit.int .u32 n).wf = true) : ∃ t : Nat, n = (t : Int) ∧ t < 4294967296 := by
  simp only [Lit.wf, IntKind.min, IntKind.max, IntKind.signed, IntKind.bits, Bool.and_eq_true, decide_eq_true_eq, Bool.false_eq_true, if_false] at h
  exact ⟨n.toNat, by omega, by omega⟩
theorem bd64 {n : Int} (h : (Lit.int .i64 n).wf = true) : -9223372036854775808 ≤ n ∧ n ≤ 9223372036854775807 := by
  simp only [Lit.wf, IntKind.min, IntKind.max, IntKind.signed, IntKind.bits, Bool.and_eq_true, decide_eq_true_eq, if_true] at h
  omega
theorem bts_append (a b : ByteArray) : bts (a ++ b) = bts a ++ bts b := by
  simp [bts, ByteArray.data_append]
theorem bts_nums (l : List Nat) (h : ∀ n ∈ l, n < 256) : bts (strOfNums (l.map fun n : Nat => (n : Int))) = l := by
  simp only [bts, strOfNums, List.map_map]
  conv => rhs; rw [← List.map_id l]
  refine List.map_congr_left fun n hn => ?_
  have := h n hn
  simp only [Function.comp_apply, id, Int.toNat_natCast]
  rw [UInt8.toNat_ofNat']; omega

theorem stp_int (x : Nat) (hx : x < 4294967296) : Go.bits .xor .u32 ((x : Int) / 2) ((2197175160 * (Go.bits .and .u32 (x : Int) 1)) % 4294967296) = ((stp x : Nat) : Int) := by
  have h1 := and_nat x 1 hx (by decide)
  rw [Nat.and_one_is_mod] at h1
  rw [show ((1 : Nat) : Int) = 1 from rfl] at h1
  rw [h1]
  have h2 : (2197175160 * ((x % 2 : Nat) : Int)) % 4294967296 = ((2197175160 * (x % 2) : Nat) : Int) := by omega
  rw [h2, show (x : Int) / 2 = ((x / 2 : Nat) : Int) from rfl, xor_nat _ _ (by omega) (by omega)]
  rfl
theorem crc_l1 (s : ByteArray) (k j c i : Nat) (hj : j ≤ 8) (hc : c < 4294967296) (m : Int) (hk : 9 - j ≤ k) :
    sum_Crc.l1 k s (c : Int) m (i : Int) ((j : Nat) : Int) = sum_Crc.l0 (k - (9 - j)) s ((itS (8 - j) c : Nat) : Int) m (wrap64 ((i : Int) + 1)) := by
  induction h : 8 - j generalizing j c k with
  | zero =>
    obtain rfl : j = 8 := by omega
    obtain ⟨k, rfl⟩ : ∃ k', k = k' + 1 := ⟨k - 1, by omega⟩
    rw [sum_Crc.l1, if_neg (by omega)]
    rfl
  | succ n ih =>
    obtain ⟨k, rfl⟩ : ∃ k', k = k' + 1 := ⟨k - 1, by omega⟩
    rw [sum_Crc.l1, if_pos (by omega), stp_int c hc, show wrap64 ((j : Int) + 1) = ((j + 1 : Nat) : Int) by rw [wrap64]; omega]
    rw [ih k (j + 1) (stp c) (by omega) (stp_lt c hc) (by omega) (by omega)]
    congr 1
    omega
theorem crc_l0 (s : ByteArray) (hs : s.size ≤ 1099511627776) (n : Nat) : ∀ (k c i : Nat), i + n = s.size → c < 4294967296 → 10 * n + 1 ≤ k →
    sum_Crc.l0 k s (c : Int) (s.size : Int) (i : Int) = some ((4294967295 ^^^ reg c ((bts s).drop i) : Nat) : Int) := by
  induction n with
  | zero =>
    intro k c i hi hc hk
    obtain ⟨k, rfl⟩ : ∃ k', k = k' + 1 := ⟨k - 1, by omega⟩
    rw [sum_Crc.l0, if_neg (by omega), List.drop_eq_nil_of_le (by rw [bts_length]; omega)]
    exact congrArg some (xor_nat 4294967295 c (by decide) hc)
  | succ n ih =>
    intro k c i hi hc hk
    obtain ⟨k, rfl⟩ : ∃ k', k = k' + 1 := ⟨k - 1, by omega⟩
    have hlt : i < (bts s).length := by rw [bts_length]; omega
    have hb : (bts s).getD i 0 < 256 := by
      rw [List.getD_eq_getElem?_getD, List.getElem?_eq_getElem hlt]
      exact bts_lt s _ (List.getElem_mem hlt)
    have hd : (bts s).drop i = (bts s).getD i 0 :: (bts s).drop (i + 1) := by
      rw [List.getD_eq_getElem?_getD, List.getElem?_eq_getElem hlt]
      exact List.drop_eq_getElem_cons hlt
    rw [sum_Crc.l0, if_pos (by omega), if_pos (by omega), if_pos (by omega), bt_nat s i (by omega), hd, reg_cons]
    generalize (bts s).getD i 0 = b at hb
    rw [show ((b : Nat) : Int) % 4294967296 = (b : Int) by omega, xor_nat c b hc (by omega)]
    have hx : c ^^^ b < 4294967296 := Nat.xor_lt_two_pow (n := 32) hc (by omega)
    have h1 := crc_l1 s k 0 (c ^^^ b) i (by omega) hx (s.size : Int) (by omega)
    rw [show ((0 : Nat) : Int) = 0 from rfl] at h1
    rw [h1, show wrap64 ((i : Int) + 1) = ((i + 1 : Nat) : Int) by rw [wrap64]; omega]
    exact ih _ _ (i + 1) (by omega) (itS_lt _ _ hx) (by omega)
theorem crc_at (s : ByteArray) (hs : s.size ≤ 1099511627776) (k : Nat) (hk : 10 * s.size + 1 ≤ k) : sum_Crc.f k s = some ((crcN (bts s) : Nat) : Int) := by
  have := crc_l0 s hs s.size k 4294967295 0 (by omega) (by decide) hk
  rw [List.drop_zero] at this
  exact this
end Go.Proofs.Ytloieoneckjjeaa.Pure
