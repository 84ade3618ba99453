/- Texts of this claim, merged: what the functions that the law reaches compute, and what that says. -/
import Derived.Test.YtdmeclmniooedaaKC12
import Derived.Test.YtdmeclmniooedaaKC20
import Derived.Test.YtdmeclmniooedaaKC24
section NumL_
namespace Go.Proofs.Ytdmeclmniooedaa.NumL
open Go.RowKit Go.Proofs.Ytdmeclmniooedaa.P Go.Proofs.Ytdmeclmniooedaa.ShaL Go.Proofs.YtdmeclmniooedaaW.PrintWords Go.Proofs.YtdmeclmniooedaaW.PrintLast
set_option linter.unusedVariables false
def beTo (l : List Nat) : Nat → Nat
  | 0 => 0
  | i + 1 => beTo l i * 256 + l.getD i 0
theorem beTo_lt (l : List Nat) (h : ∀ j, l.getD j 0 < 256) (i : Nat) : beTo l i < 256 ^ i := by
  induction i with
  | zero => exact Nat.one_pos
  | succ i ih => rw [beTo, Nat.pow_succ]; have := h i; omega
theorem bts_get (s : ByteArray) (i : Nat) : (bts s).getD i 0 < 256 := by
  rw [List.getD_eq_getElem?_getD]
  cases e : (bts s)[i]? with
  | none => simp
  | some x => simpa using bts_lt s x (List.mem_of_getElem? e)
theorem or64 (a b : Nat) (ha : a < 72057594037927936) (hb : b < 256) : Go.bits .or .u64 (IntKind.u64.wrap ((a : Int) * 256)) (IntKind.u64.wrap (b : Int)) = ((a * 256 + b : Nat) : Int) := by
  rw [IntKind.wrap_u64, IntKind.wrap_u64, show ((a : Int) * 256) % 18446744073709551616 = ((a * 256 : Nat) : Int) by omega, show (b : Int) % 18446744073709551616 = (b : Int) by omega, u64_or_nat _ _ (by omega) (by omega)]
  congr 1
  have := Nat.two_pow_add_eq_or_of_lt (i := 8) (b := b) (by omega) a
  rw [Nat.mul_comm] at this
  exact this.symm
theorem num_l0 (s : ByteArray) (m : Nat) : ∀ (k i : Nat), i + m = 8 → m + 1 ≤ k → sum_Num.l0 k s ((beTo (bts s) i : Nat) : Int) (i : Int) = some (((beTo (bts s) 8) / 8 : Nat) : Int) := by
  induction m with
  | zero =>
    intro k i hi hk
    obtain ⟨k, rfl⟩ : ∃ k', k = k' + 1 := ⟨k - 1, by omega⟩
    obtain rfl : i = 8 := by omega
    have := beTo_lt (bts s) (bts_get s) 8
    rw [sum_Num.l0, if_neg (by omega)]
    congr 1
    rw [wrap64]; omega
  | succ m ih =>
    intro k i hi hk
    obtain ⟨k, rfl⟩ : ∃ k', k = k' + 1 := ⟨k - 1, by omega⟩
    have hb := beTo_lt (bts s) (bts_get s) i
    have hb7 : beTo (bts s) i < 72057594037927936 := Nat.lt_of_lt_of_le hb (Nat.pow_le_pow_right (n := 256) (by decide) (show i ≤ 7 by omega))
    have hw : wrap64 ((i : Int) + 1) = ((i + 1 : Nat) : Int) := by rw [wrap64]; omega
    have := ih k (i + 1) (by omega) (by omega)
    rw [sum_Num.l0, if_pos (by omega), hw]
    by_cases hs : (i : Int) < (s.size : Int)
    · rw [if_pos hs, if_pos (by omega), bt_nat s i (by omega), or64 _ _ hb7 (bts_get s i)]
      exact this
    · have hz : (bts s).getD i 0 = 0 := by
        rw [List.getD_eq_getElem?_getD, List.getElem?_eq_none (by rw [bts_length]; omega)]; rfl
      rw [if_neg hs, IntKind.wrap_u64, show ((beTo (bts s) i : Nat) : Int) * 256 % 18446744073709551616 = ((beTo (bts s) i * 256 : Nat) : Int) by omega]
      rw [beTo, hz, Nat.add_zero] at this
      exact this
def numN (l : List Nat) : Nat := beTo l 8 / 8
theorem num_at (s : ByteArray) (k : Nat) (hk : 10 ≤ k) : sum_Num.f k s = some ((numN (bts s) : Nat) : Int) := num_l0 s 8 k 0 (by omega) (by omega)
theorem refnum_end (s : ByteArray) (k : Nat) (x : Int) : agoraref03_Num.l0 (k + 1) s x ((8 : Nat) : Int) = some x := by
  rw [agoraref03_Num.l0, if_neg (by omega)]
theorem refnum_l0 (s : ByteArray) (m : Nat) : ∀ (k i : Nat), i + m = 7 → m + 2 ≤ k → agoraref03_Num.l0 k s ((beTo (bts s) i : Nat) : Int) (i : Int) = some ((numN (bts s) : Nat) : Int) := by
  induction m with
  | zero =>
    intro k i hi hk
    obtain ⟨k, rfl⟩ : ∃ k', k = k' + 2 := ⟨k - 2, by omega⟩
    obtain rfl : i = 7 := by omega
    have hb := beTo_lt (bts s) (bts_get s) 7
    have h8 := bts_get s 7
    have e8 : numN (bts s) = 32 * beTo (bts s) 7 + (bts s).getD 7 0 / 8 := by
      rw [numN, show beTo (bts s) 8 = beTo (bts s) 7 * 256 + (bts s).getD 7 0 from rfl]; omega
    have hw : wrap64 (((7 : Nat) : Int) + 1) = ((8 : Nat) : Int) := by rw [wrap64]; omega
    rw [agoraref03_Num.l0, if_pos (by omega), hw, e8]
    by_cases hs : ((7 : Nat) : Int) < (s.size : Int)
    · rw [if_pos hs, if_pos (by omega), if_neg (by omega), bt_nat s 7 (by omega), refnum_end]
      clear e8 hw
      generalize (bts s).getD 7 0 = b at h8
      generalize beTo (bts s) 7 = a at hb
      have t : wrap64 (Int.tdiv (wrap64 (b : Int)) 8) = ((b / 8 : Nat) : Int) := by
        rw [show wrap64 (b : Int) = (b : Int) by rw [wrap64]; omega, Int.tdiv_eq_ediv_of_nonneg (by omega), wrap64]; omega
      rw [t]
      congr 1
      rw [wrap64, wrap64]; omega
    · have hz : (bts s).getD 7 0 = 0 := by
        rw [List.getD_eq_getElem?_getD, List.getElem?_eq_none (by rw [bts_length]; omega)]; rfl
      rw [if_neg hs, if_neg (by omega), refnum_end, hz]
      clear e8 hw hz h8
      generalize beTo (bts s) 7 = a at hb
      congr 1
      rw [wrap64, wrap64]; omega
  | succ m ih =>
    intro k i hi hk
    obtain ⟨k, rfl⟩ : ∃ k', k = k' + 1 := ⟨k - 1, by omega⟩
    have hb := beTo_lt (bts s) (bts_get s) i
    have hb7 : beTo (bts s) i < 281474976710656 := Nat.lt_of_lt_of_le hb (Nat.pow_le_pow_right (n := 256) (by decide) (show i ≤ 6 by omega))
    clear hb
    have hw : wrap64 ((i : Int) + 1) = ((i + 1 : Nat) : Int) := by rw [wrap64]; omega
    have := ih k (i + 1) (by omega) (by omega)
    have h8 := bts_get s i
    rw [beTo] at this
    rw [agoraref03_Num.l0, if_pos (by omega), hw]
    by_cases hs : (i : Int) < (s.size : Int)
    · rw [if_pos hs, if_pos (by omega), if_pos (by omega), bt_nat s i (by omega)]
      clear hw
      generalize (bts s).getD i 0 = b at h8 this
      generalize beTo (bts s) i = a at hb7 this
      rw [show wrap64 (wrap64 (256 * (a : Int)) + wrap64 (b : Int)) = ((a * 256 + b : Nat) : Int) by rw [wrap64, wrap64, wrap64]; omega]
      exact this
    · have hz : (bts s).getD i 0 = 0 := by
        rw [List.getD_eq_getElem?_getD, List.getElem?_eq_none (by rw [bts_length]; omega)]; rfl
      rw [if_neg hs, if_pos (by omega)]
      rw [hz, Nat.add_zero] at this
      clear hw hz h8
      generalize beTo (bts s) i = a at hb7 this
      rw [show wrap64 (wrap64 (256 * (a : Int)) + 0) = ((a * 256 : Nat) : Int) by rw [wrap64, wrap64]; omega]
      exact this
theorem refnum_at (s : ByteArray) (k : Nat) (hk : 10 ≤ k) : agoraref03_Num.f k s = some ((numN (bts s) : Nat) : Int) := refnum_l0 s 7 k 0 (by omega) (by omega)
end Go.Proofs.Ytdmeclmniooedaa.NumL
end NumL_
