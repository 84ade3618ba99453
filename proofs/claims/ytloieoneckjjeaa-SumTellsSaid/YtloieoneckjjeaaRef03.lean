/- What the reference's Crc, Hex and Unhex compute. -/
import Derived.Test.YtloieoneckjjeaaP3
import Derived.Test.YtloieoneckjjeaaP4
import Derived.Test.YtloieoneckjjeaaP8
import Derived.Test.YtloieoneckjjeaaHexL
import Derived.Test.YtloieoneckjjeaaCrcF
namespace Go.Proofs.Ytloieoneckjjeaa.Ref03
open Go.RowKit Go.Proofs.Ytloieoneckjjeaa.P Go.Proofs.Ytloieoneckjjeaa.ShaL Go.Proofs.Ytloieoneckjjeaa.CrcL Go.Proofs.Ytloieoneckjjeaa.HexL Go.Proofs.YtloieoneckjjeaaW.PrintWords Go.Proofs.YtloieoneckjjeaaW.PrintLast
set_option linter.unusedVariables false

theorem neg32 (c : Nat) (hc : c < 4294967296) : (4294967295 - (c : Int)) % 4294967296 = ((4294967295 ^^^ c : Nat) : Int) := by
  have h : 4294967295 ^^^ c = 4294967295 - c := by
    apply Nat.eq_of_testBit_eq
    intro i
    have h1 : 4294967295 - c = 2 ^ 32 - (c + 1) := by omega
    rw [h1, Nat.testBit_two_pow_sub_succ (by omega), Nat.testBit_xor, show (4294967295 : Nat) = 2 ^ 32 - 1 from rfl, Nat.testBit_two_pow_sub_one]
    rcases Nat.lt_or_ge i 32 with hi | hi
    · simp [hi]
    · rw [Nat.testBit_lt_two_pow (Nat.lt_of_lt_of_le hc (Nat.pow_le_pow_right (n := 2) (by decide) hi))]
      simp
  rw [h]; omega
theorem odd_step (x : Nat) (hx : x < 4294967296) (h : x % 2 = 1) : Go.bits .xor .u32 ((Int.tdiv (x : Int) 2) % 4294967296) 2197175160 = ((stp x : Nat) : Int) := by
  rw [Int.tdiv_eq_ediv_of_nonneg (by omega), show ((x : Int) / 2) % 4294967296 = ((x / 2 : Nat) : Int) by omega]
  have := xor_nat (x / 2) 2197175160 (by omega) (by decide)
  rw [stp, h]
  exact this
theorem even_step (x : Nat) (hx : x < 4294967296) (h : x % 2 ≠ 1) : (Int.tdiv (x : Int) 2) % 4294967296 = ((stp x : Nat) : Int) := by
  rw [Int.tdiv_eq_ediv_of_nonneg (by omega), stp, show x % 2 = 0 by omega, Nat.mul_zero, Nat.xor_zero]; omega
theorem crc_l1 (s : ByteArray) (k j c i : Nat) (hj : j ≤ 8) (hc : c < 4294967296) (hk : 9 - j ≤ k) :
    agoraref03_Crc.l1 k s (c : Int) (i : Int) ((j : Nat) : Int) = agoraref03_Crc.l0 (k - (9 - j)) s ((itS (8 - j) c : Nat) : Int) (wrap64 ((i : Int) + 1)) := by
  induction h : 8 - j generalizing j c k with
  | zero =>
    obtain rfl : j = 8 := by omega
    obtain ⟨k, rfl⟩ : ∃ k', k = k' + 1 := ⟨k - 1, by omega⟩
    rw [agoraref03_Crc.l1, if_neg (by omega)]
    rfl
  | succ n ih =>
    obtain ⟨k, rfl⟩ : ∃ k', k = k' + 1 := ⟨k - 1, by omega⟩
    have e : agoraref03_Crc.l1 (k + 1) s (c : Int) (i : Int) ((j : Nat) : Int) = agoraref03_Crc.l1 k s ((stp c : Nat) : Int) (i : Int) ((j + 1 : Nat) : Int) := by
      rw [agoraref03_Crc.l1, if_pos (by omega), show wrap64 ((j : Int) + 1) = ((j + 1 : Nat) : Int) by rw [wrap64]; omega]
      have ht : Int.tmod (c : Int) 2 = ((c % 2 : Nat) : Int) := by rw [Int.tmod_eq_emod_of_nonneg (by omega)]; omega
      by_cases h1 : c % 2 = 1
      · rw [if_pos (by rw [ht, h1]; rfl), odd_step c hc h1]
      · rw [if_neg (by rw [ht]; omega), even_step c hc h1]
    rw [e, ih k (j + 1) (stp c) (by omega) (stp_lt c hc) (by omega) (by omega)]
    congr 1
    omega
theorem crc_l0 (s : ByteArray) (hs : s.size ≤ 1099511627776) (n : Nat) : ∀ (k c i : Nat), i + n = s.size → c < 4294967296 → 10 * n + 1 ≤ k →
    agoraref03_Crc.l0 k s (c : Int) (i : Int) = some ((4294967295 ^^^ reg c ((bts s).drop i) : Nat) : Int) := by
  induction n with
  | zero =>
    intro k c i hi hc hk
    obtain ⟨k, rfl⟩ : ∃ k', k = k' + 1 := ⟨k - 1, by omega⟩
    rw [agoraref03_Crc.l0, if_neg (by omega), List.drop_eq_nil_of_le (by rw [bts_length]; omega), neg32 c hc]
    rfl
  | succ n ih =>
    intro k c i hi hc hk
    obtain ⟨k, rfl⟩ : ∃ k', k = k' + 1 := ⟨k - 1, by omega⟩
    have hlt : i < (bts s).length := by rw [bts_length]; omega
    have hb := get_lt s i
    have hd : (bts s).drop i = (bts s).getD i 0 :: (bts s).drop (i + 1) := by
      rw [List.getD_eq_getElem?_getD, List.getElem?_eq_getElem hlt]
      exact List.drop_eq_getElem_cons hlt
    rw [agoraref03_Crc.l0, if_pos (by omega), if_pos (by omega), bt_nat s i (by omega), hd, reg_cons]
    generalize (bts s).getD i 0 = b at hb
    rw [show ((b : Nat) : Int) % 4294967296 = (b : Int) by omega, xor_nat c b hc (by omega)]
    have hx : c ^^^ b < 4294967296 := Nat.xor_lt_two_pow (n := 32) hc (by omega)
    have h1 := crc_l1 s k 0 (c ^^^ b) i (by omega) hx (by omega)
    rw [show ((0 : Nat) : Int) = 0 from rfl] at h1
    rw [h1, show wrap64 ((i : Int) + 1) = ((i + 1 : Nat) : Int) by rw [wrap64]; omega]
    exact ih _ _ (i + 1) (by omega) (itS_lt _ _ hx) (by omega)
theorem crc_at (s : ByteArray) (hs : s.size ≤ 1099511627776) (k : Nat) (hk : 10 * s.size + 1 ≤ k) : agoraref03_Crc.f k s = some ((crcN (bts s) : Nat) : Int) := by
  have := crc_l0 s hs s.size k 4294967295 0 (by omega) (by decide) hk
  rw [List.drop_zero] at this
  exact this
theorem hex_l0 (s : ByteArray) (hs : s.size ≤ 1125899906842) (m : Nat) : ∀ k i, i + m = s.size → m + 1 ≤ k →
    agoraref03_Hex.l0 k s ((hexL ((bts s).take i)).map fun n : Nat => (n : Int)) (i : Int) = some (strOfNums ((hexL (bts s)).map fun n : Nat => (n : Int))) := by
  induction m with
  | zero =>
    intro k i hi hk
    obtain ⟨k, rfl⟩ : ∃ k', k = k' + 1 := ⟨k - 1, by omega⟩
    rw [agoraref03_Hex.l0, if_neg (by omega), List.take_of_length_le (by rw [bts_length]; omega)]
  | succ m ih =>
    intro k i hi hk
    obtain ⟨k, rfl⟩ : ∃ k', k = k' + 1 := ⟨k - 1, by omega⟩
    have hb := get_lt s i
    have hll : (hexL ((bts s).take i)).length = 2 * i := by rw [hexL_length, List.length_take, bts_length]; omega
    have := ih k (i + 1) (by omega) (by omega)
    rw [hexL_take _ _ (by rw [bts_length]; omega), List.map_append] at this
    rw [agoraref03_Hex.l0, if_pos (by omega), if_pos (by omega), bt_nat s i (by omega)]
    generalize (bts s).getD i 0 = b at hb this
    have q1 : (Int.tdiv (b : Int) 16) % 256 = ((b / 16 : Nat) : Int) := by rw [Int.tdiv_eq_ediv_of_nonneg (by omega)]; omega
    have q2 : Int.tmod (b : Int) 16 = ((b % 16 : Nat) : Int) := by rw [Int.tmod_eq_emod_of_nonneg (by omega)]; omega
    have d1 := digit_at (b / 16) (by omega)
    have d2 := digit_at (b % 16) (by omega)
    unfold D at d1 d2
    rw [q1, q2, if_pos (by omega), if_pos (by omega), if_pos (by omega), if_pos (by omega), Option.bind_some, d1, d2, if_pos (by rw [List.length_map, hll]; simp only [List.length_cons, List.length_nil]; omega), show wrap64 ((i : Int) + 1) = ((i + 1 : Nat) : Int) by rw [wrap64]; omega]
    exact this
theorem hex_at (s : ByteArray) (hs : s.size ≤ 1125899906842) (k : Nat) (hk : s.size + 1 ≤ k) : agoraref03_Hex.f k s = some (strOfNums ((hexL (bts s)).map fun n : Nat => (n : Int))) :=
  hex_l0 s hs s.size k 0 (by omega) hk
theorem digit_all : (List.range 256).all (fun c => agoraref03_digit.f 1 (c : Int) == some (if digN c < 0 then 16 else digN c)) = true := by decide +kernel
theorem digitR (c : Nat) (h : c < 256) (k : Nat) (hk : 1 ≤ k) : agoraref03_digit.f k (c : Int) = some (if digN c < 0 then 16 else digN c) := by
  have := List.all_eq_true.1 digit_all c (List.mem_range.2 h)
  exact at_rounds (agoraref03_digit.mono (c : Int)) hk (beq_iff_eq.1 this)
theorem pair_at (a b : Nat) (ha : a < 16) (hb : b < 16) : (wrap64 ((wrap64 (16 * (a : Int))) + (b : Int))) % 256 = ((16 * a + b : Nat) : Int) := by
  rw [wrap64, wrap64]; omega
theorem unhex_l0 (s : ByteArray) (m : Nat) : ∀ (k i : Nat) (acc : List Nat), i + 2 * m = s.size → acc.length + 2 * m ≤ 112589990684262 → s.size ≤ 112589990684262 → m + 2 ≤ k →
    agoraref03_Unhex.l0 k s (acc.map fun n : Nat => (n : Int)) (i : Int) = some (match unhexL ((bts s).drop i) with
      | some r => (strOfNums ((acc ++ r).map fun n : Nat => (n : Int)), true)
      | none => (⟨#[]⟩, false)) := by
  induction m with
  | zero =>
    intro k i acc hx ha hs hk
    obtain ⟨k, rfl⟩ : ∃ k', k = k' + 1 := ⟨k - 1, by omega⟩
    have w1 : wrap64 ((i : Int) + 1) = ((i + 1 : Nat) : Int) := by rw [wrap64]; omega
    rw [agoraref03_Unhex.l0, w1, if_neg (by omega), List.drop_eq_nil_of_le (by rw [bts_length]; omega)]
    simp [unhexL]
  | succ m ih =>
    intro k i acc hx ha hs hk
    obtain ⟨k, rfl⟩ : ∃ k', k = k' + 1 := ⟨k - 1, by omega⟩
    have w1 : wrap64 ((i : Int) + 1) = ((i + 1 : Nat) : Int) := by rw [wrap64]; omega
    have w2 : wrap64 ((i : Int) + 2) = ((i + 2 : Nat) : Int) := by rw [wrap64]; omega
    have hlt : i < (bts s).length := by rw [bts_length]; omega
    have hlt1 : i + 1 < (bts s).length := by rw [bts_length]; omega
    have hd : (bts s).drop i = (bts s).getD i 0 :: (bts s).getD (i + 1) 0 :: (bts s).drop (i + 2) := by
      rw [List.getD_eq_getElem?_getD, List.getD_eq_getElem?_getD, List.getElem?_eq_getElem hlt, List.getElem?_eq_getElem hlt1, List.drop_eq_getElem_cons hlt, List.drop_eq_getElem_cons hlt1]
      rfl
    have qa := get_lt s i
    have qb := get_lt s (i + 1)
    have c1 : ((i + 1 : Nat) : Int) < (s.size : Int) := by omega
    have c2 : (0 : Int) ≤ (i : Int) := by omega
    have c3 : (i : Int) < (s.size : Int) := by omega
    have c4 : (0 : Int) ≤ ((i + 1 : Nat) : Int) := by omega
    have hk1 : 1 ≤ k := by omega
    have hsz : i + 2 + 2 * m = s.size := by omega
    have hal : acc.length < 140737488355328 := by omega
    have hal2 : acc.length + 1 + 2 * m ≤ 112589990684262 := by omega
    have hkk : m + 2 ≤ k := by omega
    rw [agoraref03_Unhex.l0, w1, if_pos c1, if_pos c2, if_pos c3, bt_nat s i (by omega), bt_nat s (i + 1) (by omega), hd, unhexL]
    generalize (bts s).getD i 0 = a at qa
    generalize (bts s).getD (i + 1) 0 = b at qb
    rw [digitR a qa k hk1, Option.bind_some, if_pos c4, digitR b qb k hk1, Option.bind_some, w2]
    by_cases h1 : digN a < 0
    · rw [if_pos h1, if_pos h1, if_pos rfl]
    obtain ⟨_, a2⟩ := hexd_dig a h1
    rw [if_neg h1, if_neg h1, if_neg (by omega)]
    by_cases h2 : digN b < 0
    · rw [if_pos h2, if_pos h2, if_pos rfl]
    obtain ⟨_, b2⟩ := hexd_dig b h2
    rw [if_neg h2, if_neg h2, if_neg (by omega)]
    have e : (wrap64 ((wrap64 (16 * digN a)) + digN b)) % 256 = ((16 * (digN a).toNat + (digN b).toNat : Nat) : Int) := by
      have := pair_at _ _ a2 b2
      rw [Int.toNat_of_nonneg (by omega), Int.toNat_of_nonneg (by omega)] at this
      exact this
    rw [if_pos (by rw [List.length_map]; exact hal), e]
    have := ih k (i + 2) (acc ++ [16 * (digN a).toNat + (digN b).toNat]) hsz (by rw [List.length_append]; exact hal2) hs hkk
    rw [List.map_append] at this
    refine this.trans ?_
    cases unhexL ((bts s).drop (i + 2)) with
    | none => rfl
    | some r => simp only [Option.map_some, List.append_assoc]; rfl
theorem unhex_at (s : ByteArray) (hs : s.size ≤ 112589990684262) (k : Nat) (hk : s.size + 2 ≤ k) : agoraref03_Unhex.f k s = some (if s.size % 2 = 0 then unhexA (bts s) else (⟨#[]⟩, false)) := by
  unfold agoraref03_Unhex.f
  by_cases h : s.size % 2 = 0
  · rw [if_neg (by omega), if_pos h]
    have := unhex_l0 s (s.size / 2) k 0 [] (by omega) (by simp only [List.length_nil]; omega) hs (by omega)
    rw [List.drop_zero] at this
    exact this
  · rw [if_pos (by omega), if_neg h]
end Go.Proofs.Ytloieoneckjjeaa.Ref03
