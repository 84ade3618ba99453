/- Texts of this claim, merged: what the functions that the law reaches compute, and what that says. -/
import Derived.Lib.RabinKarpLaws
import Derived.KernelRfl
import Derived.Test.YtdpocgimajhlbaaK5
import Derived.Test.YtdpocgimajhlbaaK6
import Derived.Test.YtdpocgimajhlbaaK19
import Derived.Test.YtdpocgimajhlbaaK20
section GrpFnB_
namespace Go.Proofs.Ytdpocgimajhlbaa.Grp
open Go.RowKit Go.Proofs.Ytdpocgimajhlbaa.P Go.Proofs.YtdpocgimajhlbaaW.PrintWords Go.Proofs.YtdpocgimajhlbaaW.PrintLast Go.Proofs.YtdpocgimajhlbaaW.PrintMore
set_option linter.unusedVariables false
theorem w64_in (n : Int) (h0 : -9223372036854775808 ≤ n) (h : n < 9223372036854775808) : wrap64 n = n := by unfold wrap64; omega
/-- '%' and the turn of a negative rest -/
theorem tmod_fix (a m : Int) (hm : 0 < m) (h2 : m ≤ 2305843009213693952) :
    (if Int.tmod a m < 0 then some (wrap64 (Int.tmod a m + m)) else some (Int.tmod a m)) = some (a % m) := by
  have hb := Int.emod_lt_of_pos a hm
  have hz := Int.emod_nonneg a (show m ≠ 0 by omega)
  rcases Int.lt_or_le a 0 with h | h
  · have e : Int.tmod a m = -((-a) % m) := by
      rw [← Int.tmod_eq_emod_of_nonneg (show 0 ≤ -a by omega), Int.neg_tmod, Int.neg_neg]
    have hb' := Int.emod_lt_of_pos (-a) hm
    have hz' := Int.emod_nonneg (-a) (show m ≠ 0 by omega)
    rw [e]
    by_cases h0 : (-a) % m = 0
    · rw [h0, if_neg (by omega)]
      have : a % m = 0 := by
        have hd := Int.dvd_of_emod_eq_zero h0
        exact Int.emod_eq_zero_of_dvd (by obtain ⟨c, hc⟩ := hd; exact ⟨-c, by rw [Int.mul_neg]; omega⟩)
      rw [this]; rfl
    · rw [if_pos (by omega), w64_in _ (by omega) (by omega)]
      have : a % m = m - (-a) % m := by
        have h1 : a % m = (m - (-a) % m) % m := by
          have e1 := Int.emod_add_mul_ediv (-a) m
          have : a = (m - (-a) % m) + m * (-((-a) / m) - 1) := by
            rw [Int.mul_sub, Int.mul_neg]; omega
          conv => lhs; rw [this]
          exact Int.add_mul_emod_self_left _ _ _
        rw [h1]; exact Int.emod_eq_of_lt (by omega) (by omega)
      rw [this]; congr 1; omega
  · rw [Int.tmod_eq_emod_of_nonneg h, if_neg (by omega)]
theorem residue_eq (a m : Int) (hm : 0 < m) (h2 : m ≤ 2305843009213693952) : group_residue.f a m = some (a % m) := by
  unfold group_residue.f
  rw [if_neg (by omega)]; exact tmod_fix a m hm h2
theorem addN_eq (a b : Int) : group_AddN.f a b = some ((a + b) % 2305843009213693950) := by
  unfold group_AddN.f
  rw [residue_eq a _ (by omega) (by omega), residue_eq b _ (by omega) (by omega)]
  simp only [Option.bind_some]
  rw [w64_in _ (by omega) (by omega), residue_eq _ _ (by omega) (by omega)]
  simp only [Option.bind_some]
  rw [← Int.add_emod]
theorem and_mask32 (x : Int) (h0 : 0 ≤ x) (h : x < 18446744073709551616) : Go.bits .and .u64 x 4294967295 = x % 4294967296 := by
  rw [u64_and x 4294967295 h0 h (by omega) (by omega)]
  obtain ⟨n, rfl⟩ := Int.eq_ofNat_of_zero_le h0
  rw [Int.toNat_natCast, show (4294967295 : Int).toNat = 2 ^ 32 - 1 from rfl, Nat.and_two_pow_sub_one_eq_mod]
  omega
/-- bits.Mul64: both words of the product -/
theorem mul64_eq (a b : Int) (ha : 0 ≤ a) (ha' : a < 2305843009213693952) (hb : 0 ≤ b) (hb' : b < 2305843009213693952) :
    bits_Mul64.f a b = some (a * b / 18446744073709551616, a * b % 18446744073709551616) := by
  unfold bits_Mul64.f
  rw [and_mask32 a ha (by omega), and_mask32 b hb (by omega)]
  have ea : a = a / 4294967296 * 4294967296 + a % 4294967296 := by omega
  have eb : b = b / 4294967296 * 4294967296 + b % 4294967296 := by omega
  have a1 : 0 ≤ a / 4294967296 := by omega
  have a1' : a / 4294967296 ≤ 536870911 := by omega
  have b1 : 0 ≤ b / 4294967296 := by omega
  have b1' : b / 4294967296 ≤ 536870911 := by omega
  have a0 : 0 ≤ a % 4294967296 := by omega
  have a0' : a % 4294967296 ≤ 4294967295 := by omega
  have b0 : 0 ≤ b % 4294967296 := by omega
  have b0' : b % 4294967296 ≤ 4294967295 := by omega
  generalize a / 4294967296 = x1 at *
  generalize b / 4294967296 = y1 at *
  generalize a % 4294967296 = x0 at *
  generalize b % 4294967296 = y0 at *
  have m (x y X Y : Int) (hx : 0 ≤ x) (hx' : x ≤ X) (hy : 0 ≤ y) (hy' : y ≤ Y) : 0 ≤ x * y ∧ x * y ≤ X * Y :=
    ⟨Int.mul_nonneg hx hy, Int.le_trans (Int.mul_le_mul_of_nonneg_right hx' hy) (Int.mul_le_mul_of_nonneg_left hy' (by omega))⟩
  have p11 := m x1 y1 _ _ a1 a1' b1 b1'
  have p10 := m x1 y0 _ _ a1 a1' b0 b0'
  have p01 := m x0 y1 _ _ a0 a0' b1 b1'
  have p00 := m x0 y0 _ _ a0 a0' b0 b0'
  have e : a * b = x1 * y1 * 18446744073709551616 + (x1 * y0 + x0 * y1) * 4294967296 + x0 * y0 := by
    rw [ea, eb]
    simp only [Int.add_mul, Int.mul_add]
    have t1 : x1 * 4294967296 * (y1 * 4294967296) = x1 * y1 * 18446744073709551616 := by
      rw [Int.mul_assoc, Int.mul_comm 4294967296 (y1 * _), Int.mul_assoc y1, ← Int.mul_assoc]; rfl
    have t2 : x1 * 4294967296 * y0 = x1 * y0 * 4294967296 := by rw [Int.mul_right_comm]
    have t3 : x0 * (y1 * 4294967296) = x0 * y1 * 4294967296 := by rw [Int.mul_assoc]
    rw [t1, t2, t3]; omega
  rw [e]
  generalize x1 * y1 = q11 at *
  generalize x1 * y0 = q10 at *
  generalize x0 * y1 = q01 at *
  generalize x0 * y0 = q00 at *
  obtain ⟨p11, p11'⟩ := p11
  obtain ⟨p10, p10'⟩ := p10
  obtain ⟨p01, p01'⟩ := p01
  obtain ⟨p00, p00'⟩ := p00
  clear m ea eb e
  rw [wu_in q11 (by omega) (by omega), wu_in q00 (by omega) (by omega), wu_in q10 (by omega) (by omega), wu_in q01 (by omega) (by omega)]
  rw [wu_in (q10 + q00 / 4294967296) (by omega) (by omega)]
  rw [and_mask32 (q10 + q00 / 4294967296) (by omega) (by omega)]
  rw [wu_in (q11 + _) (by omega) (by omega)]
  rw [wu_in ((q10 + q00 / 4294967296) % 4294967296 + q01) (by omega) (by omega)]
  rw [wu_in (_ + _) (by omega) (by omega), wu]
  congr 1
  refine Prod.ext ?_ rfl
  show q11 + (q10 + q00 / 4294967296) / 4294967296 + ((q10 + q00 / 4294967296) % 4294967296 + q01) / 4294967296 = _
  omega
theorem or_shift (h l : Int) (h0 : 0 ≤ h) (hh : h < 2305843009213693952) (l0 : 0 ≤ l) (hl : l < 8) : Go.bits .or .u64 (h * 8) l = h * 8 + l := by
  rw [u64_or _ _ (by omega) (by omega) l0 (by omega)]
  obtain ⟨n, rfl⟩ := Int.eq_ofNat_of_zero_le h0
  obtain ⟨m, rfl⟩ := Int.eq_ofNat_of_zero_le l0
  have e : ((n : Int) * 8).toNat = 2 ^ 3 * n := by omega
  rw [e, Int.toNat_natCast, ← Nat.two_pow_add_eq_or_of_lt (show m < 2 ^ 3 by omega)]
  omega
theorem zeros_P (k : Nat) : bits_LeadingZeros64.f (k + 1) 2305843009213693951 = some 3 := by kernel_rfl
theorem zeros_N (k : Nat) : bits_LeadingZeros64.f (k + 1) 2305843009213693950 = some 3 := by kernel_rfl
def Mod2 (m : Int) : Prop := m = 2305843009213693951 ∨ m = 2305843009213693950
/-- bits.Div64 by one of the two moduli: the rest -/
theorem div64_eq {m : Int} (hm : Mod2 m) (k : Nat) (hi lo : Int) (h0 : 0 ≤ hi) (h : hi < m) (l0 : 0 ≤ lo) (hl : lo < 18446744073709551616) :
    ∃ q, bits_Div64.f (k + 9) hi lo m = some (q, (hi * 18446744073709551616 + lo) % m) := by
  unfold bits_Div64.f
  rw [if_neg (by rcases hm with rfl | rfl <;> omega), if_neg (by omega)]
  by_cases hz : hi = 0
  · rw [if_pos hz]
    rw [Int.tmod_eq_emod_of_nonneg l0, hz, Int.zero_mul, Int.zero_add]
    exact ⟨_, rfl⟩
  · rw [if_neg hz]
    have hlz : bits_LeadingZeros64.f (k + 9) m = some 3 := by
      rcases hm with rfl | rfl
      · exact zeros_P (k + 8)
      · exact zeros_N (k + 8)
    rw [hlz]; simp only [Option.bind_some]
    have e3 : IntKind.u64.wrap 3 = 3 := by decide
    have e61 : IntKind.u64.wrap (64 - 3) = 61 := by decide
    rw [e3, e61, if_pos (by decide), if_pos (by decide)]
    have sm : shl .u64 m 3 = m * 8 := by rcases hm with rfl | rfl <;> decide
    have sh : shl .u64 hi 3 = hi * 8 := by
      unfold shl; rw [show (2 : Int) ^ min (3 : Int).toNat IntKind.u64.bits = 8 by decide, wu_in _ (by omega) (by rcases hm with rfl | rfl <;> omega)]
    have sl : shl .u64 lo 3 = lo * 8 % 18446744073709551616 := by
      unfold shl; rw [show (2 : Int) ^ min (3 : Int).toNat IntKind.u64.bits = 8 by decide, wu]
    have sr : shr .u64 lo 61 = lo / 2305843009213693952 := by
      unfold shr; rw [show (2 : Int) ^ min (61 : Int).toNat IntKind.u64.bits = 2305843009213693952 by decide]
    rw [sm, sh, sl, sr, or_shift hi _ h0 (by rcases hm with rfl | rfl <;> omega) (by omega) (by omega)]
    have y1 : m * 8 / 4294967296 = 4294967295 := by rcases hm with rfl | rfl <;> decide
    rw [y1, if_neg (by decide), and_mask32 (lo * 8 % 18446744073709551616) (by omega) (by omega), Int.tdiv_eq_ediv_of_nonneg (by omega)]
    have hD : Two (m * 8) (Go.bits .and .u64 (m * 8) 4294967295) := by
      rw [and_mask32 (m * 8) (by rcases hm with rfl | rfl <;> omega) (by rcases hm with rfl | rfl <;> omega)]
      rcases hm with rfl | rfl
      · left; decide
      · right; decide
    have hu : hi * 8 + lo / 2305843009213693952 < m * 8 := by rcases hm with rfl | rfl <;> omega
    have fin : ((((hi * 8 + lo / 2305843009213693952) * 4294967296 + lo * 8 % 18446744073709551616 / 4294967296) % (m * 8)) * 4294967296 + lo * 8 % 18446744073709551616 % 4294967296) % (m * 8) / 8 = (hi * 18446744073709551616 + lo) % m := by
      have e1 : ((((hi * 8 + lo / 2305843009213693952) * 4294967296 + lo * 8 % 18446744073709551616 / 4294967296) % (m * 8)) * 4294967296 + lo * 8 % 18446744073709551616 % 4294967296) % (m * 8)
          = ((hi * 18446744073709551616 + lo) * 8) % (m * 8) := by
        rw [Int.add_emod, Int.mul_emod, Int.emod_emod, ← Int.mul_emod, ← Int.add_emod]
        congr 1; omega
      rw [e1, Int.mul_comm _ 8, Int.mul_comm m 8, Int.mul_emod_mul_of_pos _ _ (show (0 : Int) < 8 by decide), Int.mul_comm]
      exact Int.mul_ediv_cancel _ (by decide)
    have hu0 : 0 ≤ hi * 8 + lo / 2305843009213693952 := by omega
    generalize hi * 8 + lo / 2305843009213693952 = u at *
    rw [wu_in (u / 4294967295) (by omega) (by rcases hm with rfl | rfl <;> omega), wu_in (u / 4294967295 * 4294967295) (by omega) (by rcases hm with rfl | rfl <;> omega), wu_in (u - u / 4294967295 * 4294967295) (by omega) (by omega)]
    obtain ⟨a, ha⟩ := l0_ok hD k hu0 hu (show 0 ≤ lo * 8 % 18446744073709551616 / 4294967296 by omega) (by omega) (show 0 ≤ lo * 8 % 18446744073709551616 % 4294967296 by omega) (by omega) (show u / 4294967295 * 4294967295 + (u - u / 4294967295 * 4294967295) = u by omega) (by omega) (by omega) (by omega)
    exact ⟨a, by rw [ha, fin]⟩
theorem product_eq {m : Int} (hm : Mod2 m) (k : Nat) (a b : Int) (ha : 0 ≤ a) (ha' : a < m) (hb : 0 ≤ b) (hb' : b < m) :
    group_product.f (k + 9) a b m = some (a * b % m) := by
  have hmb : 0 < m ∧ m < 2305843009213693952 := by rcases hm with rfl | rfl <;> omega
  unfold group_product.f
  rw [wu_in a ha (by omega), wu_in b hb (by omega), wu_in m (by omega) (by omega), mul64_eq a b ha (by omega) hb (by omega)]
  simp only [Option.bind_some]
  unfold bits_Rem64.f
  rw [if_neg (by omega)]
  have hn : 0 ≤ a * b := Int.mul_nonneg ha hb
  generalize a * b = c at *
  rw [Int.tmod_eq_emod_of_nonneg (by omega)]
  have hq0 := Int.emod_nonneg (c / 18446744073709551616) (show m ≠ 0 by omega)
  have hq1 := Int.emod_lt_of_pos (c / 18446744073709551616) hmb.1
  obtain ⟨q, hq⟩ := div64_eq hm k (c / 18446744073709551616 % m) (c % 18446744073709551616) hq0 hq1 (by omega) (by omega)
  rw [hq]; simp only [Option.bind_some]
  have e : (c / 18446744073709551616 % m * 18446744073709551616 + c % 18446744073709551616) % m = c % m := by
    rw [Int.add_emod, Int.mul_emod, Int.emod_emod, ← Int.mul_emod, ← Int.add_emod]
    congr 1; omega
  rw [e, w64_in _ (by have := Int.emod_nonneg c (show m ≠ 0 by omega); omega) (by have := Int.emod_lt_of_pos c hmb.1; omega)]
theorem mul_eq (k : Nat) (a b : Int) : group_Mul.f (k + 9) a b = some (a * b % 2305843009213693951) := by
  unfold group_Mul.f
  rw [residue_eq a _ (by omega) (by omega), residue_eq b _ (by omega) (by omega)]
  simp only [Option.bind_some]
  rw [product_eq (.inl rfl) k _ _ (by omega) (by omega) (by omega) (by omega)]
  simp only [Option.bind_some]
  rw [← Int.mul_emod]
theorem mulN_eq (k : Nat) (a b : Int) : group_MulN.f (k + 9) a b = some (a * b % 2305843009213693950) := by
  unfold group_MulN.f
  rw [residue_eq a _ (by omega) (by omega), residue_eq b _ (by omega) (by omega)]
  simp only [Option.bind_some]
  rw [product_eq (.inr rfl) k _ _ (by omega) (by omega) (by omega) (by omega)]
  simp only [Option.bind_some]
  rw [← Int.mul_emod]
/-- the power of a residue, with a natural exponent -/
def pw (a : Int) (e : Nat) : Int := a ^ e % 2305843009213693951
theorem pw_bounds (a : Int) (e : Nat) : 0 ≤ pw a e ∧ pw a e < 2305843009213693951 := by unfold pw; omega
theorem pw_sq (a : Int) (e : Nat) : pw a e * pw a e % 2305843009213693951 = pw a (2 * e) := by
  unfold pw; rw [← Int.mul_emod, ← Int.pow_add, Nat.two_mul]
theorem pw_step (a : Int) (e : Nat) : pw a e * a % 2305843009213693951 = pw a (e + 1) := by
  unfold pw; rw [Int.mul_emod, Int.emod_emod, ← Int.mul_emod, Int.pow_succ]
theorem bit_at (e i : Nat) (he : e < 9223372036854775808) (hi : i < 63) :
    Go.bits .and .i64 (shr .i64 (e : Int) (62 - (i : Int))) 1 = ((e / 2 ^ (62 - i) % 2 : Nat) : Int) := by
  have h1 : shr .i64 (e : Int) (62 - (i : Int)) = ((e / 2 ^ (62 - i) : Nat) : Int) := by
    unfold shr
    rw [show min ((62 : Int) - (i : Int)).toNat IntKind.i64.bits = 62 - i by
      have : IntKind.i64.bits = 64 := rfl
      omega]
    rw [Int.natCast_ediv, Int.natCast_pow]; rfl
  rw [h1]
  exact Go.Proofs.and_one _ (Nat.lt_of_le_of_lt (Nat.div_le_self _ _) he)
theorem exp_l0 (k : Nat) (a : Int) (e : Nat) (ha : 0 ≤ a) (ha' : a < 2305843009213693951) (he : e < 9223372036854775808) (d : Nat) :
    ∀ i, i + d = 63 → group_Exp.l0 (k + d + 10) a e (pw a (e / 2 ^ (63 - i))) i = some (pw a e) := by
  induction d with
  | zero =>
    intro i hi
    obtain rfl : i = 63 := by omega
    rw [show k + 0 + 10 = k + 9 + 1 from rfl, group_Exp.l0, if_neg (by omega)]
    simp
  | succ d ih =>
    intro i hi
    have hb := pw_bounds a (e / 2 ^ (63 - i))
    rw [show k + (d + 1) + 10 = (k + d + 10) + 1 from rfl, group_Exp.l0, if_pos (by omega), show k + d + 10 = (k + d + 1) + 9 from rfl,
      product_eq (.inl rfl) _ _ _ hb.1 hb.2 hb.1 hb.2]
    simp only [Option.bind_some]
    rw [w64_in (62 - (i : Int)) (by omega) (by omega), if_pos (by omega), bit_at e i he (by omega), w64_in ((i : Int) + 1) (by omega) (by omega), pw_sq]
    have hh : e / 2 ^ (62 - i) / 2 = e / 2 ^ (63 - i) := by
      rw [Nat.div_div_eq_div_mul]; congr 1
      rw [← Nat.pow_succ]; congr 1; omega
    have nx := ih (i + 1) (by omega)
    rw [show 63 - (i + 1) = 62 - i by omega, show ((i + 1 : Nat) : Int) = (i : Int) + 1 by omega] at nx
    have hb2 := pw_bounds a (2 * (e / 2 ^ (63 - i)))
    by_cases hodd : e / 2 ^ (62 - i) % 2 = 1
    · rw [if_pos (by omega), product_eq (.inl rfl) _ _ _ hb2.1 hb2.2 ha ha']
      simp only [Option.bind_some]
      rw [pw_step, show 2 * (e / 2 ^ (63 - i)) + 1 = e / 2 ^ (62 - i) by omega]
      exact nx
    · rw [if_neg (by omega), show 2 * (e / 2 ^ (63 - i)) = e / 2 ^ (62 - i) by omega]
      exact nx
/-- the exponent that Exp takes -/
def ex (e : Int) : Nat := (if e < 0 then e % 2305843009213693950 else e).toNat
theorem pw_mod (a : Int) (e : Nat) : pw (a % 2305843009213693951) e = pw a e := by
  unfold pw
  induction e with
  | zero => rw [Int.pow_zero, Int.pow_zero]
  | succ n ih => rw [Int.pow_succ, Int.pow_succ, Int.mul_emod, ih, Int.emod_emod, ← Int.mul_emod]
theorem exp_nat (k : Nat) (a : Int) (n : Nat) (hn : n < 9223372036854775808) : group_Exp.j0 (k + 74) a n = some (pw a n) := by
  have h0 : n / 2 ^ (63 - 0) = 0 := Nat.div_eq_of_lt hn
  have h1 : pw (a % 2305843009213693951) 0 = 1 := by unfold pw; rw [Int.pow_zero]; decide
  have := exp_l0 k (a % 2305843009213693951) n (by omega) (by omega) hn 63 0 (by omega)
  rw [h0, h1, pw_mod, show ((0 : Nat) : Int) = 0 from rfl, show k + 63 + 10 = k + 73 by omega] at this
  rw [show k + 74 = k + 73 + 1 by omega, group_Exp.j0, residue_eq a _ (by omega) (by omega), Option.bind_some]
  exact this
theorem exp_eq (k : Nat) (a e : Int) (he : e < 9223372036854775808) : group_Exp.f (k + 74) a e = some (pw a (ex e)) := by
  unfold group_Exp.f ex
  by_cases h : e < 0
  · rw [if_pos h, if_pos h, residue_eq e _ (by omega) (by omega), Option.bind_some]
    have := exp_nat k a (e % 2305843009213693950).toNat (by omega)
    rw [Int.toNat_of_nonneg (by omega)] at this
    exact this
  · rw [if_neg h, if_neg h]
    have := exp_nat k a e.toNat (by omega)
    rw [Int.toNat_of_nonneg (by omega)] at this
    exact this
end Go.Proofs.Ytdpocgimajhlbaa.Grp
end GrpFnB_
section GrpLawB_
namespace Go.Proofs.Ytdpocgimajhlbaa.Grp
open Go.RowKit Go.Proofs.Ytdpocgimajhlbaa.P
set_option linter.unusedVariables false
set_option linter.unusedSimpArgs false
theorem mul_at {k : Nat} (hk : 74 ≤ k) (a b : Int) : group_Mul.f k a b = some (a * b % 2305843009213693951) := by
  obtain ⟨j, rfl⟩ : ∃ j, k = j + 9 := ⟨k - 9, by omega⟩
  exact mul_eq j a b
theorem mulN_at {k : Nat} (hk : 74 ≤ k) (a b : Int) : group_MulN.f k a b = some (a * b % 2305843009213693950) := by
  obtain ⟨j, rfl⟩ : ∃ j, k = j + 9 := ⟨k - 9, by omega⟩
  exact mulN_eq j a b
theorem exp_at {k : Nat} (hk : 74 ≤ k) (a e : Int) (he : e < 9223372036854775808) : group_Exp.f k a e = some (pw a (ex e)) := by
  obtain ⟨j, rfl⟩ : ∃ j, k = j + 74 := ⟨k - 74, by omega⟩
  exact exp_eq j a e he
/-- the residue as a natural number -/
def nr (a : Int) : Nat := (a % 2305843009213693951).toNat
theorem nr_cast (a : Int) : (nr a : Int) = a % 2305843009213693951 := by unfold nr; omega
theorem nr_mod (a : Int) : nr a % Field.P = nr a := Nat.mod_eq_of_lt (by unfold nr Field.P; omega)
theorem nr_zero (a : Int) : nr a = 0 ↔ a % 2305843009213693951 = 0 := by unfold nr; omega
theorem pw_nr (a : Int) (e : Nat) : pw a e = ((nr a ^ e % Field.P : Nat) : Int) := by
  rw [← pw_mod, ← nr_cast]; unfold pw Field.P
  rw [Int.natCast_emod, Int.natCast_pow]; rfl
theorem nr_ne {a : Int} (h : a % 2305843009213693951 ≠ 0) : nr a % Field.P ≠ 0 := by rw [nr_mod]; exact fun h0 => h ((nr_zero a).1 h0)
theorem pw_one {a : Int} (h : a % 2305843009213693951 ≠ 0) : pw a 2305843009213693950 = 1 := by
  rw [show (2305843009213693950 : Nat) = Field.N from rfl, pw_nr]; exact congrArg Int.ofNat (Field.fermat (nr_ne h))
theorem pw_add (a : Int) (d e : Nat) : pw a d * pw a e % 2305843009213693951 = pw a (d + e) := by
  unfold pw; rw [← Int.mul_emod, ← Int.pow_add]
theorem pw_pw (a : Int) (d e : Nat) : pw (pw a d) e = pw a (d * e) := by
  have : pw (a ^ d % 2305843009213693951) e = pw (a ^ d) e := pw_mod _ _
  unfold pw at this ⊢; rw [this, ← Int.pow_mul]
theorem pw_0 (a : Int) : pw a 0 = 1 := by unfold pw; rw [Int.pow_zero]; decide
theorem one_pw (e : Nat) : pw 1 e = 1 := by unfold pw; rw [Int.one_pow]; decide
/-- of the exponent only the residue modulo N counts -/
theorem pw_period {a : Int} (h : a % 2305843009213693951 ≠ 0) (e : Nat) : pw a (e % 2305843009213693950) = pw a e := by
  have h1 : pw a (2305843009213693950 * (e / 2305843009213693950)) = 1 := by rw [← pw_pw, pw_one h, one_pw]
  have h2 := pw_add a (2305843009213693950 * (e / 2305843009213693950)) (e % 2305843009213693950)
  rw [h1, Nat.div_add_mod, Int.one_mul] at h2
  have := pw_bounds a (e % 2305843009213693950)
  rw [← h2]; exact (Int.emod_eq_of_lt this.1 this.2).symm
theorem pw_same {a : Int} (h : a % 2305843009213693951 ≠ 0) {d e : Nat} (hde : (d : Int) % 2305843009213693950 = (e : Int) % 2305843009213693950) : pw a d = pw a e := by
  rw [← pw_period h d, ← pw_period h e]; congr 1; omega
theorem ex_mod (e : Int) : (ex e : Int) % 2305843009213693950 = e % 2305843009213693950 := by
  unfold ex; split <;> omega
theorem pw_ne {a : Int} (h : a % 2305843009213693951 ≠ 0) (e : Nat) : pw a e ≠ 0 := by
  intro h0
  have h1 := pw_add a e (2305843009213693950 - e % 2305843009213693950)
  rw [h0, Int.zero_mul] at h1
  have h2 : pw a (e + (2305843009213693950 - e % 2305843009213693950)) = 1 := by
    rw [← pw_0 a]; apply pw_same h; omega
  rw [h2] at h1; exact absurd h1 (by decide)
theorem bd64 {n : Int} (h : (Lit.int .i64 n).wf = true) : -9223372036854775808 ≤ n ∧ n ≤ 9223372036854775807 := by
  simp only [Lit.wf, IntKind.min, IntKind.max, IntKind.signed, IntKind.bits, Bool.and_eq_true, decide_eq_true_eq, if_true] at h
  omega
end Go.Proofs.Ytdpocgimajhlbaa.Grp
end GrpLawB_
section Sgn_
namespace Go.Proofs.Ytdpocgimajhlbaa.Sgn
open Go.RowKit Go.Proofs.Ytdpocgimajhlbaa.P Go.Proofs.Ytdpocgimajhlbaa.ShaL Go.Proofs.Ytdpocgimajhlbaa.Grp Go.Proofs.Ytdpocgimajhlbaa.NumL Go.Proofs.YtdpocgimajhlbaaW.PrintWords Go.Proofs.YtdpocgimajhlbaaW.PrintLast
set_option linter.unusedVariables false
theorem sz_of (l : List Int) : (strOfNums l).size = l.length := by simp [strOfNums, ByteArray.size]
/-- the bytes of a number -/
def numB (n : Int) : ByteArray := strOfNums ((numF 9 n.toNat).map fun n : Nat => (n : Int))
theorem numF_length (k n : Nat) : (numF k n).length ≤ k + 1 := by
  induction k generalizing n with
  | zero => simp [numF]
  | succ k ih =>
    rw [numF]; split
    · simp
    · have := ih (n / 128); rw [List.length_cons]; omega
theorem numB_size (n : Int) : (numB n).size ≤ 10 := by rw [numB, sz_of, List.length_map]; exact numF_length 9 _
theorem num_at (n : Int) (h0 : 0 ≤ n) (h : n < 9223372036854775808) : code_Num.f n = some (numB n) := by
  unfold code_Num.f
  rw [if_neg (by omega), if_pos h]; rfl
/-- a text with its length in front -/
def textB (s : ByteArray) : ByteArray := numB (s.size : Int) ++ s
theorem textB_size (s : ByteArray) : (textB s).size ≤ 10 + s.size := by
  rw [textB, ByteArray.size_append]; have := numB_size (s.size : Int); omega
theorem text_at (s : ByteArray) (h : s.size ≤ 4000) : code_Text.f s = some (textB s) := by
  have := numB_size (s.size : Int)
  unfold code_Text.f
  rw [num_at _ (by omega) (by omega), Option.bind_some, if_pos (by omega)]; rfl
theorem catB_size (l : List ByteArray) : (catB l).size = (l.map ByteArray.size).sum := by
  unfold catB
  simp only [ByteArray.size, List.size_toArray, List.length_flatMap]
  rfl
/-- the number of the digest of some strings, one behind the other -/
def hashN (l : List ByteArray) : Nat := numN (bts (Sch.shaB (catB l)))
theorem hash_at (l : List ByteArray) (h : l.length ≤ 1000) (hs : (catB l).size ≤ 1099511627776) : sign_hash.f l = some ((hashN l : Nat) : Int) := by
  unfold sign_hash.f
  rw [if_pos ⟨h, hs⟩]
  exact NumL.num_at _ 20 (by decide)
/-- a secret number -/
def secN (l : List ByteArray) : Int := 1 + (hashN l : Int) % 2305843009213693949
theorem secN_range (l : List ByteArray) : 1 ≤ secN l ∧ secN l < 2305843009213693950 := by unfold secN; omega
theorem secret_at (l : List ByteArray) (h : l.length ≤ 1000) (hs : (catB l).size ≤ 1099511627776) : sign_secret.f l = some (secN l) := by
  unfold sign_secret.f
  rw [hash_at l h hs, Option.bind_some, Int.tmod_eq_emod_of_nonneg (by omega), w64_in _ (by omega) (by omega)]; rfl
/-- the challenge -/
def chal (r y : Int) (m : ByteArray) : Int := (hashN [textB ⟨#[115, 105, 103, 110]⟩, numB r, numB y, textB m] : Int) % 2305843009213693950
theorem chal_range (r y : Int) (m : ByteArray) : 0 ≤ chal r y m ∧ chal r y m < 2305843009213693950 := by unfold chal; omega
theorem chal_at (r y : Int) (m : ByteArray) (hr : 0 ≤ r) (hr' : r < 9223372036854775808) (hy : 0 ≤ y) (hy' : y < 9223372036854775808) (hm : m.size ≤ 4000) : sign_challenge.f r y m = some (chal r y m) := by
  have s1 := textB_size ⟨#[115, 105, 103, 110]⟩
  have s2 := numB_size r
  have s3 := numB_size y
  have s4 := textB_size m
  have s5 : (ByteArray.mk #[115, 105, 103, 110]).size = 4 := rfl
  unfold sign_challenge.f
  rw [text_at _ (by omega), Option.bind_some, num_at r hr hr', Option.bind_some, num_at y hy hy', Option.bind_some, text_at m hm, Option.bind_some,
    hash_at _ (by simp) (by rw [catB_size]; simp only [List.map_cons, List.map_nil, List.sum_cons, List.sum_nil]; omega), Option.bind_some, Int.tmod_eq_emod_of_nonneg (by omega)]
  rfl
theorem pwb (e : Nat) : 0 ≤ pw 37 e ∧ pw 37 e < 2305843009213693951 := pw_bounds 37 e
theorem pw37_pos (e : Nat) : 1 ≤ pw 37 e := by
  have := pw_ne (a := 37) (by decide) e
  have := pw_bounds 37 e
  omega
theorem of_in {k : Nat} (hk : 74 ≤ k) (x : Int) (h1 : 1 ≤ x) (h2 : x < 2305843009213693950) : sign_Of.f k x = some (x, pw 37 x.toNat) := by
  unfold sign_Of.f
  rw [if_neg (by omega), if_neg (by omega), exp_at hk 37 x (by omega), Option.bind_some]
  congr 3
  unfold ex; rw [if_neg (by omega)]
theorem of_out (k : Nat) (x : Int) (h : ¬ (1 ≤ x ∧ x < 2305843009213693950)) : sign_Of.f k x = some (0, 0) := by
  unfold sign_Of.f
  by_cases h1 : x < 1
  · rw [if_pos h1]
  · rw [if_neg h1, if_pos (by omega)]
/-- the secret of a seed -/
def keySec (seed : ByteArray) : Int := secN [textB ⟨#[107, 101, 121]⟩, textB seed]
theorem key_at {k : Nat} (hk : 74 ≤ k) (seed : ByteArray) (hs : seed.size ≤ 4000) : sign_Key.f k seed = some (keySec seed, pw 37 (keySec seed).toNat) := by
  have s1 := textB_size ⟨#[107, 101, 121]⟩
  have s2 := textB_size seed
  have s5 : (ByteArray.mk #[107, 101, 121]).size = 3 := rfl
  have hr := secN_range [textB ⟨#[107, 101, 121]⟩, textB seed]
  unfold sign_Key.f
  rw [text_at _ (by omega), Option.bind_some, text_at seed hs, Option.bind_some, secret_at _ (by simp) (by rw [catB_size]; simp only [List.map_cons, List.map_nil, List.sum_cons, List.sum_nil]; omega), Option.bind_some, of_in hk _ hr.1 hr.2, Option.bind_some]
  rfl
theorem right_at {k : Nat} (hk : 74 ≤ k) (x y : Int) (h1 : 1 ≤ x) (h2 : x < 2305843009213693950) : sign_Right.f k x y = some (y == pw 37 x.toNat) := by
  unfold sign_Right.f
  rw [if_neg (by omega), of_in hk x h1 h2, Option.bind_some]
  simp
theorem right_out (k : Nat) (x y : Int) (h : ¬ (1 ≤ x ∧ x < 2305843009213693950)) : sign_Right.f k x y = some false := by
  unfold sign_Right.f
  by_cases h0 : x = 0
  · rw [if_pos h0]
  · rw [if_neg h0, of_out k x h, Option.bind_some]
    simp [h0]
/-- the nonce, and both numbers of a signature -/
def nonce (x : Int) (m : ByteArray) : Int := secN [textB ⟨#[110, 111, 110, 99, 101]⟩, numB x, textB m]
def sigE (x : Int) (m : ByteArray) : Int := chal (pw 37 (nonce x m).toNat) (pw 37 x.toNat) m
def sigS (x : Int) (m : ByteArray) : Int := (nonce x m + sigE x m * x % 2305843009213693950) % 2305843009213693950
theorem sign_at {k : Nat} (hk : 74 ≤ k) (x : Int) (m : ByteArray) (h1 : 1 ≤ x) (h2 : x < 2305843009213693950) (hm : m.size ≤ 4000) : sign_Sign.f k x (pw 37 x.toNat) m = some (sigE x m, sigS x m) := by
  have s1 := textB_size ⟨#[110, 111, 110, 99, 101]⟩
  have s2 := numB_size x
  have s4 := textB_size m
  have s5 : (ByteArray.mk #[110, 111, 110, 99, 101]).size = 5 := rfl
  have hn := secN_range [textB ⟨#[110, 111, 110, 99, 101]⟩, numB x, textB m]
  have hsec : sign_secret.f [textB ⟨#[110, 111, 110, 99, 101]⟩, numB x, textB m] = some (nonce x m) := secret_at _ (by simp) (by rw [catB_size]; simp only [List.map_cons, List.map_nil, List.sum_cons, List.sum_nil]; omega)
  have hexp : group_Exp.f k 37 (nonce x m) = some (pw 37 (nonce x m).toNat) := by
    rw [exp_at hk 37 _ (by unfold nonce; omega)]
    have : ex (nonce x m) = (nonce x m).toNat := by unfold ex; rw [if_neg (by unfold nonce; omega)]
    rw [this]
  have b1 := pwb (nonce x m).toNat
  have b2 := pwb x.toNat
  have hch : sign_challenge.f (pw 37 (nonce x m).toNat) (pw 37 x.toNat) m = some (sigE x m) := chal_at _ _ m (by omega) (by omega) (by omega) (by omega) hm
  unfold sign_Sign.f
  rw [right_at hk x _ h1 h2, Option.bind_some, beq_self_eq_true, if_pos rfl, text_at _ (by omega), Option.bind_some, num_at x (by omega) (by omega), Option.bind_some, text_at m hm, Option.bind_some, hsec, Option.bind_some, hexp, Option.bind_some, hch, Option.bind_some, mulN_at hk, Option.bind_some, addN_eq, Option.bind_some]
  rfl
theorem sign_wrong {k : Nat} (x y : Int) (m : ByteArray) (h : sign_Right.f k x y = some false) : sign_Sign.f k x y m = some (0, 0) := by
  unfold sign_Sign.f
  rw [h, Option.bind_some, if_neg (by decide)]
/-- the commitment that a signature stands for -/
def com (y e s : Int) : Int := pw 37 s.toNat * pw y (2305843009213693950 - e).toNat % 2305843009213693951
theorem com_range (y e s : Int) : 0 ≤ com y e s ∧ com y e s < 2305843009213693951 := by unfold com; omega
theorem verify_in {k : Nat} (hk : 75 ≤ k) (y e s : Int) (m : ByteArray) (y1 : 1 ≤ y) (y2 : y < 2305843009213693951) (e1 : 0 ≤ e) (e2 : e < 2305843009213693950) (s1 : 0 ≤ s) (s2 : s < 2305843009213693950) (hm : m.size ≤ 4000) :
    sign_Verify.f k y m e s = some (chal (com y e s) y m == e) := by
  obtain ⟨k, rfl⟩ : ∃ j, k = j + 1 := ⟨k - 1, by omega⟩
  have hk' : 74 ≤ k := by omega
  have hc := com_range y e s
  unfold sign_Verify.f
  rw [if_neg (by omega), if_neg (by omega), if_neg (by omega), if_neg (by omega), if_neg (by omega), decide_eq_false (by omega), sign_Verify.j0, if_neg (by decide), w64_in _ (by omega) (by omega), exp_at hk' 37 s (by omega), Option.bind_some, exp_at hk' y _ (by omega), Option.bind_some, mul_at hk', Option.bind_some]
  have x1 : ex s = s.toNat := by unfold ex; rw [if_neg (by omega)]
  have x2 : ex (2305843009213693950 - e) = (2305843009213693950 - e).toNat := by unfold ex; rw [if_neg (by omega)]
  rw [x1, x2]
  rw [show pw 37 s.toNat * pw y (2305843009213693950 - e).toNat % 2305843009213693951 = com y e s from rfl, chal_at _ _ m (by omega) (by omega) (by omega) (by omega) hm, Option.bind_some]
theorem verify_out {k : Nat} (hk : 1 ≤ k) (y e s : Int) (m : ByteArray) (h : ¬ (1 ≤ y ∧ y < 2305843009213693951 ∧ 0 ≤ e ∧ e < 2305843009213693950 ∧ 0 ≤ s ∧ s < 2305843009213693950)) :
    sign_Verify.f k y m e s = some false := by
  obtain ⟨k, rfl⟩ : ∃ j, k = j + 1 := ⟨k - 1, by omega⟩
  have h0 : sign_Verify.j0 (k + 1) y m true e s = some false := by rw [sign_Verify.j0, if_pos rfl]
  unfold sign_Verify.f
  by_cases c1 : y < 1
  · rw [if_pos c1]; exact h0
  rw [if_neg c1]
  by_cases c2 : y ≥ 2305843009213693951
  · rw [if_pos c2]; exact h0
  rw [if_neg c2]
  by_cases c3 : e < 0
  · rw [if_pos c3]; exact h0
  rw [if_neg c3]
  by_cases c4 : e ≥ 2305843009213693950
  · rw [if_pos c4]; exact h0
  rw [if_neg c4]
  by_cases c5 : s < 0
  · rw [if_pos c5]; exact h0
  rw [if_neg c5, decide_eq_true (by omega)]; exact h0
/-- the commitment of a signature 'S = U + E x' for the key 'G^x' is G^U -/
theorem com_eq (x u e s : Int) (hx : 0 ≤ x) (hu : 0 ≤ u) (he : 0 ≤ e) (he2 : e < 2305843009213693950) (hs : s = (u + e * x % 2305843009213693950) % 2305843009213693950) :
    com (pw 37 x.toNat) e s = pw 37 u.toNat := by
  have hs0 : 0 ≤ s := by omega
  unfold com
  rw [pw_pw, pw_add]
  refine pw_same (by decide) ?_
  rw [Int.natCast_add, Int.natCast_mul, Int.toNat_of_nonneg hs0, Int.toNat_of_nonneg hx, Int.toNat_of_nonneg (by omega), Int.toNat_of_nonneg hu]
  rw [Int.mul_sub, Int.mul_comm x e, hs]
  generalize e * x = p
  omega
theorem sigS_range (x : Int) (m : ByteArray) : 0 ≤ sigS x m ∧ sigS x m < 2305843009213693950 := by unfold sigS; omega
theorem nonce_range (x : Int) (m : ByteArray) : 1 ≤ nonce x m ∧ nonce x m < 2305843009213693950 := secN_range _
theorem sigE_range (x : Int) (m : ByteArray) : 0 ≤ sigE x m ∧ sigE x m < 2305843009213693950 := chal_range _ _ _
theorem com_sig (x : Int) (m : ByteArray) (hx : 0 ≤ x) : com (pw 37 x.toNat) (sigE x m) (sigS x m) = pw 37 (nonce x m).toNat :=
  com_eq x (nonce x m) (sigE x m) (sigS x m) hx (by have := nonce_range x m; omega) (sigE_range x m).1 (sigE_range x m).2 rfl
/-- a signature is accepted for its key and its message -/
theorem holds {k : Nat} (hk : 75 ≤ k) (x : Int) (m : ByteArray) (h1 : 1 ≤ x) (hm : m.size ≤ 4000) : sign_Verify.f k (pw 37 x.toNat) m (sigE x m) (sigS x m) = some true := by
  have b := pwb x.toNat
  have := pw37_pos x.toNat
  rw [verify_in hk _ _ _ m (by omega) (by omega) (sigE_range x m).1 (sigE_range x m).2 (sigS_range x m).1 (sigS_range x m).2 hm, com_sig x m (by omega)]
  simp [sigE]
end Go.Proofs.Ytdpocgimajhlbaa.Sgn
end Sgn_
section SgnSmall_
namespace Go.Proofs.Ytdpocgimajhlbaa.Sgn
open Go.RowKit Go.Proofs.Ytdpocgimajhlbaa.P Go.Proofs.YtdpocgimajhlbaaW.PrintWords Go.Proofs.YtdpocgimajhlbaaW.PrintLast
theorem small_ok : agoralaw05_small.f 200 = some true := by decide +kernel
theorem smallR (k : Nat) (hk : 200 ≤ k) : agoralaw05_small.f k = some true := at_rounds agoralaw05_small.mono hk small_ok
end Go.Proofs.Ytdpocgimajhlbaa.Sgn
end SgnSmall_
