/- Texts of this claim, merged: what the functions that the law reaches compute, and what that says. -/
import Derived.Lib.RabinKarpLaws
import Derived.KernelRfl
import Derived.Test.YtggmjfonhcinhaaKB5
import Derived.Test.YtggmjfonhcinhaaKB12
import Derived.Test.YtggmjfonhcinhaaKB13
section GrpFnD_
namespace Go.Proofs.Ytggmjfonhcinhaa.Grp
open Go.RowKit Go.Proofs.Ytggmjfonhcinhaa.P Go.Proofs.YtggmjfonhcinhaaW.PrintWords Go.Proofs.YtggmjfonhcinhaaW.PrintLast Go.Proofs.YtggmjfonhcinhaaW.PrintMore
set_option linter.unusedVariables false
theorem w64_in (n : Int) (h0 : -9223372036854775808 ≤ n) (h : n < 9223372036854775808) : wrap64 n = n := by unfold wrap64; omega
/-- '%' and the turn of a negative rest -/
theorem tmod_fix (a m : Int) (hm : 0 < m) (h2 : m ≤ 2305843009213693952) :
    (if Int.tmod a m < 0 then some (wrap64 (Int.tmod a m + m)) else some (Int.tmod a m)) = some (a % m) := by
  have hb := Int.emod_lt_of_pos a hm
  have hz := Int.emod_nonneg a (show m ≠ 0 by omega)
  rcases Int.lt_or_le a 0 with h | h
  · have e : Int.tmod a m = -((-a) % m) := by
      rw [← Int.tmod_eq_emod_of_nonneg (show 0 ≤ -a by omega), Int.neg_tmod, Int.neg_neg]
    have hb' := Int.emod_lt_of_pos (-a) hm
    have hz' := Int.emod_nonneg (-a) (show m ≠ 0 by omega)
    rw [e]
    by_cases h0 : (-a) % m = 0
    · rw [h0, if_neg (by omega)]
      have : a % m = 0 := by
        have hd := Int.dvd_of_emod_eq_zero h0
        exact Int.emod_eq_zero_of_dvd (by obtain ⟨c, hc⟩ := hd; exact ⟨-c, by rw [Int.mul_neg]; omega⟩)
      rw [this]; rfl
    · rw [if_pos (by omega), w64_in _ (by omega) (by omega)]
      have : a % m = m - (-a) % m := by
        have h1 : a % m = (m - (-a) % m) % m := by
          have e1 := Int.emod_add_mul_ediv (-a) m
          have : a = (m - (-a) % m) + m * (-((-a) / m) - 1) := by
            rw [Int.mul_sub, Int.mul_neg]; omega
          conv => lhs; rw [this]
          exact Int.add_mul_emod_self_left _ _ _
        rw [h1]; exact Int.emod_eq_of_lt (by omega) (by omega)
      rw [this]; congr 1; omega
  · rw [Int.tmod_eq_emod_of_nonneg h, if_neg (by omega)]
theorem residue_eq (a m : Int) (hm : 0 < m) (h2 : m ≤ 2305843009213693952) : group_residue.f a m = some (a % m) := by
  unfold group_residue.f
  rw [if_neg (by omega)]; exact tmod_fix a m hm h2
theorem add_eq (a b : Int) : group_Add.f a b = some ((a + b) % 2305843009213693951) := by
  unfold group_Add.f
  rw [residue_eq a _ (by omega) (by omega), residue_eq b _ (by omega) (by omega)]
  simp only [Option.bind_some]
  rw [w64_in _ (by omega) (by omega), residue_eq _ _ (by omega) (by omega)]
  simp only [Option.bind_some]
  rw [← Int.add_emod]
theorem sub_eq (a b : Int) : group_Sub.f a b = some ((a - b) % 2305843009213693951) := by
  unfold group_Sub.f
  rw [residue_eq a _ (by omega) (by omega), residue_eq b _ (by omega) (by omega)]
  simp only [Option.bind_some]
  rw [w64_in _ (by omega) (by omega), residue_eq _ _ (by omega) (by omega)]
  simp only [Option.bind_some]
  rw [← Int.sub_emod]
theorem and_mask32 (x : Int) (h0 : 0 ≤ x) (h : x < 18446744073709551616) : Go.bits .and .u64 x 4294967295 = x % 4294967296 := by
  rw [u64_and x 4294967295 h0 h (by omega) (by omega)]
  obtain ⟨n, rfl⟩ := Int.eq_ofNat_of_zero_le h0
  rw [Int.toNat_natCast, show (4294967295 : Int).toNat = 2 ^ 32 - 1 from rfl, Nat.and_two_pow_sub_one_eq_mod]
  omega
/-- bits.Mul64: both words of the product -/
theorem mul64_eq (a b : Int) (ha : 0 ≤ a) (ha' : a < 2305843009213693952) (hb : 0 ≤ b) (hb' : b < 2305843009213693952) :
    bits_Mul64.f a b = some (a * b / 18446744073709551616, a * b % 18446744073709551616) := by
  unfold bits_Mul64.f
  rw [and_mask32 a ha (by omega), and_mask32 b hb (by omega)]
  have ea : a = a / 4294967296 * 4294967296 + a % 4294967296 := by omega
  have eb : b = b / 4294967296 * 4294967296 + b % 4294967296 := by omega
  have a1 : 0 ≤ a / 4294967296 := by omega
  have a1' : a / 4294967296 ≤ 536870911 := by omega
  have b1 : 0 ≤ b / 4294967296 := by omega
  have b1' : b / 4294967296 ≤ 536870911 := by omega
  have a0 : 0 ≤ a % 4294967296 := by omega
  have a0' : a % 4294967296 ≤ 4294967295 := by omega
  have b0 : 0 ≤ b % 4294967296 := by omega
  have b0' : b % 4294967296 ≤ 4294967295 := by omega
  generalize a / 4294967296 = x1 at *
  generalize b / 4294967296 = y1 at *
  generalize a % 4294967296 = x0 at *
  generalize b % 4294967296 = y0 at *
  have m (x y X Y : Int) (hx : 0 ≤ x) (hx' : x ≤ X) (hy : 0 ≤ y) (hy' : y ≤ Y) : 0 ≤ x * y ∧ x * y ≤ X * Y :=
    ⟨Int.mul_nonneg hx hy, Int.le_trans (Int.mul_le_mul_of_nonneg_right hx' hy) (Int.mul_le_mul_of_nonneg_left hy' (by omega))⟩
  have p11 := m x1 y1 _ _ a1 a1' b1 b1'
  have p10 := m x1 y0 _ _ a1 a1' b0 b0'
  have p01 := m x0 y1 _ _ a0 a0' b1 b1'
  have p00 := m x0 y0 _ _ a0 a0' b0 b0'
  have e : a * b = x1 * y1 * 18446744073709551616 + (x1 * y0 + x0 * y1) * 4294967296 + x0 * y0 := by
    rw [ea, eb]
    simp only [Int.add_mul, Int.mul_add]
    have t1 : x1 * 4294967296 * (y1 * 4294967296) = x1 * y1 * 18446744073709551616 := by
      rw [Int.mul_assoc, Int.mul_comm 4294967296 (y1 * _), Int.mul_assoc y1, ← Int.mul_assoc]; rfl
    have t2 : x1 * 4294967296 * y0 = x1 * y0 * 4294967296 := by rw [Int.mul_right_comm]
    have t3 : x0 * (y1 * 4294967296) = x0 * y1 * 4294967296 := by rw [Int.mul_assoc]
    rw [t1, t2, t3]; omega
  rw [e]
  generalize x1 * y1 = q11 at *
  generalize x1 * y0 = q10 at *
  generalize x0 * y1 = q01 at *
  generalize x0 * y0 = q00 at *
  obtain ⟨p11, p11'⟩ := p11
  obtain ⟨p10, p10'⟩ := p10
  obtain ⟨p01, p01'⟩ := p01
  obtain ⟨p00, p00'⟩ := p00
  clear m ea eb e
  rw [wu_in q11 (by omega) (by omega), wu_in q00 (by omega) (by omega), wu_in q10 (by omega) (by omega), wu_in q01 (by omega) (by omega)]
  rw [wu_in (q10 + q00 / 4294967296) (by omega) (by omega)]
  rw [and_mask32 (q10 + q00 / 4294967296) (by omega) (by omega)]
  rw [wu_in (q11 + _) (by omega) (by omega)]
  rw [wu_in ((q10 + q00 / 4294967296) % 4294967296 + q01) (by omega) (by omega)]
  rw [wu_in (_ + _) (by omega) (by omega), wu]
  congr 1
  refine Prod.ext ?_ rfl
  show q11 + (q10 + q00 / 4294967296) / 4294967296 + ((q10 + q00 / 4294967296) % 4294967296 + q01) / 4294967296 = _
  omega
theorem or_shift (h l : Int) (h0 : 0 ≤ h) (hh : h < 2305843009213693952) (l0 : 0 ≤ l) (hl : l < 8) : Go.bits .or .u64 (h * 8) l = h * 8 + l := by
  rw [u64_or _ _ (by omega) (by omega) l0 (by omega)]
  obtain ⟨n, rfl⟩ := Int.eq_ofNat_of_zero_le h0
  obtain ⟨m, rfl⟩ := Int.eq_ofNat_of_zero_le l0
  have e : ((n : Int) * 8).toNat = 2 ^ 3 * n := by omega
  rw [e, Int.toNat_natCast, ← Nat.two_pow_add_eq_or_of_lt (show m < 2 ^ 3 by omega)]
  omega
theorem zeros_P (k : Nat) : bits_LeadingZeros64.f (k + 1) 2305843009213693951 = some 3 := by kernel_rfl
theorem zeros_N (k : Nat) : bits_LeadingZeros64.f (k + 1) 2305843009213693950 = some 3 := by kernel_rfl
def Mod2 (m : Int) : Prop := m = 2305843009213693951 ∨ m = 2305843009213693950
/-- bits.Div64 by one of the two moduli: the rest -/
theorem div64_eq {m : Int} (hm : Mod2 m) (k : Nat) (hi lo : Int) (h0 : 0 ≤ hi) (h : hi < m) (l0 : 0 ≤ lo) (hl : lo < 18446744073709551616) :
    ∃ q, bits_Div64.f (k + 9) hi lo m = some (q, (hi * 18446744073709551616 + lo) % m) := by
  unfold bits_Div64.f
  rw [if_neg (by rcases hm with rfl | rfl <;> omega), if_neg (by omega)]
  by_cases hz : hi = 0
  · rw [if_pos hz]
    rw [Int.tmod_eq_emod_of_nonneg l0, hz, Int.zero_mul, Int.zero_add]
    exact ⟨_, rfl⟩
  · rw [if_neg hz]
    have hlz : bits_LeadingZeros64.f (k + 9) m = some 3 := by
      rcases hm with rfl | rfl
      · exact zeros_P (k + 8)
      · exact zeros_N (k + 8)
    rw [hlz]; simp only [Option.bind_some]
    have e3 : IntKind.u64.wrap 3 = 3 := by decide
    have e61 : IntKind.u64.wrap (64 - 3) = 61 := by decide
    rw [e3, e61, if_pos (by decide), if_pos (by decide)]
    have sm : shl .u64 m 3 = m * 8 := by rcases hm with rfl | rfl <;> decide
    have sh : shl .u64 hi 3 = hi * 8 := by
      unfold shl; rw [show (2 : Int) ^ min (3 : Int).toNat IntKind.u64.bits = 8 by decide, wu_in _ (by omega) (by rcases hm with rfl | rfl <;> omega)]
    have sl : shl .u64 lo 3 = lo * 8 % 18446744073709551616 := by
      unfold shl; rw [show (2 : Int) ^ min (3 : Int).toNat IntKind.u64.bits = 8 by decide, wu]
    have sr : shr .u64 lo 61 = lo / 2305843009213693952 := by
      unfold shr; rw [show (2 : Int) ^ min (61 : Int).toNat IntKind.u64.bits = 2305843009213693952 by decide]
    rw [sm, sh, sl, sr, or_shift hi _ h0 (by rcases hm with rfl | rfl <;> omega) (by omega) (by omega)]
    have y1 : m * 8 / 4294967296 = 4294967295 := by rcases hm with rfl | rfl <;> decide
    rw [y1, if_neg (by decide), and_mask32 (lo * 8 % 18446744073709551616) (by omega) (by omega), Int.tdiv_eq_ediv_of_nonneg (by omega)]
    have hD : Two (m * 8) (Go.bits .and .u64 (m * 8) 4294967295) := by
      rw [and_mask32 (m * 8) (by rcases hm with rfl | rfl <;> omega) (by rcases hm with rfl | rfl <;> omega)]
      rcases hm with rfl | rfl
      · left; decide
      · right; decide
    have hu : hi * 8 + lo / 2305843009213693952 < m * 8 := by rcases hm with rfl | rfl <;> omega
    have fin : ((((hi * 8 + lo / 2305843009213693952) * 4294967296 + lo * 8 % 18446744073709551616 / 4294967296) % (m * 8)) * 4294967296 + lo * 8 % 18446744073709551616 % 4294967296) % (m * 8) / 8 = (hi * 18446744073709551616 + lo) % m := by
      have e1 : ((((hi * 8 + lo / 2305843009213693952) * 4294967296 + lo * 8 % 18446744073709551616 / 4294967296) % (m * 8)) * 4294967296 + lo * 8 % 18446744073709551616 % 4294967296) % (m * 8)
          = ((hi * 18446744073709551616 + lo) * 8) % (m * 8) := by
        rw [Int.add_emod, Int.mul_emod, Int.emod_emod, ← Int.mul_emod, ← Int.add_emod]
        congr 1; omega
      rw [e1, Int.mul_comm _ 8, Int.mul_comm m 8, Int.mul_emod_mul_of_pos _ _ (show (0 : Int) < 8 by decide), Int.mul_comm]
      exact Int.mul_ediv_cancel _ (by decide)
    have hu0 : 0 ≤ hi * 8 + lo / 2305843009213693952 := by omega
    generalize hi * 8 + lo / 2305843009213693952 = u at *
    rw [wu_in (u / 4294967295) (by omega) (by rcases hm with rfl | rfl <;> omega), wu_in (u / 4294967295 * 4294967295) (by omega) (by rcases hm with rfl | rfl <;> omega), wu_in (u - u / 4294967295 * 4294967295) (by omega) (by omega)]
    obtain ⟨a, ha⟩ := l0_ok hD k hu0 hu (show 0 ≤ lo * 8 % 18446744073709551616 / 4294967296 by omega) (by omega) (show 0 ≤ lo * 8 % 18446744073709551616 % 4294967296 by omega) (by omega) (show u / 4294967295 * 4294967295 + (u - u / 4294967295 * 4294967295) = u by omega) (by omega) (by omega) (by omega)
    exact ⟨a, by rw [ha, fin]⟩
theorem product_eq {m : Int} (hm : Mod2 m) (k : Nat) (a b : Int) (ha : 0 ≤ a) (ha' : a < m) (hb : 0 ≤ b) (hb' : b < m) :
    group_product.f (k + 9) a b m = some (a * b % m) := by
  have hmb : 0 < m ∧ m < 2305843009213693952 := by rcases hm with rfl | rfl <;> omega
  unfold group_product.f
  rw [wu_in a ha (by omega), wu_in b hb (by omega), wu_in m (by omega) (by omega), mul64_eq a b ha (by omega) hb (by omega)]
  simp only [Option.bind_some]
  unfold bits_Rem64.f
  rw [if_neg (by omega)]
  have hn : 0 ≤ a * b := Int.mul_nonneg ha hb
  generalize a * b = c at *
  rw [Int.tmod_eq_emod_of_nonneg (by omega)]
  have hq0 := Int.emod_nonneg (c / 18446744073709551616) (show m ≠ 0 by omega)
  have hq1 := Int.emod_lt_of_pos (c / 18446744073709551616) hmb.1
  obtain ⟨q, hq⟩ := div64_eq hm k (c / 18446744073709551616 % m) (c % 18446744073709551616) hq0 hq1 (by omega) (by omega)
  rw [hq]; simp only [Option.bind_some]
  have e : (c / 18446744073709551616 % m * 18446744073709551616 + c % 18446744073709551616) % m = c % m := by
    rw [Int.add_emod, Int.mul_emod, Int.emod_emod, ← Int.mul_emod, ← Int.add_emod]
    congr 1; omega
  rw [e, w64_in _ (by have := Int.emod_nonneg c (show m ≠ 0 by omega); omega) (by have := Int.emod_lt_of_pos c hmb.1; omega)]
theorem mul_eq (k : Nat) (a b : Int) : group_Mul.f (k + 9) a b = some (a * b % 2305843009213693951) := by
  unfold group_Mul.f
  rw [residue_eq a _ (by omega) (by omega), residue_eq b _ (by omega) (by omega)]
  simp only [Option.bind_some]
  rw [product_eq (.inl rfl) k _ _ (by omega) (by omega) (by omega) (by omega)]
  simp only [Option.bind_some]
  rw [← Int.mul_emod]
/-- the power of a residue, with a natural exponent -/
def pw (a : Int) (e : Nat) : Int := a ^ e % 2305843009213693951
theorem pw_bounds (a : Int) (e : Nat) : 0 ≤ pw a e ∧ pw a e < 2305843009213693951 := by unfold pw; omega
theorem pw_sq (a : Int) (e : Nat) : pw a e * pw a e % 2305843009213693951 = pw a (2 * e) := by
  unfold pw; rw [← Int.mul_emod, ← Int.pow_add, Nat.two_mul]
theorem pw_step (a : Int) (e : Nat) : pw a e * a % 2305843009213693951 = pw a (e + 1) := by
  unfold pw; rw [Int.mul_emod, Int.emod_emod, ← Int.mul_emod, Int.pow_succ]
theorem bit_at (e i : Nat) (he : e < 9223372036854775808) (hi : i < 63) :
    Go.bits .and .i64 (shr .i64 (e : Int) (62 - (i : Int))) 1 = ((e / 2 ^ (62 - i) % 2 : Nat) : Int) := by
  have h1 : shr .i64 (e : Int) (62 - (i : Int)) = ((e / 2 ^ (62 - i) : Nat) : Int) := by
    unfold shr
    rw [show min ((62 : Int) - (i : Int)).toNat IntKind.i64.bits = 62 - i by
      have : IntKind.i64.bits = 64 := rfl
      omega]
    rw [Int.natCast_ediv, Int.natCast_pow]; rfl
  rw [h1]
  exact Go.Proofs.and_one _ (Nat.lt_of_le_of_lt (Nat.div_le_self _ _) he)
theorem exp_l0 (k : Nat) (a : Int) (e : Nat) (ha : 0 ≤ a) (ha' : a < 2305843009213693951) (he : e < 9223372036854775808) (d : Nat) :
    ∀ i, i + d = 63 → group_Exp.l0 (k + d + 10) a e (pw a (e / 2 ^ (63 - i))) i = some (pw a e) := by
  induction d with
  | zero =>
    intro i hi
    obtain rfl : i = 63 := by omega
    rw [show k + 0 + 10 = k + 9 + 1 from rfl, group_Exp.l0, if_neg (by omega)]
    simp
  | succ d ih =>
    intro i hi
    have hb := pw_bounds a (e / 2 ^ (63 - i))
    rw [show k + (d + 1) + 10 = (k + d + 10) + 1 from rfl, group_Exp.l0, if_pos (by omega), show k + d + 10 = (k + d + 1) + 9 from rfl,
      product_eq (.inl rfl) _ _ _ hb.1 hb.2 hb.1 hb.2]
    simp only [Option.bind_some]
    rw [w64_in (62 - (i : Int)) (by omega) (by omega), if_pos (by omega), bit_at e i he (by omega), w64_in ((i : Int) + 1) (by omega) (by omega), pw_sq]
    have hh : e / 2 ^ (62 - i) / 2 = e / 2 ^ (63 - i) := by
      rw [Nat.div_div_eq_div_mul]; congr 1
      rw [← Nat.pow_succ]; congr 1; omega
    have nx := ih (i + 1) (by omega)
    rw [show 63 - (i + 1) = 62 - i by omega, show ((i + 1 : Nat) : Int) = (i : Int) + 1 by omega] at nx
    have hb2 := pw_bounds a (2 * (e / 2 ^ (63 - i)))
    by_cases hodd : e / 2 ^ (62 - i) % 2 = 1
    · rw [if_pos (by omega), product_eq (.inl rfl) _ _ _ hb2.1 hb2.2 ha ha']
      simp only [Option.bind_some]
      rw [pw_step, show 2 * (e / 2 ^ (63 - i)) + 1 = e / 2 ^ (62 - i) by omega]
      exact nx
    · rw [if_neg (by omega), show 2 * (e / 2 ^ (63 - i)) = e / 2 ^ (62 - i) by omega]
      exact nx
/-- the exponent that Exp takes -/
def ex (e : Int) : Nat := (if e < 0 then e % 2305843009213693950 else e).toNat
theorem pw_mod (a : Int) (e : Nat) : pw (a % 2305843009213693951) e = pw a e := by
  unfold pw
  induction e with
  | zero => rw [Int.pow_zero, Int.pow_zero]
  | succ n ih => rw [Int.pow_succ, Int.pow_succ, Int.mul_emod, ih, Int.emod_emod, ← Int.mul_emod]
theorem exp_nat (k : Nat) (a : Int) (n : Nat) (hn : n < 9223372036854775808) : group_Exp.j0 (k + 74) a n = some (pw a n) := by
  have h0 : n / 2 ^ (63 - 0) = 0 := Nat.div_eq_of_lt hn
  have h1 : pw (a % 2305843009213693951) 0 = 1 := by unfold pw; rw [Int.pow_zero]; decide
  have := exp_l0 k (a % 2305843009213693951) n (by omega) (by omega) hn 63 0 (by omega)
  rw [h0, h1, pw_mod, show ((0 : Nat) : Int) = 0 from rfl, show k + 63 + 10 = k + 73 by omega] at this
  rw [show k + 74 = k + 73 + 1 by omega, group_Exp.j0, residue_eq a _ (by omega) (by omega), Option.bind_some]
  exact this
theorem exp_eq (k : Nat) (a e : Int) (he : e < 9223372036854775808) : group_Exp.f (k + 74) a e = some (pw a (ex e)) := by
  unfold group_Exp.f ex
  by_cases h : e < 0
  · rw [if_pos h, if_pos h, residue_eq e _ (by omega) (by omega), Option.bind_some]
    have := exp_nat k a (e % 2305843009213693950).toNat (by omega)
    rw [Int.toNat_of_nonneg (by omega)] at this
    exact this
  · rw [if_neg h, if_neg h]
    have := exp_nat k a e.toNat (by omega)
    rw [Int.toNat_of_nonneg (by omega)] at this
    exact this
theorem inv_eq (k : Nat) (a : Int) : group_Inv.f (k + 74) a = if a % 2305843009213693951 = 0 then some (0, false) else some (pw a 2305843009213693949, true) := by
  unfold group_Inv.f
  rw [residue_eq a _ (by omega) (by omega)]
  simp only [Option.bind_some]
  split
  · rfl
  · rw [exp_eq k a _ (by omega)]; rfl
end Go.Proofs.Ytggmjfonhcinhaa.Grp
end GrpFnD_
section GrpLawD_
namespace Go.Proofs.Ytggmjfonhcinhaa.Grp
open Go.RowKit Go.Proofs.Ytggmjfonhcinhaa.P
set_option linter.unusedVariables false
set_option linter.unusedSimpArgs false
theorem mul_at {k : Nat} (hk : 74 ≤ k) (a b : Int) : group_Mul.f k a b = some (a * b % 2305843009213693951) := by
  obtain ⟨j, rfl⟩ : ∃ j, k = j + 9 := ⟨k - 9, by omega⟩
  exact mul_eq j a b
theorem inv_at {k : Nat} (hk : 74 ≤ k) (a : Int) : group_Inv.f k a = if a % 2305843009213693951 = 0 then some (0, false) else some (pw a 2305843009213693949, true) := by
  obtain ⟨j, rfl⟩ : ∃ j, k = j + 74 := ⟨k - 74, by omega⟩
  exact inv_eq j a
/-- the residue as a natural number -/
def nr (a : Int) : Nat := (a % 2305843009213693951).toNat
theorem nr_cast (a : Int) : (nr a : Int) = a % 2305843009213693951 := by unfold nr; omega
theorem nr_mod (a : Int) : nr a % Field.P = nr a := Nat.mod_eq_of_lt (by unfold nr Field.P; omega)
theorem nr_zero (a : Int) : nr a = 0 ↔ a % 2305843009213693951 = 0 := by unfold nr; omega
theorem pw_nr (a : Int) (e : Nat) : pw a e = ((nr a ^ e % Field.P : Nat) : Int) := by
  rw [← pw_mod, ← nr_cast]; unfold pw Field.P
  rw [Int.natCast_emod, Int.natCast_pow]; rfl
theorem nr_ne {a : Int} (h : a % 2305843009213693951 ≠ 0) : nr a % Field.P ≠ 0 := by rw [nr_mod]; exact fun h0 => h ((nr_zero a).1 h0)
theorem pw_one {a : Int} (h : a % 2305843009213693951 ≠ 0) : pw a 2305843009213693950 = 1 := by
  rw [show (2305843009213693950 : Nat) = Field.N from rfl, pw_nr]; exact congrArg Int.ofNat (Field.fermat (nr_ne h))
theorem pw_add (a : Int) (d e : Nat) : pw a d * pw a e % 2305843009213693951 = pw a (d + e) := by
  unfold pw; rw [← Int.mul_emod, ← Int.pow_add]
theorem pw_1 (a : Int) : pw a 1 = a % 2305843009213693951 := by unfold pw; rw [Int.pow_succ, Int.pow_zero, Int.one_mul]
/-- the inverse -/
theorem inv_law {a : Int} (h : a % 2305843009213693951 ≠ 0) : a * pw a 2305843009213693949 % 2305843009213693951 = 1 := by
  have h1 := pw_add a 1 2305843009213693949
  rw [pw_1, Int.mul_emod, Int.emod_emod, ← Int.mul_emod] at h1
  rw [h1]; exact pw_one h
end Go.Proofs.Ytggmjfonhcinhaa.Grp
end GrpLawD_
