/- What the functions of the reference agoraref04 answer: the same residues. No condition but that exponents are ints. -/
import Derived.Test.YtffmdbbndfmgdaaGrpLaw
import Derived.Test.YtffmdbbndfmgdaaP2
import Derived.Test.YtffmdbbndfmgdaaP3
import Derived.Test.YtffmdbbndfmgdaaP3
namespace Go.Proofs.Ytffmdbbndfmgdaa.Grp
open Go.RowKit Go.Proofs.Ytffmdbbndfmgdaa.P
set_option linter.unusedVariables false
set_option linter.unusedSimpArgs false

theorem rmod_eq (a m : Int) (hm : 0 < m) (h2 : m ≤ 2305843009213693952) : agoraref04_Mod.f a m = some (a % m) := by
  unfold agoraref04_Mod.f
  rw [if_neg (by omega)]; exact tmod_fix a m hm h2

theorem radd_eq (a b : Int) : agoraref04_Add.f a b = some ((a + b) % 2305843009213693951) := by
  unfold agoraref04_Add.f
  rw [rmod_eq a _ (by omega) (by omega), rmod_eq b _ (by omega) (by omega)]
  simp only [Option.bind_some]
  rw [w64_in _ (by omega) (by omega), rmod_eq _ _ (by omega) (by omega)]
  simp only [Option.bind_some]
  rw [← Int.add_emod]
theorem rsub_eq (a b : Int) : agoraref04_Sub.f a b = some ((a - b) % 2305843009213693951) := by
  unfold agoraref04_Sub.f
  rw [rmod_eq a _ (by omega) (by omega), rmod_eq b _ (by omega) (by omega)]
  simp only [Option.bind_some]
  rw [w64_in _ (by omega) (by omega), rmod_eq _ _ (by omega) (by omega)]
  simp only [Option.bind_some]
  rw [← Int.sub_emod]
theorem raddN_eq (a b : Int) : agoraref04_AddN.f a b = some ((a + b) % 2305843009213693950) := by
  unfold agoraref04_AddN.f
  rw [rmod_eq a _ (by omega) (by omega), rmod_eq b _ (by omega) (by omega)]
  simp only [Option.bind_some]
  rw [w64_in _ (by omega) (by omega), rmod_eq _ _ (by omega) (by omega)]
  simp only [Option.bind_some]
  rw [← Int.add_emod]
theorem rsubN_eq (a b : Int) : agoraref04_SubN.f a b = some ((a - b) % 2305843009213693950) := by
  unfold agoraref04_SubN.f
  rw [rmod_eq a _ (by omega) (by omega), rmod_eq b _ (by omega) (by omega)]
  simp only [Option.bind_some]
  rw [w64_in _ (by omega) (by omega), rmod_eq _ _ (by omega) (by omega)]
  simp only [Option.bind_some]
  rw [← Int.sub_emod]

theorem and_mask31 (x : Int) (h0 : 0 ≤ x) (h : x < 18446744073709551616) : Go.bits .and .u64 x 2147483647 = x % 2147483648 := by
  rw [u64_and x 2147483647 h0 h (by omega) (by omega)]
  obtain ⟨n, rfl⟩ := Int.eq_ofNat_of_zero_le h0
  rw [Int.toNat_natCast, show (2147483647 : Int).toNat = 2 ^ 31 - 1 from rfl, Nat.and_two_pow_sub_one_eq_mod]
  omega
theorem and_mask30 (x : Int) (h0 : 0 ≤ x) (h : x < 18446744073709551616) : Go.bits .and .u64 x 1073741823 = x % 1073741824 := by
  rw [u64_and x 1073741823 h0 h (by omega) (by omega)]
  obtain ⟨n, rfl⟩ := Int.eq_ofNat_of_zero_le h0
  rw [Int.toNat_natCast, show (1073741823 : Int).toNat = 2 ^ 30 - 1 from rfl, Nat.and_two_pow_sub_one_eq_mod]
  omega

/-- the three sums of partial products -/
theorem parts_eq (a b : Int) (ha : 0 ≤ a) (ha' : a < 2305843009213693952) (hb : 0 ≤ b) (hb' : b < 2305843009213693952) :
    ∃ h m l, agoraref04_parts.f a b = some (h, m, l) ∧ a * b = h * 4611686018427387904 + m * 2147483648 + l ∧ 0 ≤ h ∧ h < 1152921504606846976 ∧ 0 ≤ m ∧ m < 4611686018427387904 ∧ 0 ≤ l ∧ l < 4611686018427387904 := by
  unfold agoraref04_parts.f
  rw [wu_in a ha (by omega), wu_in b hb (by omega), and_mask31 a ha (by omega), and_mask31 b hb (by omega)]
  have ea : a = a / 2147483648 * 2147483648 + a % 2147483648 := by omega
  have eb : b = b / 2147483648 * 2147483648 + b % 2147483648 := by omega
  have a1 : 0 ≤ a / 2147483648 := by omega
  have a1' : a / 2147483648 ≤ 1073741823 := by omega
  have b1 : 0 ≤ b / 2147483648 := by omega
  have b1' : b / 2147483648 ≤ 1073741823 := by omega
  have a0 : 0 ≤ a % 2147483648 := by omega
  have a0' : a % 2147483648 ≤ 2147483647 := by omega
  have b0 : 0 ≤ b % 2147483648 := by omega
  have b0' : b % 2147483648 ≤ 2147483647 := by omega
  generalize a / 2147483648 = x1 at *
  generalize b / 2147483648 = y1 at *
  generalize a % 2147483648 = x0 at *
  generalize b % 2147483648 = y0 at *
  have m (x y X Y : Int) (hx : 0 ≤ x) (hx' : x ≤ X) (hy : 0 ≤ y) (hy' : y ≤ Y) : 0 ≤ x * y ∧ x * y ≤ X * Y :=
    ⟨Int.mul_nonneg hx hy, Int.le_trans (Int.mul_le_mul_of_nonneg_right hx' hy) (Int.mul_le_mul_of_nonneg_left hy' (by omega))⟩
  have p11 := m x1 y1 _ _ a1 a1' b1 b1'
  have p10 := m x1 y0 _ _ a1 a1' b0 b0'
  have p01 := m x0 y1 _ _ a0 a0' b1 b1'
  have p00 := m x0 y0 _ _ a0 a0' b0 b0'
  have e : a * b = x1 * y1 * 4611686018427387904 + (x1 * y0 + x0 * y1) * 2147483648 + x0 * y0 := by
    rw [ea, eb]
    simp only [Int.add_mul, Int.mul_add]
    have t1 : x1 * 2147483648 * (y1 * 2147483648) = x1 * y1 * 4611686018427387904 := by
      rw [Int.mul_assoc, Int.mul_comm 2147483648 (y1 * _), Int.mul_assoc y1, ← Int.mul_assoc]; rfl
    have t2 : x1 * 2147483648 * y0 = x1 * y0 * 2147483648 := by rw [Int.mul_right_comm]
    have t3 : x0 * (y1 * 2147483648) = x0 * y1 * 2147483648 := by rw [Int.mul_assoc]
    rw [t1, t2, t3]; omega
  refine ⟨x1 * y1, x1 * y0 + x0 * y1, x0 * y0, ?_, e, ?_⟩
  · clear e ea eb
    generalize x1 * y1 = q11 at *
    generalize x1 * y0 = q10 at *
    generalize x0 * y1 = q01 at *
    generalize x0 * y0 = q00 at *
    rw [wu_in q11 (by omega) (by omega), wu_in q00 (by omega) (by omega), wu_in q10 (by omega) (by omega), wu_in q01 (by omega) (by omega), wu_in (q10 + q01) (by omega) (by omega)]
  · clear e ea eb
    generalize x1 * y1 = q11 at *
    generalize x1 * y0 = q10 at *
    generalize x0 * y1 = q01 at *
    generalize x0 * y0 = q00 at *
    omega

theorem rmul_eq (a b : Int) : agoraref04_Mul.f a b = some (a * b % 2305843009213693951) := by
  unfold agoraref04_Mul.f
  rw [rmod_eq a _ (by omega) (by omega), rmod_eq b _ (by omega) (by omega)]
  simp only [Option.bind_some]
  obtain ⟨h, m, l, e1, e2, h0, h1, m0, m1, l0, l1⟩ := parts_eq (a % 2305843009213693951) (b % 2305843009213693951) (by omega) (by omega) (by omega) (by omega)
  rw [e1]; simp only [Option.bind_some]
  rw [Int.mul_emod, e2]
  clear e1 e2
  rw [and_mask30 m m0 (by omega), wu_in (2 * h) (by omega) (by omega), wu_in (2 * h + m / 1073741824) (by omega) (by omega), wu_in (m % 1073741824 * 2147483648) (by omega) (by omega),
    wu_in (2 * h + m / 1073741824 + m % 1073741824 * 2147483648) (by omega) (by omega), wu_in _ (by omega) (by omega), Int.tmod_eq_emod_of_nonneg (by omega), w64_in _ (by omega) (by omega)]
  congr 1; omega

theorem rmulN_eq (a b : Int) : agoraref04_MulN.f a b = some (a * b % 2305843009213693950) := by
  unfold agoraref04_MulN.f
  rw [rmod_eq a _ (by omega) (by omega), rmod_eq b _ (by omega) (by omega)]
  simp only [Option.bind_some]
  obtain ⟨h, m, l, e1, e2, h0, h1, m0, m1, l0, l1⟩ := parts_eq (a % 2305843009213693950) (b % 2305843009213693950) (by omega) (by omega) (by omega) (by omega)
  rw [e1]; simp only [Option.bind_some]
  rw [Int.mul_emod, e2]
  clear e1 e2
  rw [and_mask30 m m0 (by omega), wu_in (4 * h) (by omega) (by omega), wu_in (2 * (m / 1073741824)) (by omega) (by omega), wu_in (4 * h + 2 * (m / 1073741824)) (by omega) (by omega), wu_in (m % 1073741824 * 2147483648) (by omega) (by omega),
    wu_in (4 * h + 2 * (m / 1073741824) + m % 1073741824 * 2147483648) (by omega) (by omega), wu_in _ (by omega) (by omega), Int.tmod_eq_emod_of_nonneg (by omega), w64_in _ (by omega) (by omega)]
  congr 1; omega

/-- the reference's power, from the least significant bit on -/
theorem rexp_l0 (d : Nat) : ∀ (k e : Nat) (x b : Int), e < 2 ^ d → e < 9223372036854775808 → 0 ≤ x → x < 2305843009213693951 →
    agoraref04_Exp.l0 (k + d + 1) e x b = some (x * b ^ e % 2305843009213693951) := by
  induction d with
  | zero =>
    intro k e x b he _ hx0 hx
    obtain rfl : e = 0 := by simpa using he
    rw [agoraref04_Exp.l0, if_neg (by omega), Int.pow_zero, Int.mul_one, Int.emod_eq_of_lt hx0 hx]
  | succ d ih =>
    intro k e x b he he2 hx0 hx
    rw [agoraref04_Exp.l0]
    by_cases h0 : e = 0
    · subst h0
      rw [if_neg (by omega), Int.pow_zero, Int.mul_one, Int.emod_eq_of_lt hx0 hx]
    · have hh : e / 2 < 2 ^ d := by rw [Nat.pow_succ] at he; omega
      have hd : wrap64 (Int.tdiv (e : Int) 2) = ((e / 2 : Nat) : Int) := by
        rw [Int.tdiv_eq_ediv_of_nonneg (by omega), w64_in _ (by omega) (by omega)]; omega
      have hs : ∀ y : Int, y * (b * b % 2305843009213693951) ^ (e / 2) % 2305843009213693951 = y * b ^ (2 * (e / 2)) % 2305843009213693951 := by
        intro y
        have h1 := pw_mod (b * b) (e / 2)
        unfold pw at h1
        rw [Int.mul_emod, h1, ← Int.mul_emod, Int.pow_mul]; congr 2
        rw [Int.pow_succ, Int.pow_succ, Int.pow_zero, Int.one_mul]
      rw [if_pos (by omega), hd, Int.tmod_eq_emod_of_nonneg (by omega), show k + (d + 1) = (k + d + 1) from rfl]
      by_cases h1 : e % 2 = 1
      · rw [if_pos (by omega), rmul_eq, Option.bind_some, rmul_eq, Option.bind_some, ih k (e / 2) _ _ hh (by omega) (by omega) (by omega), hs]
        rw [Int.mul_emod, Int.emod_emod, ← Int.mul_emod]
        have : x * b * b ^ (2 * (e / 2)) = x * b ^ e := by
          conv => rhs; rw [show e = 2 * (e / 2) + 1 by omega, Int.pow_succ]
          rw [Int.mul_assoc, Int.mul_comm b]
        rw [this]
      · rw [if_neg (by omega), rmul_eq, Option.bind_some, ih k (e / 2) _ _ hh (by omega) hx0 hx, hs, show 2 * (e / 2) = e by omega]

theorem rexp_nat {k : Nat} (hk : 66 ≤ k) (a : Int) (n : Nat) (hn : n < 9223372036854775808) : agoraref04_Exp.j0 k a n = some (pw a n) := by
  obtain ⟨j, rfl⟩ : ∃ j, k = (j + 63 + 1) + 1 := ⟨k - 65, by omega⟩
  rw [agoraref04_Exp.j0, rmod_eq a _ (by omega) (by omega), Option.bind_some, rexp_l0 63 j n 1 _ hn hn (by omega) (by omega), Int.one_mul]
  exact congrArg some (pw_mod a n)

theorem rexp_at {k : Nat} (hk : 74 ≤ k) (a e : Int) (he : e < 9223372036854775808) : agoraref04_Exp.f k a e = some (pw a (ex e)) := by
  unfold agoraref04_Exp.f ex
  by_cases h : e < 0
  · rw [if_pos h, if_pos h, rmod_eq e _ (by omega) (by omega), Option.bind_some]
    have := rexp_nat (show 66 ≤ k by omega) a (e % 2305843009213693950).toNat (by omega)
    rw [Int.toNat_of_nonneg (by omega)] at this
    exact this
  · rw [if_neg h, if_neg h]
    have := rexp_nat (show 66 ≤ k by omega) a e.toNat (by omega)
    rw [Int.toNat_of_nonneg (by omega)] at this
    exact this

theorem mulm_ (a b : Int) : a % 2305843009213693951 * b % 2305843009213693951 = a * b % 2305843009213693951 := by rw [Int.mul_emod, Int.emod_emod, ← Int.mul_emod]

/-- Euclid's steps: r, s the rests, x, y the factors of a (signs alternate: x = -t * X, y = t * Y), and X * s + Y * r = P -/
theorem euclid (a : Int) (d : Nat) : ∀ (k r s X Y : Nat) (t x y : Int), t = 1 ∨ t = -1 → x = -(t * X) → y = t * Y → X * s + Y * r = 2305843009213693951 → s ≤ r → r ≤ 2305843009213693951 → r * s < 2 ^ d →
    Nat.gcd r s = 1 → (2305843009213693951 : Int) ∣ x * a - r → (2305843009213693951 : Int) ∣ y * a - s →
    ∃ z, agoraref04_Inv.l0 (k + d + 1) r s x y = some (z, true) ∧ 0 ≤ z ∧ z < 2305843009213693951 ∧ a * z % 2305843009213693951 = 1 := by
  have fin : ∀ (k r : Nat) (x y : Int), Nat.gcd r 0 = 1 → (2305843009213693951 : Int) ∣ x * a - r → ∃ z, agoraref04_Inv.l0 (k + 1) r ((0 : Nat) : Int) x y = some (z, true) ∧ 0 ≤ z ∧ z < 2305843009213693951 ∧ a * z % 2305843009213693951 = 1 := by
    intro k r x y hg hr
    rw [Nat.gcd_zero_right] at hg; subst hg
    refine ⟨x % 2305843009213693951, ?_, by omega, by omega, ?_⟩
    · rw [agoraref04_Inv.l0, if_neg (by omega), rmod_eq x _ (by omega) (by omega), Option.bind_some]
    · rw [Int.mul_emod, Int.emod_emod, ← Int.mul_emod, Int.mul_comm]
      obtain ⟨c, hc⟩ := hr
      rw [show x * a = 1 + 2305843009213693951 * c by omega, Int.add_mul_emod_self_left]; decide
  induction d with
  | zero =>
    intro k r s X Y t x y ht hx hy hP hsr hrP hrs hg hr hs
    have h0 : r * s = 0 := by simpa using hrs
    obtain rfl : s = 0 := by rcases Nat.mul_eq_zero.1 h0 with h | h <;> omega
    exact fin _ r x y hg hr
  | succ d ih =>
    intro k r s X Y t x y ht hx hy hP hsr hrP hrs hg hr hs
    by_cases h0 : s = 0
    · subst h0; exact fin _ r x y hg hr
    · have hs0 : 0 < s := Nat.pos_of_ne_zero h0
      have hdm := Nat.div_add_mod r s
      have hlt := Nat.mod_lt r hs0
      have hq : 1 ≤ r / s := (Nat.one_le_div_iff hs0).2 hsr
      have hg2 : Nat.gcd s (r % s) = 1 := by rw [Nat.gcd_comm, ← Nat.gcd_rec, Nat.gcd_comm]; exact hg
      have et : Int.tdiv (r : Int) (s : Int) = ((r / s : Nat) : Int) := by
        rw [Int.tdiv_eq_ediv_of_nonneg (by omega)]; exact (Int.natCast_ediv r s).symm
      generalize hqv : r / s = q at *
      generalize hmv : r % s = m at *
      have hsq : s ≤ s * q := Nat.le_mul_of_pos_right _ hq
      have hP2 : Y * m + (X + q * Y) * s = 2305843009213693951 := by
        have e1 : Y * r = Y * (s * q) + Y * m := by rw [← Nat.mul_add, hdm]
        have e2 : q * Y * s = Y * (s * q) := by rw [Nat.mul_comm q Y, Nat.mul_assoc, Nat.mul_comm q s]
        rw [Nat.add_mul, e2]; omega
      have hb1 : X + q * Y ≤ 2305843009213693951 := by
        have : X + q * Y ≤ (X + q * Y) * s := Nat.le_mul_of_pos_right _ hs0
        omega
      have hprod : s * m < 2 ^ d := by
        have h2 : m + m ≤ r := by omega
        have h3 : s * (m + m) ≤ s * r := Nat.mul_le_mul_left s h2
        rw [Nat.mul_add, Nat.mul_comm s r] at h3
        rw [Nat.pow_succ] at hrs; omega
      have w1 : wrap64 (Int.tdiv (r : Int) (s : Int)) = (q : Int) := by
        rw [et]; refine w64_in _ (by omega) ?_
        have : q ≤ s * q := Nat.le_mul_of_pos_left _ hs0
        omega
      have w2 : wrap64 ((q : Int) * (s : Int)) = (q : Int) * s := by
        refine w64_in _ ?_ ?_
        · have := Int.mul_nonneg (Int.natCast_nonneg q) (Int.natCast_nonneg s); omega
        · rw [← Int.natCast_mul, Nat.mul_comm q s]; omega
      have w3 : wrap64 ((r : Int) - (q : Int) * s) = (m : Int) := by
        have : (r : Int) - (q : Int) * s = (m : Int) := by rw [← Int.natCast_mul, Nat.mul_comm q s]; omega
        rw [this]; exact w64_in _ (by omega) (by omega)
      have qY0 : (q : Int) * (Y : Int) = ((q * Y : Nat) : Int) := (Int.natCast_mul q Y).symm
      have w4 : wrap64 ((q : Int) * y) = (q : Int) * y := by
        subst hy
        refine w64_in _ ?_ ?_ <;> rcases ht with rfl | rfl
        · rw [Int.one_mul, qY0]; omega
        · rw [Int.neg_mul, Int.one_mul, Int.mul_neg, qY0]; omega
        · rw [Int.one_mul, qY0]; omega
        · rw [Int.neg_mul, Int.one_mul, Int.mul_neg, qY0]; omega
      have hxy : x - (q : Int) * y = -t * ((X + q * Y : Nat) : Int) := by
        subst hx hy
        rw [Int.natCast_add, ← qY0]
        rcases ht with rfl | rfl
        · simp only [Int.one_mul, Int.neg_mul]; omega
        · simp only [Int.one_mul, Int.neg_mul, Int.mul_neg]; omega
      have w5 : wrap64 (x - (q : Int) * y) = x - (q : Int) * y := by
        rw [hxy]
        refine w64_in _ ?_ ?_ <;> rcases ht with rfl | rfl
        · simp only [Int.one_mul, Int.neg_mul]; omega
        · simp only [Int.one_mul, Int.neg_mul, Int.neg_neg]; omega
        · simp only [Int.one_mul, Int.neg_mul]; omega
        · simp only [Int.one_mul, Int.neg_mul, Int.neg_neg]; omega
      have hs' : (2305843009213693951 : Int) ∣ (x - (q : Int) * y) * a - (m : Int) := by
        have e : (x - (q : Int) * y) * a - (m : Int) = (x * a - r) - q * (y * a - s) := by
          rw [Int.sub_mul, Int.mul_sub, Int.mul_assoc]
          have : (m : Int) = (r : Int) - q * s := by rw [← Int.natCast_mul, Nat.mul_comm q s]; omega
          omega
        rw [e]; exact Int.dvd_sub hr (Int.dvd_mul_of_dvd_right hs)
      obtain ⟨z, hz⟩ := ih k s m Y (X + q * Y) (-t) y (x - (q : Int) * y) (by omega) (by rw [hy, Int.neg_mul, Int.neg_neg]) hxy hP2 (by omega) (by omega) hprod hg2 hs hs'
      refine ⟨z, ?_, hz.2⟩
      rw [← hz.1, show k + (d + 1) + 1 = (k + d + 1) + 1 from rfl, agoraref04_Inv.l0, if_pos (by omega), if_neg (by omega), w1, w2, w3, w4, w5]

theorem rinv_at {k : Nat} (hk : 130 ≤ k) (a : Int) : agoraref04_Inv.f k a = if a % 2305843009213693951 = 0 then some (0, false) else some (pw a 2305843009213693949, true) := by
  unfold agoraref04_Inv.f
  rw [rmod_eq a _ (by omega) (by omega), Option.bind_some]
  by_cases h : a % 2305843009213693951 = 0
  · rw [if_pos h, if_pos h]
  · rw [if_neg h, if_neg h]
    obtain ⟨j, rfl⟩ : ∃ j, k = j + 124 + 1 := ⟨k - 125, by omega⟩
    have hn := nr_cast a
    have hnl : nr a < 2305843009213693951 := by unfold nr; omega
    have hg : Nat.gcd 2305843009213693951 (nr a) = 1 := by
      have h1 := inv_law h
      rw [← mulm_] at h1
      have hd1 := Nat.gcd_dvd_left 2305843009213693951 (nr a)
      have hd2 := Nat.gcd_dvd_right 2305843009213693951 (nr a)
      have hd1' : ((Nat.gcd 2305843009213693951 (nr a) : Nat) : Int) ∣ 2305843009213693951 := Int.natCast_dvd_natCast.2 hd1
      have hd2' : ((Nat.gcd 2305843009213693951 (nr a) : Nat) : Int) ∣ (nr a : Int) := Int.natCast_dvd_natCast.2 hd2
      have e := Int.emod_add_mul_ediv (a % 2305843009213693951 * pw a 2305843009213693949) 2305843009213693951
      rw [h1] at e
      have hdv : ((Nat.gcd 2305843009213693951 (nr a) : Nat) : Int) ∣ 1 := by
        have h3 : (1 : Int) = a % 2305843009213693951 * pw a 2305843009213693949 - 2305843009213693951 * (a % 2305843009213693951 * pw a 2305843009213693949 / 2305843009213693951) := by omega
        rw [h3, ← hn]
        exact Int.dvd_sub (Int.dvd_mul_of_dvd_left hd2') (Int.dvd_mul_of_dvd_left hd1')
      exact Nat.eq_one_of_dvd_one (Int.natCast_dvd_natCast.1 hdv)
    obtain ⟨z, hz, z0, z1, z2⟩ := euclid a 124 j 2305843009213693951 (nr a) 0 1 1 0 1 (.inl rfl) (by omega) (by omega) (by omega) (by omega) (by omega)
      (Nat.lt_of_lt_of_le (Nat.mul_lt_mul_of_pos_left hnl (by omega)) (by decide)) hg ⟨-1, by omega⟩
      (by rw [Int.one_mul, hn]; exact ⟨a / 2305843009213693951, by omega⟩)
    rw [hn] at hz
    rw [inv_only z2 z0 z1] at hz
    exact hz
end Go.Proofs.Ytffmdbbndfmgdaa.Grp
