/- Texts of this claim, merged: what the functions that the law reaches compute, and what that says. -/
import Derived.Test.YtdpocgimajhlbaaK19
import Derived.Test.YtdpocgimajhlbaaK23
import Derived.Test.YtdpocgimajhlbaaK24
import Derived.Test.YtdpocgimajhlbaaK25
section RefCode_
namespace Go.Proofs.Ytdpocgimajhlbaa.Sgn
open Go.RowKit Go.Proofs.Ytdpocgimajhlbaa.P Go.Proofs.Ytdpocgimajhlbaa.ShaL Go.Proofs.Ytdpocgimajhlbaa.Grp Go.Proofs.Ytdpocgimajhlbaa.NumL Go.Proofs.YtdpocgimajhlbaaW.PrintWords Go.Proofs.YtdpocgimajhlbaaW.PrintLast
set_option linter.unusedVariables false
theorem strOf_cons (a : Int) (l : List Int) : strOfNums [a] ++ strOfNums l = strOfNums (a :: l) := by
  apply ByteArray.ext
  simp [strOfNums, ByteArray.data_append]
theorem refnum_nat (j : Nat) : ∀ (k n : Nat), n < 128 ^ (j + 1) → (n : Int) < 9223372036854775808 → j + 1 ≤ k → j ≤ 9 → agoraref02_Num.f k (n : Int) = some (strOfNums ((numF j n).map fun n : Nat => (n : Int))) := by
  induction j with
  | zero =>
    intro k n hn h2 hk _
    obtain ⟨k, rfl⟩ : ∃ k', k = k' + 1 := ⟨k - 1, by omega⟩
    rw [agoraref02_Num.f, if_neg (by omega), if_pos (by omega), numF]
    simp
  | succ j ih =>
    intro k n hn h2 hk hj
    obtain ⟨k, rfl⟩ : ∃ k', k = k' + 1 := ⟨k - 1, by omega⟩
    have hd : n / 128 < 128 ^ (j + 1) := (Nat.div_lt_iff_lt_mul (by decide)).2 (by rw [← Nat.pow_succ]; exact hn)
    clear hn
    by_cases h : n < 128
    · rw [agoraref02_Num.f, if_neg (by omega), if_pos (by omega), numF, if_pos h]
      congr 1
      simp only [List.map_cons, List.map_nil]
      congr 2
      omega
    · have w1 : (wrap64 (128 + (Int.tmod (n : Int) 128))) % 256 = ((n % 128 + 128 : Nat) : Int) := by
        rw [Int.tmod_eq_emod_of_nonneg (by omega), wrap64]; omega
      have w2 : wrap64 (Int.tdiv (n : Int) 128) = ((n / 128 : Nat) : Int) := by
        rw [Int.tdiv_eq_ediv_of_nonneg (by omega), wrap64]; omega
      have := numF_length j (n / 128)
      rw [agoraref02_Num.f, if_neg (by omega), if_neg (by omega), w1, w2, Option.bind_some, ih k (n / 128) hd (by omega) (by omega) (by omega), Option.bind_some, if_pos (by rw [sz_of, sz_of, List.length_map]; simp only [List.length_cons, List.length_nil]; omega), strOf_cons, numF, if_neg h]
      rfl
theorem refnum_at {k : Nat} (hk : 10 ≤ k) (n : Int) (h0 : 0 ≤ n) (h : n < 9223372036854775808) : agoraref02_Num.f k n = some (numB n) := by
  have := refnum_nat 9 k n.toNat (Nat.lt_of_lt_of_le (show n.toNat < 9223372036854775808 by omega) (by decide)) (by omega) (by omega) (by omega)
  rw [Int.toNat_of_nonneg h0] at this
  exact this
theorem reftext_at {k : Nat} (hk : 10 ≤ k) (s : ByteArray) (h : s.size ≤ 4000) : agoraref02_Text.f k s = some (textB s) := by
  have := numB_size (s.size : Int)
  unfold agoraref02_Text.f
  rw [refnum_at hk _ (by omega) (by omega), Option.bind_some, if_pos (by omega)]; rfl
theorem catB_cons (a : ByteArray) (l : List ByteArray) : catB (a :: l) = a ++ catB l := by
  apply ByteArray.ext
  simp [catB, ByteArray.data_append]
theorem catB_nil : catB [] = ByteArray.empty := rfl
theorem cat2 (a b : ByteArray) : a ++ b = catB [a, b] := by rw [catB_cons, catB_cons, catB_nil, ByteArray.append_empty]
theorem cat3 (a b c : ByteArray) : a ++ b ++ c = catB [a, b, c] := by rw [catB_cons, ← cat2, ByteArray.append_assoc]
theorem cat4 (a b c d : ByteArray) : a ++ b ++ c ++ d = catB [a, b, c, d] := by rw [catB_cons, ← cat3, ByteArray.append_assoc, ByteArray.append_assoc, ByteArray.append_assoc]
end Go.Proofs.Ytdpocgimajhlbaa.Sgn
end RefCode_
section RefB_
namespace Go.Proofs.Ytdpocgimajhlbaa.Grp
open Go.RowKit Go.Proofs.Ytdpocgimajhlbaa.P
set_option linter.unusedVariables false
set_option linter.unusedSimpArgs false
theorem rmod_eq (a m : Int) (hm : 0 < m) (h2 : m ≤ 2305843009213693952) : agoraref04_Mod.f a m = some (a % m) := by
  unfold agoraref04_Mod.f
  rw [if_neg (by omega)]; exact tmod_fix a m hm h2
theorem raddN_eq (a b : Int) : agoraref04_AddN.f a b = some ((a + b) % 2305843009213693950) := by
  unfold agoraref04_AddN.f
  rw [rmod_eq a _ (by omega) (by omega), rmod_eq b _ (by omega) (by omega)]
  simp only [Option.bind_some]
  rw [w64_in _ (by omega) (by omega), rmod_eq _ _ (by omega) (by omega)]
  simp only [Option.bind_some]
  rw [← Int.add_emod]
theorem and_mask31 (x : Int) (h0 : 0 ≤ x) (h : x < 18446744073709551616) : Go.bits .and .u64 x 2147483647 = x % 2147483648 := by
  rw [u64_and x 2147483647 h0 h (by omega) (by omega)]
  obtain ⟨n, rfl⟩ := Int.eq_ofNat_of_zero_le h0
  rw [Int.toNat_natCast, show (2147483647 : Int).toNat = 2 ^ 31 - 1 from rfl, Nat.and_two_pow_sub_one_eq_mod]
  omega
theorem and_mask30 (x : Int) (h0 : 0 ≤ x) (h : x < 18446744073709551616) : Go.bits .and .u64 x 1073741823 = x % 1073741824 := by
  rw [u64_and x 1073741823 h0 h (by omega) (by omega)]
  obtain ⟨n, rfl⟩ := Int.eq_ofNat_of_zero_le h0
  rw [Int.toNat_natCast, show (1073741823 : Int).toNat = 2 ^ 30 - 1 from rfl, Nat.and_two_pow_sub_one_eq_mod]
  omega
/-- the three sums of partial products -/
theorem parts_eq (a b : Int) (ha : 0 ≤ a) (ha' : a < 2305843009213693952) (hb : 0 ≤ b) (hb' : b < 2305843009213693952) :
    ∃ h m l, agoraref04_parts.f a b = some (h, m, l) ∧ a * b = h * 4611686018427387904 + m * 2147483648 + l ∧ 0 ≤ h ∧ h < 1152921504606846976 ∧ 0 ≤ m ∧ m < 4611686018427387904 ∧ 0 ≤ l ∧ l < 4611686018427387904 := by
  unfold agoraref04_parts.f
  rw [wu_in a ha (by omega), wu_in b hb (by omega), and_mask31 a ha (by omega), and_mask31 b hb (by omega)]
  have ea : a = a / 2147483648 * 2147483648 + a % 2147483648 := by omega
  have eb : b = b / 2147483648 * 2147483648 + b % 2147483648 := by omega
  have a1 : 0 ≤ a / 2147483648 := by omega
  have a1' : a / 2147483648 ≤ 1073741823 := by omega
  have b1 : 0 ≤ b / 2147483648 := by omega
  have b1' : b / 2147483648 ≤ 1073741823 := by omega
  have a0 : 0 ≤ a % 2147483648 := by omega
  have a0' : a % 2147483648 ≤ 2147483647 := by omega
  have b0 : 0 ≤ b % 2147483648 := by omega
  have b0' : b % 2147483648 ≤ 2147483647 := by omega
  generalize a / 2147483648 = x1 at *
  generalize b / 2147483648 = y1 at *
  generalize a % 2147483648 = x0 at *
  generalize b % 2147483648 = y0 at *
  have m (x y X Y : Int) (hx : 0 ≤ x) (hx' : x ≤ X) (hy : 0 ≤ y) (hy' : y ≤ Y) : 0 ≤ x * y ∧ x * y ≤ X * Y :=
    ⟨Int.mul_nonneg hx hy, Int.le_trans (Int.mul_le_mul_of_nonneg_right hx' hy) (Int.mul_le_mul_of_nonneg_left hy' (by omega))⟩
  have p11 := m x1 y1 _ _ a1 a1' b1 b1'
  have p10 := m x1 y0 _ _ a1 a1' b0 b0'
  have p01 := m x0 y1 _ _ a0 a0' b1 b1'
  have p00 := m x0 y0 _ _ a0 a0' b0 b0'
  have e : a * b = x1 * y1 * 4611686018427387904 + (x1 * y0 + x0 * y1) * 2147483648 + x0 * y0 := by
    rw [ea, eb]
    simp only [Int.add_mul, Int.mul_add]
    have t1 : x1 * 2147483648 * (y1 * 2147483648) = x1 * y1 * 4611686018427387904 := by
      rw [Int.mul_assoc, Int.mul_comm 2147483648 (y1 * _), Int.mul_assoc y1, ← Int.mul_assoc]; rfl
    have t2 : x1 * 2147483648 * y0 = x1 * y0 * 2147483648 := by rw [Int.mul_right_comm]
    have t3 : x0 * (y1 * 2147483648) = x0 * y1 * 2147483648 := by rw [Int.mul_assoc]
    rw [t1, t2, t3]; omega
  refine ⟨x1 * y1, x1 * y0 + x0 * y1, x0 * y0, ?_, e, ?_⟩
  · clear e ea eb
    generalize x1 * y1 = q11 at *
    generalize x1 * y0 = q10 at *
    generalize x0 * y1 = q01 at *
    generalize x0 * y0 = q00 at *
    rw [wu_in q11 (by omega) (by omega), wu_in q00 (by omega) (by omega), wu_in q10 (by omega) (by omega), wu_in q01 (by omega) (by omega), wu_in (q10 + q01) (by omega) (by omega)]
  · clear e ea eb
    generalize x1 * y1 = q11 at *
    generalize x1 * y0 = q10 at *
    generalize x0 * y1 = q01 at *
    generalize x0 * y0 = q00 at *
    omega
theorem rmul_eq (a b : Int) : agoraref04_Mul.f a b = some (a * b % 2305843009213693951) := by
  unfold agoraref04_Mul.f
  rw [rmod_eq a _ (by omega) (by omega), rmod_eq b _ (by omega) (by omega)]
  simp only [Option.bind_some]
  obtain ⟨h, m, l, e1, e2, h0, h1, m0, m1, l0, l1⟩ := parts_eq (a % 2305843009213693951) (b % 2305843009213693951) (by omega) (by omega) (by omega) (by omega)
  rw [e1]; simp only [Option.bind_some]
  rw [Int.mul_emod, e2]
  clear e1 e2
  rw [and_mask30 m m0 (by omega), wu_in (2 * h) (by omega) (by omega), wu_in (2 * h + m / 1073741824) (by omega) (by omega), wu_in (m % 1073741824 * 2147483648) (by omega) (by omega),
    wu_in (2 * h + m / 1073741824 + m % 1073741824 * 2147483648) (by omega) (by omega), wu_in _ (by omega) (by omega), Int.tmod_eq_emod_of_nonneg (by omega), w64_in _ (by omega) (by omega)]
  congr 1; omega
theorem rmulN_eq (a b : Int) : agoraref04_MulN.f a b = some (a * b % 2305843009213693950) := by
  unfold agoraref04_MulN.f
  rw [rmod_eq a _ (by omega) (by omega), rmod_eq b _ (by omega) (by omega)]
  simp only [Option.bind_some]
  obtain ⟨h, m, l, e1, e2, h0, h1, m0, m1, l0, l1⟩ := parts_eq (a % 2305843009213693950) (b % 2305843009213693950) (by omega) (by omega) (by omega) (by omega)
  rw [e1]; simp only [Option.bind_some]
  rw [Int.mul_emod, e2]
  clear e1 e2
  rw [and_mask30 m m0 (by omega), wu_in (4 * h) (by omega) (by omega), wu_in (2 * (m / 1073741824)) (by omega) (by omega), wu_in (4 * h + 2 * (m / 1073741824)) (by omega) (by omega), wu_in (m % 1073741824 * 2147483648) (by omega) (by omega),
    wu_in (4 * h + 2 * (m / 1073741824) + m % 1073741824 * 2147483648) (by omega) (by omega), wu_in _ (by omega) (by omega), Int.tmod_eq_emod_of_nonneg (by omega), w64_in _ (by omega) (by omega)]
  congr 1; omega
/-- the reference's power, from the least significant bit on -/
theorem rexp_l0 (d : Nat) : ∀ (k e : Nat) (x b : Int), e < 2 ^ d → e < 9223372036854775808 → 0 ≤ x → x < 2305843009213693951 →
    agoraref04_Exp.l0 (k + d + 1) e x b = some (x * b ^ e % 2305843009213693951) := by
  induction d with
  | zero =>
    intro k e x b he _ hx0 hx
    obtain rfl : e = 0 := by simpa using he
    rw [agoraref04_Exp.l0, if_neg (by omega), Int.pow_zero, Int.mul_one, Int.emod_eq_of_lt hx0 hx]
  | succ d ih =>
    intro k e x b he he2 hx0 hx
    rw [agoraref04_Exp.l0]
    by_cases h0 : e = 0
    · subst h0
      rw [if_neg (by omega), Int.pow_zero, Int.mul_one, Int.emod_eq_of_lt hx0 hx]
    · have hh : e / 2 < 2 ^ d := by rw [Nat.pow_succ] at he; omega
      have hd : wrap64 (Int.tdiv (e : Int) 2) = ((e / 2 : Nat) : Int) := by
        rw [Int.tdiv_eq_ediv_of_nonneg (by omega), w64_in _ (by omega) (by omega)]; omega
      have hs : ∀ y : Int, y * (b * b % 2305843009213693951) ^ (e / 2) % 2305843009213693951 = y * b ^ (2 * (e / 2)) % 2305843009213693951 := by
        intro y
        have h1 := pw_mod (b * b) (e / 2)
        unfold pw at h1
        rw [Int.mul_emod, h1, ← Int.mul_emod, Int.pow_mul]; congr 2
        rw [Int.pow_succ, Int.pow_succ, Int.pow_zero, Int.one_mul]
      rw [if_pos (by omega), hd, Int.tmod_eq_emod_of_nonneg (by omega), show k + (d + 1) = (k + d + 1) from rfl]
      by_cases h1 : e % 2 = 1
      · rw [if_pos (by omega), rmul_eq, Option.bind_some, rmul_eq, Option.bind_some, ih k (e / 2) _ _ hh (by omega) (by omega) (by omega), hs]
        rw [Int.mul_emod, Int.emod_emod, ← Int.mul_emod]
        have : x * b * b ^ (2 * (e / 2)) = x * b ^ e := by
          conv => rhs; rw [show e = 2 * (e / 2) + 1 by omega, Int.pow_succ]
          rw [Int.mul_assoc, Int.mul_comm b]
        rw [this]
      · rw [if_neg (by omega), rmul_eq, Option.bind_some, ih k (e / 2) _ _ hh (by omega) hx0 hx, hs, show 2 * (e / 2) = e by omega]
theorem rexp_nat {k : Nat} (hk : 66 ≤ k) (a : Int) (n : Nat) (hn : n < 9223372036854775808) : agoraref04_Exp.j0 k a n = some (pw a n) := by
  obtain ⟨j, rfl⟩ : ∃ j, k = (j + 63 + 1) + 1 := ⟨k - 65, by omega⟩
  rw [agoraref04_Exp.j0, rmod_eq a _ (by omega) (by omega), Option.bind_some, rexp_l0 63 j n 1 _ hn hn (by omega) (by omega), Int.one_mul]
  exact congrArg some (pw_mod a n)
theorem rexp_at {k : Nat} (hk : 74 ≤ k) (a e : Int) (he : e < 9223372036854775808) : agoraref04_Exp.f k a e = some (pw a (ex e)) := by
  unfold agoraref04_Exp.f ex
  by_cases h : e < 0
  · rw [if_pos h, if_pos h, rmod_eq e _ (by omega) (by omega), Option.bind_some]
    have := rexp_nat (show 66 ≤ k by omega) a (e % 2305843009213693950).toNat (by omega)
    rw [Int.toNat_of_nonneg (by omega)] at this
    exact this
  · rw [if_neg h, if_neg h]
    have := rexp_nat (show 66 ≤ k by omega) a e.toNat (by omega)
    rw [Int.toNat_of_nonneg (by omega)] at this
    exact this
end Go.Proofs.Ytdpocgimajhlbaa.Grp
end RefB_
section RefSgn_
namespace Go.Proofs.Ytdpocgimajhlbaa.Sgn
open Go.RowKit Go.Proofs.Ytdpocgimajhlbaa.P Go.Proofs.Ytdpocgimajhlbaa.ShaL Go.Proofs.Ytdpocgimajhlbaa.Grp Go.Proofs.Ytdpocgimajhlbaa.NumL Go.Proofs.YtdpocgimajhlbaaW.PrintWords Go.Proofs.YtdpocgimajhlbaaW.PrintLast
set_option linter.unusedVariables false
theorem refhash_at {k : Nat} (hk : 10 ≤ k) (l : List ByteArray) (hs : (catB l).size ≤ 1099511627776) : agoraref05_hash.f k (catB l) = some ((hashN l : Nat) : Int) := by
  unfold agoraref05_hash.f
  rw [show agoraref03_Sha.f (catB l) = some (Sch.shaB (catB l)) from if_pos hs, Option.bind_some, NumL.refnum_at _ k hk, Option.bind_some]; rfl
theorem refchal_at {k : Nat} (hk : 10 ≤ k) (r y : Int) (m : ByteArray) (hr : 0 ≤ r) (hr' : r < 9223372036854775808) (hy : 0 ≤ y) (hy' : y < 9223372036854775808) (hm : m.size ≤ 4000) : agoraref05_Challenge.f k r y m = some (chal r y m) := by
  have s1 := textB_size ⟨#[115, 105, 103, 110]⟩
  have s2 := numB_size r
  have s3 := numB_size y
  have s4 := textB_size m
  have s5 : (ByteArray.mk #[115, 105, 103, 110]).size = 4 := rfl
  unfold agoraref05_Challenge.f
  rw [reftext_at hk _ (by omega), Option.bind_some, refnum_at hk r hr hr', Option.bind_some, if_pos (by omega), refnum_at hk y hy hy', Option.bind_some, if_pos (by rw [ByteArray.size_append]; omega), reftext_at hk m hm, Option.bind_some, if_pos (by rw [ByteArray.size_append, ByteArray.size_append]; omega), cat4,
    refhash_at hk _ (by rw [catB_size]; simp only [List.map_cons, List.map_nil, List.sum_cons, List.sum_nil]; omega), Option.bind_some, Int.tmod_eq_emod_of_nonneg (by omega)]
  rfl
theorem refcom_at {k : Nat} (hk : 74 ≤ k) (y e s : Int) (e1 : 0 ≤ e) (e2 : e < 2305843009213693950) (s1 : 0 ≤ s) (s2 : s < 2305843009213693950) : agoraref05_Commitment.f k y e s = some (com y e s) := by
  unfold agoraref05_Commitment.f
  rw [w64_in _ (by omega) (by omega), rexp_at hk 37 s (by omega), Option.bind_some, rexp_at hk y _ (by omega), Option.bind_some, rmul_eq, Option.bind_some]
  have x1 : ex s = s.toNat := by unfold ex; rw [if_neg (by omega)]
  have x2 : ex (2305843009213693950 - e) = (2305843009213693950 - e).toNat := by unfold ex; rw [if_neg (by omega)]
  rw [x1, x2]; rfl
theorem com_any (x u e s : Int) (hx : 0 ≤ x) (he : 0 ≤ e) (he2 : e < 2305843009213693950) (hs : s = (u + e * x % 2305843009213693950) % 2305843009213693950) :
    com (pw 37 x.toNat) e s = pw 37 (ex u) := by
  have hs0 : 0 ≤ s := by omega
  have hu := ex_mod u
  unfold com
  rw [pw_pw, pw_add]
  refine pw_same (by decide) ?_
  rw [Int.natCast_add, Int.natCast_mul, Int.toNat_of_nonneg hs0, Int.toNat_of_nonneg hx, Int.toNat_of_nonneg (by omega), hu]
  rw [Int.mul_sub, Int.mul_comm x e, hs]
  generalize e * x = p
  omega
end Go.Proofs.Ytdpocgimajhlbaa.Sgn
end RefSgn_
section RefKeys_
namespace Go.Proofs.Ytdpocgimajhlbaa.Sgn
open Go.RowKit Go.Proofs.Ytdpocgimajhlbaa.P Go.Proofs.Ytdpocgimajhlbaa.ShaL Go.Proofs.Ytdpocgimajhlbaa.Grp Go.Proofs.Ytdpocgimajhlbaa.NumL Go.Proofs.YtdpocgimajhlbaaW.PrintWords Go.Proofs.YtdpocgimajhlbaaW.PrintLast
set_option linter.unusedVariables false
theorem refof_in {k : Nat} (hk : 74 ≤ k) (x : Int) (h1 : 1 ≤ x) (h2 : x < 2305843009213693950) : agoraref05_Of.f k x = some (x, pw 37 x.toNat) := by
  have e : ex x = x.toNat := by unfold ex; rw [if_neg (by omega)]
  unfold agoraref05_Of.f
  rw [if_neg (by omega), if_neg (by omega), rexp_at hk 37 x (by omega), Option.bind_some, e]
theorem refof_out (k : Nat) (x : Int) (h : ¬ (1 ≤ x ∧ x < 2305843009213693950)) : agoraref05_Of.f k x = some (0, 0) := by
  unfold agoraref05_Of.f
  by_cases h1 : x < 1
  · rw [if_pos h1]
  · rw [if_neg h1, if_pos (by omega)]
theorem refsecret_at {k : Nat} (hk : 10 ≤ k) (l : List ByteArray) (hs : (catB l).size ≤ 1099511627776) : agoraref05_Secret.f k (catB l) = some (secN l) := by
  unfold agoraref05_Secret.f
  rw [refhash_at hk l hs, Option.bind_some, Int.tmod_eq_emod_of_nonneg (by omega), w64_in _ (by omega) (by omega)]; rfl
theorem refkey_at {k : Nat} (hk : 74 ≤ k) (seed : ByteArray) (hs : seed.size ≤ 4000) : agoraref05_Key.f k seed = some (keySec seed, pw 37 (keySec seed).toNat) := by
  have s1 := textB_size ⟨#[107, 101, 121]⟩
  have s2 := textB_size seed
  have s5 : (ByteArray.mk #[107, 101, 121]).size = 3 := rfl
  have hr := secN_range [textB ⟨#[107, 101, 121]⟩, textB seed]
  have hk' : 10 ≤ k := by omega
  unfold agoraref05_Key.f
  rw [reftext_at hk' _ (by omega), Option.bind_some, reftext_at hk' seed hs, Option.bind_some, if_pos (by omega), cat2, refsecret_at hk' _ (by rw [catB_size]; simp only [List.map_cons, List.map_nil, List.sum_cons, List.sum_nil]; omega), Option.bind_some, refof_in hk _ hr.1 hr.2, Option.bind_some]
  rfl
theorem refright_at {k : Nat} (hk : 74 ≤ k) (x y : Int) (h1 : 1 ≤ x) (h2 : x < 2305843009213693950) : agoraref05_Right.f k x y = some (y == pw 37 x.toNat) := by
  unfold agoraref05_Right.f
  rw [if_pos (by omega), refof_in hk x h1 h2, Option.bind_some]
  simp
theorem refright_out (k : Nat) (x y : Int) (h : ¬ (1 ≤ x ∧ x < 2305843009213693950)) : agoraref05_Right.f k x y = some false := by
  unfold agoraref05_Right.f
  by_cases h0 : x > 0
  · rw [if_pos h0, refof_out k x h, Option.bind_some, beq_false_of_ne (by omega)]; rfl
  · rw [if_neg h0]
theorem refsign_at {k : Nat} (hk : 74 ≤ k) (x : Int) (m : ByteArray) (h1 : 1 ≤ x) (h2 : x < 2305843009213693950) (hm : m.size ≤ 4000) : agoraref05_Sign.f k x (pw 37 x.toNat) m = some (sigE x m, sigS x m) := by
  have s1 := textB_size ⟨#[110, 111, 110, 99, 101]⟩
  have s2 := numB_size x
  have s4 := textB_size m
  have s5 : (ByteArray.mk #[110, 111, 110, 99, 101]).size = 5 := rfl
  have hk' : 10 ≤ k := by omega
  have hn := nonce_range x m
  have hsec : agoraref05_Secret.f k (catB [textB ⟨#[110, 111, 110, 99, 101]⟩, numB x, textB m]) = some (nonce x m) := refsecret_at hk' _ (by rw [catB_size]; simp only [List.map_cons, List.map_nil, List.sum_cons, List.sum_nil]; omega)
  have hexp : agoraref04_Exp.f k 37 (nonce x m) = some (pw 37 (nonce x m).toNat) := by
    rw [rexp_at hk 37 _ (by omega)]
    have : ex (nonce x m) = (nonce x m).toNat := by unfold ex; rw [if_neg (by omega)]
    rw [this]
  have b1 := pwb (nonce x m).toNat
  have b2 := pwb x.toNat
  have hch : agoraref05_Challenge.f k (pw 37 (nonce x m).toNat) (pw 37 x.toNat) m = some (sigE x m) := refchal_at hk' _ _ m (by omega) (by omega) (by omega) (by omega) hm
  unfold agoraref05_Sign.f
  rw [refright_at hk x _ h1 h2, Option.bind_some, beq_self_eq_true, if_pos rfl, reftext_at hk' _ (by omega), Option.bind_some, refnum_at hk' x (by omega) (by omega), Option.bind_some, if_pos (by omega), reftext_at hk' m hm, Option.bind_some, if_pos (by rw [ByteArray.size_append]; omega), cat3, hsec, Option.bind_some, hexp, Option.bind_some, hch, Option.bind_some, rmulN_eq, Option.bind_some, raddN_eq, Option.bind_some]
  rfl
theorem refsign_wrong {k : Nat} (x y : Int) (m : ByteArray) (h : agoraref05_Right.f k x y = some false) : agoraref05_Sign.f k x y m = some (0, 0) := by
  unfold agoraref05_Sign.f
  rw [h, Option.bind_some, if_neg (by decide)]
/-- both sign the same, whatever the key -/
theorem sign_both {k : Nat} (hk : 74 ≤ k) (x y : Int) (m : ByteArray) (hm : m.size ≤ 4000) : ∃ e s, sign_Sign.f k x y m = some (e, s) ∧ agoraref05_Sign.f k x y m = some (e, s) := by
  by_cases h : 1 ≤ x ∧ x < 2305843009213693950
  · by_cases hy : y = pw 37 x.toNat
    · subst hy
      exact ⟨_, _, sign_at hk x m h.1 h.2 hm, refsign_at hk x m h.1 h.2 hm⟩
    · exact ⟨0, 0, sign_wrong x y m (by rw [right_at hk x y h.1 h.2, beq_false_of_ne hy]), refsign_wrong x y m (by rw [refright_at hk x y h.1 h.2, beq_false_of_ne hy])⟩
  · exact ⟨0, 0, sign_wrong x y m (right_out k x y h), refsign_wrong x y m (refright_out k x y h)⟩
theorem right_both {k : Nat} (hk : 74 ≤ k) (x y : Int) : ∃ b, sign_Right.f k x y = some b ∧ agoraref05_Right.f k x y = some b := by
  by_cases h : 1 ≤ x ∧ x < 2305843009213693950
  · exact ⟨_, right_at hk x y h.1 h.2, refright_at hk x y h.1 h.2⟩
  · exact ⟨_, right_out k x y h, refright_out k x y h⟩
end Go.Proofs.Ytdpocgimajhlbaa.Sgn
end RefKeys_
section SubN_
namespace Go.Proofs.Ytdpocgimajhlbaa.Grp
open Go.RowKit Go.Proofs.Ytdpocgimajhlbaa.P Go.Proofs.YtdpocgimajhlbaaW.PrintWords Go.Proofs.YtdpocgimajhlbaaW.PrintLast
set_option linter.unusedVariables false
theorem subN_eq (a b : Int) : group_SubN.f a b = some ((a - b) % 2305843009213693950) := by
  unfold group_SubN.f
  rw [residue_eq a _ (by omega) (by omega), residue_eq b _ (by omega) (by omega)]
  simp only [Option.bind_some]
  rw [w64_in _ (by omega) (by omega), residue_eq _ _ (by omega) (by omega)]
  simp only [Option.bind_some]
  rw [← Int.sub_emod]
end Go.Proofs.Ytdpocgimajhlbaa.Grp
end SubN_
