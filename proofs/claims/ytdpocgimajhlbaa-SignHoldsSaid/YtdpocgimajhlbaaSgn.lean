/- Package sign on numbers: what its functions compute. -/
import Derived.Test.YtdpocgimajhlbaaP8
import Derived.Test.YtdpocgimajhlbaaP7
import Derived.Test.YtdpocgimajhlbaaP7
import Derived.Test.YtdpocgimajhlbaaGrpLawB
import Derived.Test.YtdpocgimajhlbaaNumL
namespace Go.Proofs.Ytdpocgimajhlbaa.Sgn
open Go.RowKit Go.Proofs.Ytdpocgimajhlbaa.P Go.Proofs.Ytdpocgimajhlbaa.ShaL Go.Proofs.Ytdpocgimajhlbaa.Grp Go.Proofs.Ytdpocgimajhlbaa.NumL Go.Proofs.YtdpocgimajhlbaaW.PrintWords Go.Proofs.YtdpocgimajhlbaaW.PrintLast
set_option linter.unusedVariables false

theorem sz_of (l : List Int) : (strOfNums l).size = l.length := by simp [strOfNums, ByteArray.size]
/-- the bytes of a number -/
def numB (n : Int) : ByteArray := strOfNums ((numF 9 n.toNat).map fun n : Nat => (n : Int))
theorem numF_length (k n : Nat) : (numF k n).length ≤ k + 1 := by
  induction k generalizing n with
  | zero => simp [numF]
  | succ k ih =>
    rw [numF]; split
    · simp
    · have := ih (n / 128); rw [List.length_cons]; omega
theorem numB_size (n : Int) : (numB n).size ≤ 10 := by rw [numB, sz_of, List.length_map]; exact numF_length 9 _
theorem num_at (n : Int) (h0 : 0 ≤ n) (h : n < 9223372036854775808) : code_Num.f n = some (numB n) := by
  unfold code_Num.f
  rw [if_neg (by omega), if_pos h]; rfl
/-- a text with its length in front -/
def textB (s : ByteArray) : ByteArray := numB (s.size : Int) ++ s
theorem textB_size (s : ByteArray) : (textB s).size ≤ 10 + s.size := by
  rw [textB, ByteArray.size_append]; have := numB_size (s.size : Int); omega
theorem text_at (s : ByteArray) (h : s.size ≤ 4000) : code_Text.f s = some (textB s) := by
  have := numB_size (s.size : Int)
  unfold code_Text.f
  rw [num_at _ (by omega) (by omega), Option.bind_some, if_pos (by omega)]; rfl
theorem catB_size (l : List ByteArray) : (catB l).size = (l.map ByteArray.size).sum := by
  unfold catB
  simp only [ByteArray.size, List.size_toArray, List.length_flatMap]
  rfl
/-- the number of the digest of some strings, one behind the other -/
def hashN (l : List ByteArray) : Nat := numN (bts (Sch.shaB (catB l)))
theorem hashN_lt (l : List ByteArray) : hashN l < 2305843009213693952 := numN_lt _
theorem hash_at (l : List ByteArray) (h : l.length ≤ 1000) (hs : (catB l).size ≤ 1099511627776) : sign_hash.f l = some ((hashN l : Nat) : Int) := by
  unfold sign_hash.f
  rw [if_pos ⟨h, hs⟩]
  exact NumL.num_at _ 20 (by decide)
/-- a secret number -/
def secN (l : List ByteArray) : Int := 1 + (hashN l : Int) % 2305843009213693949
theorem secN_range (l : List ByteArray) : 1 ≤ secN l ∧ secN l < 2305843009213693950 := by unfold secN; omega
theorem secret_at (l : List ByteArray) (h : l.length ≤ 1000) (hs : (catB l).size ≤ 1099511627776) : sign_secret.f l = some (secN l) := by
  unfold sign_secret.f
  rw [hash_at l h hs, Option.bind_some, Int.tmod_eq_emod_of_nonneg (by omega), w64_in _ (by omega) (by omega)]; rfl
/-- the challenge -/
def chal (r y : Int) (m : ByteArray) : Int := (hashN [textB ⟨#[115, 105, 103, 110]⟩, numB r, numB y, textB m] : Int) % 2305843009213693950
theorem chal_range (r y : Int) (m : ByteArray) : 0 ≤ chal r y m ∧ chal r y m < 2305843009213693950 := by unfold chal; omega
theorem chal_at (r y : Int) (m : ByteArray) (hr : 0 ≤ r) (hr' : r < 9223372036854775808) (hy : 0 ≤ y) (hy' : y < 9223372036854775808) (hm : m.size ≤ 4000) : sign_challenge.f r y m = some (chal r y m) := by
  have s1 := textB_size ⟨#[115, 105, 103, 110]⟩
  have s2 := numB_size r
  have s3 := numB_size y
  have s4 := textB_size m
  have s5 : (ByteArray.mk #[115, 105, 103, 110]).size = 4 := rfl
  unfold sign_challenge.f
  rw [text_at _ (by omega), Option.bind_some, num_at r hr hr', Option.bind_some, num_at y hy hy', Option.bind_some, text_at m hm, Option.bind_some,
    hash_at _ (by simp) (by rw [catB_size]; simp only [List.map_cons, List.map_nil, List.sum_cons, List.sum_nil]; omega), Option.bind_some, Int.tmod_eq_emod_of_nonneg (by omega)]
  rfl
theorem pwb (e : Nat) : 0 ≤ pw 37 e ∧ pw 37 e < 2305843009213693951 := pw_bounds 37 e
theorem pw37_pos (e : Nat) : 1 ≤ pw 37 e := by
  have := pw_ne (a := 37) (by decide) e
  have := pw_bounds 37 e
  omega
theorem of_in {k : Nat} (hk : 74 ≤ k) (x : Int) (h1 : 1 ≤ x) (h2 : x < 2305843009213693950) : sign_Of.f k x = some (x, pw 37 x.toNat) := by
  unfold sign_Of.f
  rw [if_neg (by omega), if_neg (by omega), exp_at hk 37 x (by omega), Option.bind_some]
  congr 3
  unfold ex; rw [if_neg (by omega)]
theorem of_out (k : Nat) (x : Int) (h : ¬ (1 ≤ x ∧ x < 2305843009213693950)) : sign_Of.f k x = some (0, 0) := by
  unfold sign_Of.f
  by_cases h1 : x < 1
  · rw [if_pos h1]
  · rw [if_neg h1, if_pos (by omega)]
/-- the secret of a seed -/
def keySec (seed : ByteArray) : Int := secN [textB ⟨#[107, 101, 121]⟩, textB seed]
theorem key_at {k : Nat} (hk : 74 ≤ k) (seed : ByteArray) (hs : seed.size ≤ 4000) : sign_Key.f k seed = some (keySec seed, pw 37 (keySec seed).toNat) := by
  have s1 := textB_size ⟨#[107, 101, 121]⟩
  have s2 := textB_size seed
  have s5 : (ByteArray.mk #[107, 101, 121]).size = 3 := rfl
  have hr := secN_range [textB ⟨#[107, 101, 121]⟩, textB seed]
  unfold sign_Key.f
  rw [text_at _ (by omega), Option.bind_some, text_at seed hs, Option.bind_some, secret_at _ (by simp) (by rw [catB_size]; simp only [List.map_cons, List.map_nil, List.sum_cons, List.sum_nil]; omega), Option.bind_some, of_in hk _ hr.1 hr.2, Option.bind_some]
  rfl
theorem right_at {k : Nat} (hk : 74 ≤ k) (x y : Int) (h1 : 1 ≤ x) (h2 : x < 2305843009213693950) : sign_Right.f k x y = some (y == pw 37 x.toNat) := by
  unfold sign_Right.f
  rw [if_neg (by omega), of_in hk x h1 h2, Option.bind_some]
  simp
theorem right_out (k : Nat) (x y : Int) (h : ¬ (1 ≤ x ∧ x < 2305843009213693950)) : sign_Right.f k x y = some false := by
  unfold sign_Right.f
  by_cases h0 : x = 0
  · rw [if_pos h0]
  · rw [if_neg h0, of_out k x h, Option.bind_some]
    simp [h0]
/-- the nonce, and both numbers of a signature -/
def nonce (x : Int) (m : ByteArray) : Int := secN [textB ⟨#[110, 111, 110, 99, 101]⟩, numB x, textB m]
def sigE (x : Int) (m : ByteArray) : Int := chal (pw 37 (nonce x m).toNat) (pw 37 x.toNat) m
def sigS (x : Int) (m : ByteArray) : Int := (nonce x m + sigE x m * x % 2305843009213693950) % 2305843009213693950
theorem sign_at {k : Nat} (hk : 74 ≤ k) (x : Int) (m : ByteArray) (h1 : 1 ≤ x) (h2 : x < 2305843009213693950) (hm : m.size ≤ 4000) : sign_Sign.f k x (pw 37 x.toNat) m = some (sigE x m, sigS x m) := by
  have s1 := textB_size ⟨#[110, 111, 110, 99, 101]⟩
  have s2 := numB_size x
  have s4 := textB_size m
  have s5 : (ByteArray.mk #[110, 111, 110, 99, 101]).size = 5 := rfl
  have hn := secN_range [textB ⟨#[110, 111, 110, 99, 101]⟩, numB x, textB m]
  have hsec : sign_secret.f [textB ⟨#[110, 111, 110, 99, 101]⟩, numB x, textB m] = some (nonce x m) := secret_at _ (by simp) (by rw [catB_size]; simp only [List.map_cons, List.map_nil, List.sum_cons, List.sum_nil]; omega)
  have hexp : group_Exp.f k 37 (nonce x m) = some (pw 37 (nonce x m).toNat) := by
    rw [exp_at hk 37 _ (by unfold nonce; omega)]
    have : ex (nonce x m) = (nonce x m).toNat := by unfold ex; rw [if_neg (by unfold nonce; omega)]
    rw [this]
  have b1 := pwb (nonce x m).toNat
  have b2 := pwb x.toNat
  have hch : sign_challenge.f (pw 37 (nonce x m).toNat) (pw 37 x.toNat) m = some (sigE x m) := chal_at _ _ m (by omega) (by omega) (by omega) (by omega) hm
  unfold sign_Sign.f
  rw [right_at hk x _ h1 h2, Option.bind_some, beq_self_eq_true, if_pos rfl, text_at _ (by omega), Option.bind_some, num_at x (by omega) (by omega), Option.bind_some, text_at m hm, Option.bind_some, hsec, Option.bind_some, hexp, Option.bind_some, hch, Option.bind_some, mulN_at hk, Option.bind_some, addN_eq, Option.bind_some]
  rfl
theorem sign_wrong {k : Nat} (x y : Int) (m : ByteArray) (h : sign_Right.f k x y = some false) : sign_Sign.f k x y m = some (0, 0) := by
  unfold sign_Sign.f
  rw [h, Option.bind_some, if_neg (by decide)]
/-- the commitment that a signature stands for -/
def com (y e s : Int) : Int := pw 37 s.toNat * pw y (2305843009213693950 - e).toNat % 2305843009213693951
theorem com_range (y e s : Int) : 0 ≤ com y e s ∧ com y e s < 2305843009213693951 := by unfold com; omega
theorem verify_in {k : Nat} (hk : 75 ≤ k) (y e s : Int) (m : ByteArray) (y1 : 1 ≤ y) (y2 : y < 2305843009213693951) (e1 : 0 ≤ e) (e2 : e < 2305843009213693950) (s1 : 0 ≤ s) (s2 : s < 2305843009213693950) (hm : m.size ≤ 4000) :
    sign_Verify.f k y m e s = some (chal (com y e s) y m == e) := by
  obtain ⟨k, rfl⟩ : ∃ j, k = j + 1 := ⟨k - 1, by omega⟩
  have hk' : 74 ≤ k := by omega
  have hc := com_range y e s
  unfold sign_Verify.f
  rw [if_neg (by omega), if_neg (by omega), if_neg (by omega), if_neg (by omega), if_neg (by omega), decide_eq_false (by omega), sign_Verify.j0, if_neg (by decide), w64_in _ (by omega) (by omega), exp_at hk' 37 s (by omega), Option.bind_some, exp_at hk' y _ (by omega), Option.bind_some, mul_at hk', Option.bind_some]
  have x1 : ex s = s.toNat := by unfold ex; rw [if_neg (by omega)]
  have x2 : ex (2305843009213693950 - e) = (2305843009213693950 - e).toNat := by unfold ex; rw [if_neg (by omega)]
  rw [x1, x2]
  rw [show pw 37 s.toNat * pw y (2305843009213693950 - e).toNat % 2305843009213693951 = com y e s from rfl, chal_at _ _ m (by omega) (by omega) (by omega) (by omega) hm, Option.bind_some]
theorem verify_out {k : Nat} (hk : 1 ≤ k) (y e s : Int) (m : ByteArray) (h : ¬ (1 ≤ y ∧ y < 2305843009213693951 ∧ 0 ≤ e ∧ e < 2305843009213693950 ∧ 0 ≤ s ∧ s < 2305843009213693950)) :
    sign_Verify.f k y m e s = some false := by
  obtain ⟨k, rfl⟩ : ∃ j, k = j + 1 := ⟨k - 1, by omega⟩
  have h0 : sign_Verify.j0 (k + 1) y m true e s = some false := by rw [sign_Verify.j0, if_pos rfl]
  unfold sign_Verify.f
  by_cases c1 : y < 1
  · rw [if_pos c1]; exact h0
  rw [if_neg c1]
  by_cases c2 : y ≥ 2305843009213693951
  · rw [if_pos c2]; exact h0
  rw [if_neg c2]
  by_cases c3 : e < 0
  · rw [if_pos c3]; exact h0
  rw [if_neg c3]
  by_cases c4 : e ≥ 2305843009213693950
  · rw [if_pos c4]; exact h0
  rw [if_neg c4]
  by_cases c5 : s < 0
  · rw [if_pos c5]; exact h0
  rw [if_neg c5, decide_eq_true (by omega)]; exact h0
/-- the commitment of a signature 'S = U + E x' for the key 'G^x' is G^U -/
theorem com_eq (x u e s : Int) (hx : 0 ≤ x) (hu : 0 ≤ u) (he : 0 ≤ e) (he2 : e < 2305843009213693950) (hs : s = (u + e * x % 2305843009213693950) % 2305843009213693950) :
    com (pw 37 x.toNat) e s = pw 37 u.toNat := by
  have hs0 : 0 ≤ s := by omega
  unfold com
  rw [pw_pw, pw_add]
  refine pw_same (by decide) ?_
  rw [Int.natCast_add, Int.natCast_mul, Int.toNat_of_nonneg hs0, Int.toNat_of_nonneg hx, Int.toNat_of_nonneg (by omega), Int.toNat_of_nonneg hu]
  rw [Int.mul_sub, Int.mul_comm x e, hs]
  generalize e * x = p
  omega
theorem sigS_range (x : Int) (m : ByteArray) : 0 ≤ sigS x m ∧ sigS x m < 2305843009213693950 := by unfold sigS; omega
theorem nonce_range (x : Int) (m : ByteArray) : 1 ≤ nonce x m ∧ nonce x m < 2305843009213693950 := secN_range _
theorem sigE_range (x : Int) (m : ByteArray) : 0 ≤ sigE x m ∧ sigE x m < 2305843009213693950 := chal_range _ _ _
theorem com_sig (x : Int) (m : ByteArray) (hx : 0 ≤ x) : com (pw 37 x.toNat) (sigE x m) (sigS x m) = pw 37 (nonce x m).toNat :=
  com_eq x (nonce x m) (sigE x m) (sigS x m) hx (by have := nonce_range x m; omega) (sigE_range x m).1 (sigE_range x m).2 rfl
/-- a signature is accepted for its key and its message -/
theorem holds {k : Nat} (hk : 75 ≤ k) (x : Int) (m : ByteArray) (h1 : 1 ≤ x) (hm : m.size ≤ 4000) : sign_Verify.f k (pw 37 x.toNat) m (sigE x m) (sigS x m) = some true := by
  have b := pwb x.toNat
  have := pw37_pos x.toNat
  rw [verify_in hk _ _ _ m (by omega) (by omega) (sigE_range x m).1 (sigE_range x m).2 (sigS_range x m).1 (sigS_range x m).2 hm, com_sig x m (by omega)]
  simp [sigE]
end Go.Proofs.Ytdpocgimajhlbaa.Sgn
