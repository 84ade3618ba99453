/- The checksum as a linear map on numbers: plain, no program in sight. -/
namespace Go.Proofs.Ytloieoneckjjeaa.CrcL
set_option linter.unusedSimpArgs false

theorem xor_add_low (a b k : Nat) (hb : b < 2 ^ k) : 2 ^ k * a + b = 2 ^ k * a ^^^ b := by
  rw [Nat.two_pow_add_eq_or_of_lt hb]
  apply Nat.eq_of_testBit_eq
  intro i
  rw [Nat.testBit_or, Nat.testBit_xor]
  rw [Nat.testBit_two_pow_mul]
  rcases Nat.lt_or_ge i k with h | h
  · rw [decide_eq_false (by omega)]; simp
  · rw [Nat.testBit_lt_two_pow (Nat.lt_of_lt_of_le hb (Nat.pow_le_pow_right (by decide) h))]; simp
theorem mul_xor (a b k : Nat) : 2 ^ k * (a ^^^ b) = 2 ^ k * a ^^^ 2 ^ k * b := by
  apply Nat.eq_of_testBit_eq
  intro i
  rw [Nat.testBit_xor, Nat.testBit_two_pow_mul, Nat.testBit_two_pow_mul, Nat.testBit_two_pow_mul, Nat.testBit_xor]
  cases decide (k ≤ i) <;> simp
theorem div2_xor (a b : Nat) : (a ^^^ b) / 2 = a / 2 ^^^ b / 2 := by
  apply Nat.eq_of_testBit_eq
  intro i
  rw [Nat.testBit_xor, Nat.testBit_div_two, Nat.testBit_div_two, Nat.testBit_div_two, Nat.testBit_xor]
theorem mod2_xor (a b : Nat) : (a ^^^ b) % 2 = (a % 2 + b % 2) % 2 := by
  have h : (a ^^^ b).testBit 0 = ((a.testBit 0) ^^ (b.testBit 0)) := Nat.testBit_xor ..
  rw [Nat.testBit_zero, Nat.testBit_zero, Nat.testBit_zero] at h
  rcases Nat.mod_two_eq_zero_or_one a with ha | ha <;> rcases Nat.mod_two_eq_zero_or_one b with hb | hb <;> rcases Nat.mod_two_eq_zero_or_one (a ^^^ b) with hc | hc <;> simp [ha, hb, hc] at h ⊢

/-- one bit of the register -/
def stp (c : Nat) : Nat := c / 2 ^^^ 2197175160 * (c % 2)
theorem stp_xor (a b : Nat) : stp (a ^^^ b) = stp a ^^^ stp b := by
  unfold stp
  rw [div2_xor, mod2_xor]
  rcases Nat.mod_two_eq_zero_or_one a with ha | ha <;> rcases Nat.mod_two_eq_zero_or_one b with hb | hb
  · simp [ha, hb]
  · simp only [ha, hb, Nat.zero_add, Nat.mul_zero, Nat.xor_zero, Nat.mul_one, Nat.xor_assoc]
  · simp only [ha, hb, Nat.add_zero, Nat.mul_zero, Nat.xor_zero, Nat.mul_one, Nat.xor_assoc]; rw [Nat.xor_comm (b / 2)]
  · simp only [ha, hb, Nat.mul_one, Nat.mul_zero, Nat.xor_zero]
    rw [show a / 2 ^^^ 2197175160 ^^^ (b / 2 ^^^ 2197175160) = a / 2 ^^^ b / 2 ^^^ (2197175160 ^^^ 2197175160) by ac_rfl, Nat.xor_self, Nat.xor_zero]
theorem stp_two (x : Nat) : stp (2 * x) = x := by
  unfold stp
  rw [Nat.mul_div_cancel_left _ (by decide), Nat.mul_mod_right, Nat.mul_zero, Nat.xor_zero]
theorem stp_lt (c : Nat) (h : c < 4294967296) : stp c < 4294967296 := by
  unfold stp
  refine Nat.xor_lt_two_pow (n := 32) (Nat.lt_of_le_of_lt (Nat.div_le_self _ _) h) ?_
  rcases Nat.mod_two_eq_zero_or_one c with hc | hc <;> rw [hc] <;> decide
/-- a number of 32 bits is not sent to 0 unless it is 0 -/
theorem stp_zero (c : Nat) (h : c < 4294967296) (h0 : stp c = 0) : c = 0 := by
  unfold stp at h0
  have h1 : c / 2 = 2197175160 * (c % 2) := by
    have := congrArg (fun z => z ^^^ 2197175160 * (c % 2)) h0
    simpa [Nat.xor_assoc, Nat.xor_self, Nat.xor_zero] using this
  rcases Nat.mod_two_eq_zero_or_one c with hc | hc <;> rw [hc] at h1 <;> omega

def itS : Nat → Nat → Nat
  | 0, c => c
  | n + 1, c => itS n (stp c)
theorem itS_xor (n a b : Nat) : itS n (a ^^^ b) = itS n a ^^^ itS n b := by
  induction n generalizing a b with
  | zero => rfl
  | succ n ih => simp only [itS]; rw [stp_xor, ih]
theorem itS_add (m n c : Nat) : itS (m + n) c = itS n (itS m c) := by
  induction m generalizing c with
  | zero => rw [Nat.zero_add]; rfl
  | succ m ih => rw [Nat.succ_add]; exact ih _
theorem itS_pow (n x : Nat) : itS n (2 ^ n * x) = x := by
  induction n generalizing x with
  | zero => rw [Nat.pow_zero, Nat.one_mul]; rfl
  | succ n ih => rw [itS, Nat.pow_succ, Nat.mul_comm (2 ^ n), Nat.mul_assoc, stp_two, ih]
theorem itS_lt (n c : Nat) (h : c < 4294967296) : itS n c < 4294967296 := by
  induction n generalizing c with
  | zero => exact h
  | succ n ih => exact ih _ (stp_lt c h)
theorem itS_zero (n c : Nat) (h : c < 4294967296) (h0 : itS n c = 0) : c = 0 := by
  induction n generalizing c with
  | zero => exact h0
  | succ n ih => exact stp_zero c h (ih _ (stp_lt c h) h0)
theorem itS_nil (n : Nat) : itS n 0 = 0 := by
  induction n with
  | zero => rfl
  | succ n ih => exact ih
theorem xor_eq_zero {a b : Nat} (h : a ^^^ b = 0) : a = b := by
  have := congrArg (fun z => z ^^^ b) h
  simpa [Nat.xor_assoc, Nat.xor_self, Nat.xor_zero] using this
theorem itS_inj (n a b : Nat) (ha : a < 4294967296) (hb : b < 4294967296) (h : itS n a = itS n b) : a = b := by
  refine xor_eq_zero (itS_zero n _ (Nat.xor_lt_two_pow (n := 32) ha hb) ?_)
  rw [itS_xor, h, Nat.xor_self]

/-- bytes, the least significant first, as a number -/
def num : List Nat → Nat
  | [] => 0
  | b :: l => b + 256 * num l
theorem num_cons (b : Nat) (l : List Nat) (hb : b < 256) : num (b :: l) = 256 * num l ^^^ b := by
  rw [num, Nat.add_comm]; exact xor_add_low (num l) b 8 hb
/-- the register behind the bytes -/
def reg (c : Nat) (l : List Nat) : Nat := l.foldl (fun c b => itS 8 (c ^^^ b)) c
theorem reg_cons (c b : Nat) (l : List Nat) : reg c (b :: l) = reg (itS 8 (c ^^^ b)) l := rfl
theorem reg_eq (l : List Nat) (h : ∀ n ∈ l, n < 256) (c : Nat) : reg c l = itS (8 * l.length) (c ^^^ num l) := by
  induction l generalizing c with
  | nil => rw [num, Nat.xor_zero]; rfl
  | cons b l ih =>
    have hb := h b (List.mem_cons_self ..)
    rw [reg_cons, ih (fun n hn => h n (List.mem_cons_of_mem _ hn)), num_cons b l hb, List.length_cons, Nat.mul_add, Nat.mul_one, Nat.add_comm (8 * l.length), itS_add]
    congr 1
    rw [show c ^^^ (256 * num l ^^^ b) = (c ^^^ b) ^^^ 2 ^ 8 * num l by rw [show (2 : Nat) ^ 8 = 256 from rfl]; ac_rfl, itS_xor 8 (c ^^^ b) (2 ^ 8 * num l), itS_pow]
theorem reg_lt (l : List Nat) (h : ∀ n ∈ l, n < 256) (c : Nat) (hc : c < 4294967296) : reg c l < 4294967296 := by
  induction l generalizing c with
  | nil => exact hc
  | cons b l ih =>
    rw [reg_cons]
    refine ih (fun n hn => h n (List.mem_cons_of_mem _ hn)) _ (itS_lt _ _ (Nat.xor_lt_two_pow (n := 32) hc ?_))
    have := h b (List.mem_cons_self ..); omega
theorem reg_append (l m : List Nat) (c : Nat) : reg c (l ++ m) = reg (reg c l) m := by rw [reg, List.foldl_append]; rfl
/-- the checksum -/
def crcN (l : List Nat) : Nat := 4294967295 ^^^ reg 4294967295 l
theorem crcN_lt (l : List Nat) (h : ∀ n ∈ l, n < 256) : crcN l < 4294967296 := Nat.xor_lt_two_pow (n := 32) (by decide) (reg_lt l h _ (by decide))

/-- three strings of one length -/
theorem reg_three : ∀ (x y z : List Nat) (a b c : Nat), x.length = y.length → x.length = z.length →
    reg (a ^^^ b ^^^ c) (List.zipWith (fun u v => u ^^^ v) (List.zipWith (fun u v => u ^^^ v) x y) z) = reg a x ^^^ reg b y ^^^ reg c z
  | [], [], [], _, _, _, _, _ => rfl
  | u :: x, v :: y, w :: z, a, b, c, h1, h2 => by
    have := reg_three x y z (itS 8 (a ^^^ u)) (itS 8 (b ^^^ v)) (itS 8 (c ^^^ w)) (by simpa using h1) (by simpa using h2)
    simp only [List.zipWith_cons_cons]
    rw [reg_cons, reg_cons, reg_cons, reg_cons, ← this]
    congr 1
    rw [← itS_xor, ← itS_xor]
    congr 1
    ac_rfl
theorem crc_three (x y z : List Nat) (h1 : x.length = y.length) (h2 : x.length = z.length) :
    crcN x ^^^ crcN y ^^^ crcN z = crcN (List.zipWith (fun u v => u ^^^ v) (List.zipWith (fun u v => u ^^^ v) x y) z) := by
  unfold crcN
  have := reg_three x y z 4294967295 4294967295 4294967295 h1 h2
  rw [show (4294967295 ^^^ 4294967295 ^^^ 4294967295 : Nat) = 4294967295 from rfl] at this
  rw [this]
  generalize reg 4294967295 x = p, reg 4294967295 y = q, reg 4294967295 z = r
  rw [show 4294967295 ^^^ p ^^^ (4294967295 ^^^ q) ^^^ (4294967295 ^^^ r) = (4294967295 ^^^ 4294967295 ^^^ 4294967295) ^^^ (p ^^^ q ^^^ r) by ac_rfl]
  rfl

/-- four bytes of a number -/
def le4 (t : Nat) : List Nat := [t % 256, t / 256 % 256, t / 65536 % 256, t / 16777216 % 256]
theorem num_le4 (t : Nat) (h : t < 4294967296) : num (le4 t) = t := by
  simp only [le4, num]; omega
theorem le4_lt (t : Nat) : ∀ n ∈ le4 t, n < 256 := by
  intro n hn
  simp only [le4, List.mem_cons, List.not_mem_nil, or_false] at hn
  rcases hn with rfl | rfl | rfl | rfl <;> exact Nat.mod_lt _ (by decide)
theorem residue (l : List Nat) (h : ∀ n ∈ l, n < 256) (t : Nat) (ht : t < 4294967296) : crcN (l ++ le4 t) = 1214729159 ↔ t = crcN l := by
  have hr := reg_lt l h 4294967295 (by decide)
  have e : crcN (l ++ le4 t) = 4294967295 ^^^ itS 32 (reg 4294967295 l ^^^ t) := by
    unfold crcN; rw [reg_append, reg_eq _ (le4_lt t), num_le4 t ht]; rfl
  have k : 4294967295 ^^^ itS 32 4294967295 = 1214729159 := by decide
  rw [e, ← k]
  unfold crcN
  generalize reg 4294967295 l = r at hr ⊢
  constructor
  · intro h1
    have h2 : itS 32 (r ^^^ t) = itS 32 4294967295 := by
      have := congrArg (fun z => 4294967295 ^^^ z) h1
      simpa [← Nat.xor_assoc, Nat.xor_self, Nat.zero_xor] using this
    have h3 := itS_inj 32 _ _ (Nat.xor_lt_two_pow (n := 32) hr ht) (by decide) h2
    rw [← h3, Nat.xor_comm r, Nat.xor_assoc, Nat.xor_self, Nat.xor_zero]
  · rintro rfl
    rw [Nat.xor_comm 4294967295 r, ← Nat.xor_assoc, Nat.xor_self, Nat.zero_xor]
end Go.Proofs.Ytloieoneckjjeaa.CrcL
