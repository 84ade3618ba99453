/- The residues modulo 2^61 - 1: 37 generates all that are not 0, so each of these has an inverse. Plain numbers: no program in sight. -/
namespace Go.Proofs.Ytdpocgimajhlbaa.Field

/-- an injection of [0,n) into itself meets every place -/
theorem onto_of_inj (n : Nat) : ∀ (f : Nat → Nat), (∀ i, i < n → f i < n) → (∀ i j, i < n → j < n → f i = f j → i = j) → ∀ y, y < n → ∃ i, i < n ∧ f i = y := by
  induction n with
  | zero => intro f _ _ y hy; omega
  | succ n ih =>
    intro f hf hi y hy
    have hv : f n < n + 1 := hf n (by omega)
    have hne : ∀ i, i < n → f i ≠ f n := fun i h e => by have := hi i n (by omega) (by omega) e; omega
    let g : Nat → Nat := fun i => if f i = n then f n else f i
    have hg : ∀ i, i < n → g i < n := by
      intro i h
      show (if f i = n then f n else f i) < n
      have h1 := hne i h
      have h2 := hf i (by omega)
      split <;> omega
    have hgi : ∀ i j, i < n → j < n → g i = g j → i = j := by
      intro i j h h' e
      have e' : (if f i = n then f n else f i) = (if f j = n then f n else f j) := e
      have h1 := hne i h
      have h2 := hne j h'
      apply hi i j (by omega) (by omega)
      split at e' <;> split at e' <;> omega
    by_cases e1 : y = f n
    · exact ⟨n, by omega, e1.symm⟩
    · by_cases e2 : y = n
      · obtain ⟨i, h, e⟩ := ih g hg hgi (f n) (by omega)
        have e' : (if f i = n then f n else f i) = f n := e
        have h1 := hne i h
        refine ⟨i, by omega, ?_⟩
        split at e' <;> omega
      · obtain ⟨i, h, e⟩ := ih g hg hgi y (by omega)
        have e' : (if f i = n then f n else f i) = y := e
        refine ⟨i, by omega, ?_⟩
        split at e' <;> omega

/-- a power modulo m, by squaring (for the kernel) -/
def pm (m : Nat) : Nat → Nat → Nat → Nat → Nat
  | 0, _, _, acc => acc
  | k + 1, b, e, acc => pm m k (b * b % m) (e / 2) (if e % 2 = 1 then acc * b % m else acc)

theorem pm_eq (m k : Nat) : ∀ b e acc, e < 2 ^ k → acc < m → pm m k b e acc = acc * b ^ e % m := by
  induction k with
  | zero => intro b e acc h hm; have : e = 0 := by simpa using h
            subst this; simp [pm, Nat.mod_eq_of_lt hm]
  | succ k ih =>
    intro b e acc h hm
    have hpos : 0 < m := by omega
    simp only [pm]
    rw [ih _ _ _ (by rw [Nat.pow_succ] at h; omega) (by split; exact Nat.mod_lt _ hpos; exact hm)]
    have hb : ∀ x, x * (b * b % m) ^ (e / 2) % m = x * b ^ (2 * (e / 2)) % m := by
      intro x
      rw [Nat.mul_mod, ← Nat.pow_mod, ← Nat.mul_mod, Nat.pow_mul, Nat.pow_two]
    rw [hb]
    by_cases h1 : e % 2 = 1
    · rw [if_pos h1]
      have he : e = 2 * (e / 2) + 1 := by omega
      have : acc * b ^ e = acc * b * b ^ (2 * (e / 2)) := by
        conv => lhs; rw [he]
        rw [Nat.pow_succ, Nat.mul_comm (b ^ _) b, Nat.mul_assoc]
      rw [this, Nat.mod_mul_mod]
    · rw [if_neg h1]
      have he : e = 2 * (e / 2) := by omega
      rw [← he]

def P : Nat := 2305843009213693951
def N : Nat := 2305843009213693950

theorem Ppos : 0 < P := by decide
theorem NP : N + 1 = P := by decide

theorem pow_val (b e : Nat) (h : e < 2 ^ 64) : b ^ e % P = pm P 64 b e 1 := by
  rw [pm_eq P 64 b e 1 h (by decide), Nat.one_mul]

def qs : List Nat := [2, 3, 5, 7, 11, 13, 31, 41, 61, 151, 331, 1321]

theorem gN : 37 ^ N % P = 1 := by rw [pow_val _ _ (by decide)]; decide +kernel
theorem gq : ∀ q ∈ qs, 37 ^ (N / q) % P ≠ 1 := by
  intro q hq
  rw [pow_val _ _ (Nat.lt_of_le_of_lt (Nat.div_le_self _ _) (by decide))]
  revert q
  decide +kernel

theorem pow_one_mod {k : Nat} (h : 37 ^ k % P = 1) (t : Nat) : 37 ^ (k * t) % P = 1 := by
  rw [Nat.pow_mul, Nat.pow_mod, h, Nat.one_pow]; decide

theorem pow_add_mod {a : Nat} (b : Nat) (h : 37 ^ a % P = 1) : 37 ^ (a + b) % P = 37 ^ b % P := by
  rw [Nat.pow_add, Nat.mul_mod, h, Nat.one_mul, Nat.mod_mod]

theorem gcd_one (a b : Nat) : 37 ^ a % P = 1 → 37 ^ b % P = 1 → 37 ^ (Nat.gcd a b) % P = 1 := by
  induction a, b using Nat.gcd.induction with
  | H0 n => intro _ h; simpa using h
  | H1 m n hm ih =>
    intro h1 h2
    rw [Nat.gcd_rec]
    refine ih ?_ h1
    have e : n = m * (n / m) + n % m := (Nat.div_add_mod n m).symm
    rw [e, pow_add_mod _ (pow_one_mod h1 _)] at h2
    exact h2

/-- q has no divisor but 1 and itself -/
def lone (q : Nat) : Bool := (List.range (q + 1)).all fun d => d = 1 || d = q || !(q % d == 0) || d = 0

theorem lone_of {q d : Nat} (h : lone q = true) (hq : 0 < q) (hd : d ∣ q) : d = 1 ∨ d = q := by
  have hle : d ≤ q := Nat.le_of_dvd hq hd
  have := List.all_eq_true.1 h d (by simp; omega)
  have h0 : d ≠ 0 := by rintro rfl; obtain ⟨c, hc⟩ := hd; omega
  have h3 : q % d = 0 := Nat.mod_eq_zero_of_dvd hd
  simp [h0, h3] at this
  omega

theorem qs_lone : qs.all (fun q => lone q && decide (0 < q)) = true := by decide +kernel

theorem cop_all (m : Nat) : ∀ (l : List Nat), (∀ q ∈ l, Nat.Coprime m q) → Nat.Coprime m (l.foldr (· * ·) 1) := by
  intro l
  induction l with
  | nil => intro _; simp
  | cons q l ih => intro h; exact Nat.Coprime.mul_right (h q (by simp)) (ih fun x hx => h x (by simp [hx]))

def full : List Nat := [2, 3, 3, 5, 5, 7, 11, 13, 31, 41, 61, 151, 331, 1321]
theorem full_N : full.foldr (· * ·) 1 = N := by decide +kernel
theorem full_qs : ∀ q ∈ full, q ∈ qs := by decide

/-- 37 has order N -/
theorem order {k : Nat} (h : 37 ^ k % P = 1) : N ∣ k := by
  have hd := gcd_one k N h gN
  have hdv : Nat.gcd k N ∣ N := Nat.gcd_dvd_right _ _
  obtain ⟨m, hm⟩ := hdv
  by_cases h1 : m = 1
  · rw [h1, Nat.mul_one] at hm
    rw [hm]; exact Nat.gcd_dvd_left _ _
  · exfalso
    have hmN : m ∣ N := ⟨Nat.gcd k N, by rw [Nat.mul_comm]; exact hm⟩
    have : ∃ q ∈ qs, ¬ Nat.Coprime m q := by
      refine Classical.byContradiction fun hno => h1 ?_
      have hall : ∀ q ∈ full, Nat.Coprime m q := fun q hq => Classical.byContradiction fun hc => hno ⟨q, full_qs q hq, hc⟩
      have hc := cop_all m full hall
      rw [full_N] at hc
      have : Nat.gcd m N = m := Nat.gcd_eq_left hmN
      unfold Nat.Coprime at hc; omega
    obtain ⟨q, hq, hc⟩ := this
    have hl := List.all_eq_true.1 qs_lone q hq
    simp at hl
    have hqm : q ∣ m := by
      rcases lone_of hl.1 hl.2 (Nat.gcd_dvd_right m q) with e | e
      · exact absurd e hc
      · rw [← e]; exact Nat.gcd_dvd_left _ _
    obtain ⟨t, ht⟩ := hqm
    have hNq : N / q = Nat.gcd k N * t := by
      have : N = q * (Nat.gcd k N * t) := by
        calc N = Nat.gcd k N * m := hm
          _ = Nat.gcd k N * (q * t) := by rw [ht]
          _ = q * (Nat.gcd k N * t) := by rw [Nat.mul_left_comm]
      calc N / q = q * (Nat.gcd k N * t) / q := by rw [← this]
        _ = _ := Nat.mul_div_cancel_left _ hl.2
    exact gq q hq (by rw [hNq]; exact pow_one_mod hd t)

theorem g_unit (i : Nat) (h : i < N) : 37 ^ i * 37 ^ (N - i) % P = 1 := by
  rw [← Nat.pow_add, show i + (N - i) = N by omega]; exact gN

theorem g_pos (i : Nat) : 0 < 37 ^ i % P := by
  have h : i % N < N := Nat.mod_lt _ (by decide)
  have e : i = N * (i / N) + i % N := (Nat.div_add_mod i N).symm
  rw [e, pow_add_mod _ (pow_one_mod gN _)]
  refine Nat.pos_of_ne_zero fun h0 => ?_
  have := g_unit _ h
  rw [Nat.mul_mod, h0, Nat.zero_mul] at this
  exact absurd this (by decide)

theorem g_le {i j : Nat} (hij : i ≤ j) (h : 37 ^ i % P = 37 ^ j % P) : N ∣ j - i := by
  apply order
  have hi : i % N < N := Nat.mod_lt _ (by decide)
  have e : 37 ^ i * 37 ^ (N - i % N) % P = 1 := by
    have e1 : i + (N - i % N) = N * (i / N) + N := by have := Nat.div_add_mod i N; omega
    rw [← Nat.pow_add, e1, pow_add_mod _ (pow_one_mod gN _)]; exact gN
  have e2 : 37 ^ (j - i) % P = 37 ^ j * 37 ^ (N - i % N) % P := by
    have : 37 ^ j * 37 ^ (N - i % N) = 37 ^ (j - i) * (37 ^ i * 37 ^ (N - i % N)) := by
      rw [← Nat.mul_assoc, ← Nat.pow_add 37 (j - i) i, show j - i + i = j by omega]
    rw [this, Nat.mul_mod, e, Nat.mul_one, Nat.mod_mod]
  rw [e2, Nat.mul_mod, ← h, ← Nat.mul_mod, e]

theorem g_inj {i j : Nat} (hi : i < N) (hj : j < N) (h : 37 ^ i % P = 37 ^ j % P) : i = j := by
  rcases Nat.le_total i j with hij | hij
  · have := Nat.eq_zero_of_dvd_of_lt (g_le hij h) (by omega); omega
  · have := Nat.eq_zero_of_dvd_of_lt (g_le hij h.symm) (by omega); omega

theorem g_same (i j : Nat) : 37 ^ i % P = 37 ^ j % P ↔ i % N = j % N := by
  have red : ∀ i, 37 ^ i % P = 37 ^ (i % N) % P := fun i => by
    conv => lhs; rw [← Nat.div_add_mod i N]
    rw [pow_add_mod _ (pow_one_mod gN _)]
  constructor
  · intro h
    rw [red i, red j] at h
    exact g_inj (Nat.mod_lt _ (by decide)) (Nat.mod_lt _ (by decide)) h
  · intro h; rw [red i, red j, h]

/-- every residue but 0 is a power of 37 -/
theorem g_onto {a : Nat} (h0 : 0 < a) (h : a < P) : ∃ i, i < N ∧ 37 ^ i % P = a := by
  have hP : ∀ i, 37 ^ i % P < P := fun i => Nat.mod_lt _ Ppos
  have hNP := NP
  obtain ⟨i, hi, e⟩ := onto_of_inj N (fun i => 37 ^ i % P - 1) (fun i _ => by have := hP i; have := g_pos i; omega)
    (fun i j hi hj e => g_inj hi hj (by have := g_pos i; have := g_pos j; omega)) (a - 1) (by omega)
  exact ⟨i, hi, by have := g_pos i; omega⟩

/-- Fermat -/
theorem fermat {a : Nat} (h : a % P ≠ 0) : a ^ N % P = 1 := by
  obtain ⟨i, _, e⟩ := g_onto (Nat.pos_of_ne_zero h) (Nat.mod_lt a Ppos)
  rw [Nat.pow_mod, ← e, ← Nat.pow_mod, ← Nat.pow_mul, Nat.mul_comm]
  exact pow_one_mod gN i

theorem fermat_inv {a : Nat} (h : a % P ≠ 0) : a * a ^ (N - 1) % P = 1 := by
  have := fermat h
  rw [show N = N - 1 + 1 by decide, Nat.pow_succ, Nat.mul_comm] at this
  exact this

theorem mul_zero_iff (a b : Nat) : a * b % P = 0 ↔ a % P = 0 ∨ b % P = 0 := by
  constructor
  · intro h
    by_cases ha : a % P = 0
    · exact Or.inl ha
    · right
      have := fermat_inv ha
      have e : b % P = a * b * a ^ (N - 1) % P := by
        rw [show a * b * a ^ (N - 1) = a * a ^ (N - 1) * b by rw [Nat.mul_right_comm], Nat.mul_mod, this, Nat.one_mul, Nat.mod_mod]
      rw [e, Nat.mul_mod, h, Nat.zero_mul, Nat.zero_mod]
  · rintro (h | h)
    · rw [Nat.mul_mod, h, Nat.zero_mul, Nat.zero_mod]
    · rw [Nat.mul_mod, h, Nat.mul_zero, Nat.zero_mod]

end Go.Proofs.Ytdpocgimajhlbaa.Field
