/- Texts of this claim, merged: what the functions that the law reaches compute, and what that says. -/
section ShaL_
namespace Go.Proofs.Ytggmjfonhcinhaa.ShaL
def rotr (x n : Nat) : Nat := x >>> n ||| (x <<< (32 - n)) % 4294967296
def sg0 (x : Nat) : Nat := rotr x 7 ^^^ rotr x 18 ^^^ x >>> 3
def sg1 (x : Nat) : Nat := rotr x 17 ^^^ rotr x 19 ^^^ x >>> 10
/-- word i of a block -/
def word (b : List Nat) (i : Nat) : Nat := b.getD (4 * i) 0 * 16777216 + b.getD (4 * i + 1) 0 * 65536 + b.getD (4 * i + 2) 0 * 256 + b.getD (4 * i + 3) 0
def wNext (b l : List Nat) (i : Nat) : Nat :=
  if i < 16 then word b i else (l.getD (i - 16) 0 + sg0 (l.getD (i - 15) 0) + l.getD (i - 7) 0 + sg1 (l.getD (i - 2) 0)) % 4294967296
/-- the first words of the schedule -/
def wTo (b : List Nat) : Nat → List Nat
  | 0 => []
  | i + 1 => wTo b i ++ [wNext b (wTo b i) i]
theorem wTo_length (b : List Nat) (i : Nat) : (wTo b i).length = i := by
  induction i with
  | zero => rfl
  | succ i ih => simp [wTo, ih]
theorem rotr_lt (x n : Nat) (hx : x < 4294967296) : rotr x n < 4294967296 := by
  unfold rotr
  have h1 : x >>> n < 2 ^ 32 := Nat.lt_of_le_of_lt (Nat.shiftRight_le x n) hx
  have h2 : x <<< (32 - n) % 4294967296 < 2 ^ 32 := Nat.mod_lt _ (by decide)
  exact Nat.or_lt_two_pow h1 h2
theorem xor_lt (x y : Nat) (hx : x < 4294967296) (hy : y < 4294967296) : x ^^^ y < 4294967296 := Nat.xor_lt_two_pow (n := 32) hx hy
theorem word_lt (b : List Nat) (h : ∀ n ∈ b, n < 256) (i : Nat) : word b i < 4294967296 := by
  have g : ∀ j, b.getD j 0 < 256 := fun j => by
    rw [List.getD_eq_getElem?_getD]
    cases e : b[j]? with
    | none => simp
    | some x => simpa using h x (List.mem_of_getElem? e)
  have := g (4 * i); have := g (4 * i + 1); have := g (4 * i + 2); have := g (4 * i + 3)
  unfold word; omega
theorem wNext_lt (b l : List Nat) (h : ∀ n ∈ b, n < 256) (i : Nat) : wNext b l i < 4294967296 := by
  unfold wNext; split
  · exact word_lt b h i
  · exact Nat.mod_lt _ (by decide)
theorem wTo_lt (b : List Nat) (h : ∀ n ∈ b, n < 256) (i : Nat) : ∀ n ∈ wTo b i, n < 4294967296 := by
  induction i with
  | zero => intro n hn; cases hn
  | succ i ih =>
    intro n hn
    rw [wTo, List.mem_append, List.mem_singleton] at hn
    rcases hn with hn | rfl
    · exact ih n hn
    · exact wNext_lt b _ h i
/-- the words of memory while the schedule is made: i words, then zeros -/
def wMem (b : List Nat) (i : Nat) : List Nat := wTo b i ++ List.replicate (64 - i) 0
theorem wMem_length (b : List Nat) (i : Nat) (h : i ≤ 64) : (wMem b i).length = 64 := by simp [wMem, wTo_length]; omega
theorem wMem_get (b : List Nat) (i j : Nat) (h : j < i) : (wMem b i).getD j 0 = (wTo b i).getD j 0 := by
  simp only [wMem, List.getD_eq_getElem?_getD]
  rw [List.getElem?_append_left (by rw [wTo_length]; exact h)]
theorem wMem_set (b : List Nat) (i : Nat) (h : i < 64) : (wMem b i).set i (wNext b (wTo b i) i) = wMem b (i + 1) := by
  have e : List.replicate (64 - i) (0 : Nat) = 0 :: List.replicate (64 - (i + 1)) 0 := by
    rw [show 64 - i = (64 - (i + 1)) + 1 by omega, List.replicate_succ]
  simp only [wMem, wTo, e]
  rw [List.set_append_right _ _ (by rw [wTo_length]; exact Nat.le_refl i), wTo_length, Nat.sub_self, List.set_cons_zero, List.append_assoc]; rfl
/-- the round constants, and the initial state -/
def kL : List Nat := [1116352408, 1899447441, 3049323471, 3921009573, 961987163, 1508970993, 2453635748, 2870763221, 3624381080, 310598401, 607225278, 1426881987, 1925078388, 2162078206, 2614888103, 3248222580, 3835390401, 4022224774, 264347078, 604807628, 770255983, 1249150122, 1555081692, 1996064986, 2554220882, 2821834349, 2952996808, 3210313671, 3336571891, 3584528711, 113926993, 338241895, 666307205, 773529912, 1294757372, 1396182291, 1695183700, 1986661051, 2177026350, 2456956037, 2730485921, 2820302411, 3259730800, 3345764771, 3516065817, 3600352804, 4094571909, 275423344, 430227734, 506948616, 659060556, 883997877, 958139571, 1322822218, 1537002063, 1747873779, 1955562222, 2024104815, 2227730452, 2361852424, 2428436474, 2756734187, 3204031479, 3329325298]
def h0L : List Nat := [1779033703, 3144134277, 1013904242, 2773480762, 1359893119, 2600822924, 528734635, 1541459225]
theorem kL_length : kL.length = 64 := by decide
theorem kL_lt : ∀ n ∈ kL, n < 4294967296 := by decide
theorem h0L_lt : ∀ n ∈ h0L, n < 4294967296 := by decide
def bs0 (x : Nat) : Nat := rotr x 2 ^^^ rotr x 13 ^^^ rotr x 22
def bs1 (x : Nat) : Nat := rotr x 6 ^^^ rotr x 11 ^^^ rotr x 25
def tOne (e f g h k w : Nat) : Nat := (h + bs1 e + ((e &&& f) ^^^ ((4294967295 ^^^ e) &&& g)) + k + w) % 4294967296
def tTwo (a b c : Nat) : Nat := (bs0 a + ((a &&& b) ^^^ (a &&& c) ^^^ (b &&& c))) % 4294967296
/-- a round on eight words -/
def round (v : List Nat) (k w : Nat) : List Nat :=
  match v with
  | [a, b, c, d, e, f, g, h] => [(tOne e f g h k w + tTwo a b c) % 4294967296, a, b, c, (d + tOne e f g h k w) % 4294967296, e, f, g]
  | v => v
/-- the words after i rounds -/
def rTo (h b : List Nat) : Nat → List Nat
  | 0 => h
  | i + 1 => round (rTo h b i) (kL.getD i 0) ((wTo b 64).getD i 0)
/-- the state behind a block -/
def stepL (h b : List Nat) : List Nat := List.zipWith (fun x y => (x + y) % 4294967296) (rTo h b 64) h
theorem round_length {v : List Nat} (h : v.length = 8) (k w : Nat) : (round v k w).length = 8 := by
  match v, h with
  | [a, b, c, d, e, f, g, h], _ => rfl
theorem rTo_length {h : List Nat} (b : List Nat) (hh : h.length = 8) (i : Nat) : (rTo h b i).length = 8 := by
  induction i with
  | zero => exact hh
  | succ i ih => exact round_length ih _ _
theorem round_lt {v : List Nat} (h : ∀ n ∈ v, n < 4294967296) (k w : Nat) : ∀ n ∈ round v k w, n < 4294967296 := by
  unfold round
  split
  · rename_i a b c d e f g hh
    simp only [List.mem_cons, List.not_mem_nil, or_false, forall_eq_or_imp, forall_eq] at h ⊢
    obtain ⟨h1, h2, h3, h4, h5, h6, h7, h8⟩ := h
    exact ⟨Nat.mod_lt _ (by decide), h1, h2, h3, Nat.mod_lt _ (by decide), h5, h6, h7⟩
  · exact h
theorem rTo_lt {h : List Nat} (b : List Nat) (hh : ∀ n ∈ h, n < 4294967296) (i : Nat) : ∀ n ∈ rTo h b i, n < 4294967296 := by
  induction i with
  | zero => exact hh
  | succ i ih => exact round_lt ih _ _
theorem stepL_length {h : List Nat} (b : List Nat) (hh : h.length = 8) : (stepL h b).length = 8 := by
  simp [stepL, rTo_length b hh, hh]
theorem stepL_lt (h b : List Nat) : ∀ n ∈ stepL h b, n < 4294967296 := by
  intro n hn
  simp only [stepL, List.mem_iff_getElem?, List.getElem?_zipWith] at hn
  obtain ⟨i, hi⟩ := hn
  cases e1 : (rTo h b 64)[i]? <;> cases e2 : h[i]? <;> simp [e1, e2] at hi
  omega
end Go.Proofs.Ytggmjfonhcinhaa.ShaL
end ShaL_
section Field_
namespace Go.Proofs.Ytggmjfonhcinhaa.Field
/-- an injection of [0,n) into itself meets every place -/
theorem onto_of_inj (n : Nat) : ∀ (f : Nat → Nat), (∀ i, i < n → f i < n) → (∀ i j, i < n → j < n → f i = f j → i = j) → ∀ y, y < n → ∃ i, i < n ∧ f i = y := by
  induction n with
  | zero => intro f _ _ y hy; omega
  | succ n ih =>
    intro f hf hi y hy
    have hv : f n < n + 1 := hf n (by omega)
    have hne : ∀ i, i < n → f i ≠ f n := fun i h e => by have := hi i n (by omega) (by omega) e; omega
    let g : Nat → Nat := fun i => if f i = n then f n else f i
    have hg : ∀ i, i < n → g i < n := by
      intro i h
      show (if f i = n then f n else f i) < n
      have h1 := hne i h
      have h2 := hf i (by omega)
      split <;> omega
    have hgi : ∀ i j, i < n → j < n → g i = g j → i = j := by
      intro i j h h' e
      have e' : (if f i = n then f n else f i) = (if f j = n then f n else f j) := e
      have h1 := hne i h
      have h2 := hne j h'
      apply hi i j (by omega) (by omega)
      split at e' <;> split at e' <;> omega
    by_cases e1 : y = f n
    · exact ⟨n, by omega, e1.symm⟩
    · by_cases e2 : y = n
      · obtain ⟨i, h, e⟩ := ih g hg hgi (f n) (by omega)
        have e' : (if f i = n then f n else f i) = f n := e
        have h1 := hne i h
        refine ⟨i, by omega, ?_⟩
        split at e' <;> omega
      · obtain ⟨i, h, e⟩ := ih g hg hgi y (by omega)
        have e' : (if f i = n then f n else f i) = y := e
        refine ⟨i, by omega, ?_⟩
        split at e' <;> omega
/-- a power modulo m, by squaring (for the kernel) -/
def pm (m : Nat) : Nat → Nat → Nat → Nat → Nat
  | 0, _, _, acc => acc
  | k + 1, b, e, acc => pm m k (b * b % m) (e / 2) (if e % 2 = 1 then acc * b % m else acc)
theorem pm_eq (m k : Nat) : ∀ b e acc, e < 2 ^ k → acc < m → pm m k b e acc = acc * b ^ e % m := by
  induction k with
  | zero => intro b e acc h hm; have : e = 0 := by simpa using h
            subst this; simp [pm, Nat.mod_eq_of_lt hm]
  | succ k ih =>
    intro b e acc h hm
    have hpos : 0 < m := by omega
    simp only [pm]
    rw [ih _ _ _ (by rw [Nat.pow_succ] at h; omega) (by split; exact Nat.mod_lt _ hpos; exact hm)]
    have hb : ∀ x, x * (b * b % m) ^ (e / 2) % m = x * b ^ (2 * (e / 2)) % m := by
      intro x
      rw [Nat.mul_mod, ← Nat.pow_mod, ← Nat.mul_mod, Nat.pow_mul, Nat.pow_two]
    rw [hb]
    by_cases h1 : e % 2 = 1
    · rw [if_pos h1]
      have he : e = 2 * (e / 2) + 1 := by omega
      have : acc * b ^ e = acc * b * b ^ (2 * (e / 2)) := by
        conv => lhs; rw [he]
        rw [Nat.pow_succ, Nat.mul_comm (b ^ _) b, Nat.mul_assoc]
      rw [this, Nat.mod_mul_mod]
    · rw [if_neg h1]
      have he : e = 2 * (e / 2) := by omega
      rw [← he]
def P : Nat := 2305843009213693951
def N : Nat := 2305843009213693950
theorem Ppos : 0 < P := by decide
theorem NP : N + 1 = P := by decide
theorem pow_val (b e : Nat) (h : e < 2 ^ 64) : b ^ e % P = pm P 64 b e 1 := by
  rw [pm_eq P 64 b e 1 h (by decide), Nat.one_mul]
def qs : List Nat := [2, 3, 5, 7, 11, 13, 31, 41, 61, 151, 331, 1321]
theorem gN : 37 ^ N % P = 1 := by rw [pow_val _ _ (by decide)]; decide +kernel
theorem gq : ∀ q ∈ qs, 37 ^ (N / q) % P ≠ 1 := by
  intro q hq
  rw [pow_val _ _ (Nat.lt_of_le_of_lt (Nat.div_le_self _ _) (by decide))]
  revert q
  decide +kernel
theorem pow_one_mod {k : Nat} (h : 37 ^ k % P = 1) (t : Nat) : 37 ^ (k * t) % P = 1 := by
  rw [Nat.pow_mul, Nat.pow_mod, h, Nat.one_pow]; decide
theorem pow_add_mod {a : Nat} (b : Nat) (h : 37 ^ a % P = 1) : 37 ^ (a + b) % P = 37 ^ b % P := by
  rw [Nat.pow_add, Nat.mul_mod, h, Nat.one_mul, Nat.mod_mod]
theorem gcd_one (a b : Nat) : 37 ^ a % P = 1 → 37 ^ b % P = 1 → 37 ^ (Nat.gcd a b) % P = 1 := by
  induction a, b using Nat.gcd.induction with
  | H0 n => intro _ h; simpa using h
  | H1 m n hm ih =>
    intro h1 h2
    rw [Nat.gcd_rec]
    refine ih ?_ h1
    have e : n = m * (n / m) + n % m := (Nat.div_add_mod n m).symm
    rw [e, pow_add_mod _ (pow_one_mod h1 _)] at h2
    exact h2
/-- q has no divisor but 1 and itself -/
def lone (q : Nat) : Bool := (List.range (q + 1)).all fun d => d = 1 || d = q || !(q % d == 0) || d = 0
theorem lone_of {q d : Nat} (h : lone q = true) (hq : 0 < q) (hd : d ∣ q) : d = 1 ∨ d = q := by
  have hle : d ≤ q := Nat.le_of_dvd hq hd
  have := List.all_eq_true.1 h d (by simp; omega)
  have h0 : d ≠ 0 := by rintro rfl; obtain ⟨c, hc⟩ := hd; omega
  have h3 : q % d = 0 := Nat.mod_eq_zero_of_dvd hd
  simp [h0, h3] at this
  omega
theorem qs_lone : qs.all (fun q => lone q && decide (0 < q)) = true := by decide +kernel
theorem cop_all (m : Nat) : ∀ (l : List Nat), (∀ q ∈ l, Nat.Coprime m q) → Nat.Coprime m (l.foldr (· * ·) 1) := by
  intro l
  induction l with
  | nil => intro _; simp
  | cons q l ih => intro h; exact Nat.Coprime.mul_right (h q (by simp)) (ih fun x hx => h x (by simp [hx]))
def full : List Nat := [2, 3, 3, 5, 5, 7, 11, 13, 31, 41, 61, 151, 331, 1321]
theorem full_N : full.foldr (· * ·) 1 = N := by decide +kernel
theorem full_qs : ∀ q ∈ full, q ∈ qs := by decide
/-- 37 has order N -/
theorem order {k : Nat} (h : 37 ^ k % P = 1) : N ∣ k := by
  have hd := gcd_one k N h gN
  have hdv : Nat.gcd k N ∣ N := Nat.gcd_dvd_right _ _
  obtain ⟨m, hm⟩ := hdv
  by_cases h1 : m = 1
  · rw [h1, Nat.mul_one] at hm
    rw [hm]; exact Nat.gcd_dvd_left _ _
  · exfalso
    have hmN : m ∣ N := ⟨Nat.gcd k N, by rw [Nat.mul_comm]; exact hm⟩
    have : ∃ q ∈ qs, ¬ Nat.Coprime m q := by
      refine Classical.byContradiction fun hno => h1 ?_
      have hall : ∀ q ∈ full, Nat.Coprime m q := fun q hq => Classical.byContradiction fun hc => hno ⟨q, full_qs q hq, hc⟩
      have hc := cop_all m full hall
      rw [full_N] at hc
      have : Nat.gcd m N = m := Nat.gcd_eq_left hmN
      unfold Nat.Coprime at hc; omega
    obtain ⟨q, hq, hc⟩ := this
    have hl := List.all_eq_true.1 qs_lone q hq
    simp at hl
    have hqm : q ∣ m := by
      rcases lone_of hl.1 hl.2 (Nat.gcd_dvd_right m q) with e | e
      · exact absurd e hc
      · rw [← e]; exact Nat.gcd_dvd_left _ _
    obtain ⟨t, ht⟩ := hqm
    have hNq : N / q = Nat.gcd k N * t := by
      have : N = q * (Nat.gcd k N * t) := by
        calc N = Nat.gcd k N * m := hm
          _ = Nat.gcd k N * (q * t) := by rw [ht]
          _ = q * (Nat.gcd k N * t) := by rw [Nat.mul_left_comm]
      calc N / q = q * (Nat.gcd k N * t) / q := by rw [← this]
        _ = _ := Nat.mul_div_cancel_left _ hl.2
    exact gq q hq (by rw [hNq]; exact pow_one_mod hd t)
theorem g_unit (i : Nat) (h : i < N) : 37 ^ i * 37 ^ (N - i) % P = 1 := by
  rw [← Nat.pow_add, show i + (N - i) = N by omega]; exact gN
theorem g_pos (i : Nat) : 0 < 37 ^ i % P := by
  have h : i % N < N := Nat.mod_lt _ (by decide)
  have e : i = N * (i / N) + i % N := (Nat.div_add_mod i N).symm
  rw [e, pow_add_mod _ (pow_one_mod gN _)]
  refine Nat.pos_of_ne_zero fun h0 => ?_
  have := g_unit _ h
  rw [Nat.mul_mod, h0, Nat.zero_mul] at this
  exact absurd this (by decide)
theorem g_le {i j : Nat} (hij : i ≤ j) (h : 37 ^ i % P = 37 ^ j % P) : N ∣ j - i := by
  apply order
  have hi : i % N < N := Nat.mod_lt _ (by decide)
  have e : 37 ^ i * 37 ^ (N - i % N) % P = 1 := by
    have e1 : i + (N - i % N) = N * (i / N) + N := by have := Nat.div_add_mod i N; omega
    rw [← Nat.pow_add, e1, pow_add_mod _ (pow_one_mod gN _)]; exact gN
  have e2 : 37 ^ (j - i) % P = 37 ^ j * 37 ^ (N - i % N) % P := by
    have : 37 ^ j * 37 ^ (N - i % N) = 37 ^ (j - i) * (37 ^ i * 37 ^ (N - i % N)) := by
      rw [← Nat.mul_assoc, ← Nat.pow_add 37 (j - i) i, show j - i + i = j by omega]
    rw [this, Nat.mul_mod, e, Nat.mul_one, Nat.mod_mod]
  rw [e2, Nat.mul_mod, ← h, ← Nat.mul_mod, e]
theorem g_inj {i j : Nat} (hi : i < N) (hj : j < N) (h : 37 ^ i % P = 37 ^ j % P) : i = j := by
  rcases Nat.le_total i j with hij | hij
  · have := Nat.eq_zero_of_dvd_of_lt (g_le hij h) (by omega); omega
  · have := Nat.eq_zero_of_dvd_of_lt (g_le hij h.symm) (by omega); omega
/-- every residue but 0 is a power of 37 -/
theorem g_onto {a : Nat} (h0 : 0 < a) (h : a < P) : ∃ i, i < N ∧ 37 ^ i % P = a := by
  have hP : ∀ i, 37 ^ i % P < P := fun i => Nat.mod_lt _ Ppos
  have hNP := NP
  obtain ⟨i, hi, e⟩ := onto_of_inj N (fun i => 37 ^ i % P - 1) (fun i _ => by have := hP i; have := g_pos i; omega)
    (fun i j hi hj e => g_inj hi hj (by have := g_pos i; have := g_pos j; omega)) (a - 1) (by omega)
  exact ⟨i, hi, by have := g_pos i; omega⟩
/-- Fermat -/
theorem fermat {a : Nat} (h : a % P ≠ 0) : a ^ N % P = 1 := by
  obtain ⟨i, _, e⟩ := g_onto (Nat.pos_of_ne_zero h) (Nat.mod_lt a Ppos)
  rw [Nat.pow_mod, ← e, ← Nat.pow_mod, ← Nat.pow_mul, Nat.mul_comm]
  exact pow_one_mod gN i
theorem fermat_inv {a : Nat} (h : a % P ≠ 0) : a * a ^ (N - 1) % P = 1 := by
  have := fermat h
  rw [show N = N - 1 + 1 by decide, Nat.pow_succ, Nat.mul_comm] at this
  exact this
end Go.Proofs.Ytggmjfonhcinhaa.Field
end Field_
section ShrM_
namespace Go.Proofs.Ytggmjfonhcinhaa.Shr
set_option linter.unusedVariables false
set_option linter.unusedSimpArgs false
abbrev F := Fin 2305843009213693951
theorem val_mul (a b : F) : (a * b).val = a.val * b.val % 2305843009213693951 := rfl
/-- a number's class -/
def cl (x : Int) : F := Fin.ofNat 2305843009213693951 (x % 2305843009213693951).toNat
theorem cl_val (x : Int) : ((cl x).val : Int) = x % 2305843009213693951 := by
  show (((x % 2305843009213693951).toNat % 2305843009213693951 : Nat) : Int) = _
  omega
theorem cl_of (a : F) : cl (a.val : Int) = a := by
  have h1 := a.isLt
  have h2 := cl_val (a.val : Int)
  exact Fin.ext (by omega)
theorem inv_ex {a : F} (h : a ≠ 0) : ∃ b : F, a * b = 1 := by
  have h1 := a.isLt
  have ha : a.val % Field.P ≠ 0 := by
    unfold Field.P
    intro h0
    exact h (Fin.ext (show a.val = 0 by omega))
  have hl := Field.fermat_inv ha
  generalize a.val ^ (Field.N - 1) = z at hl
  unfold Field.P at hl
  refine ⟨cl (z : Int), Fin.ext ?_⟩
  have h2 := cl_val (z : Int)
  rw [val_mul]
  show a.val * (cl (z : Int)).val % 2305843009213693951 = 1
  generalize (cl (z : Int)).val = y at h2
  have hy : y = z % 2305843009213693951 := by omega
  rw [hy, Nat.mul_mod_mod]
  exact hl
/-- the inverse -/
noncomputable def inv (a : F) : F := Classical.epsilon fun b => a * b = 1
theorem inv_mul {a : F} (h : a ≠ 0) : a * inv a = 1 := Classical.epsilon_spec (p := fun b => a * b = 1) (inv_ex h)
theorem sub_ne {a b : F} (h : a ≠ b) : a - b ≠ 0 := by
  intro h0
  exact h (by grobner)
theorem cancel {a b c : F} (h : a ≠ 0) (e : a * b = a * c) : b = c := by
  have := inv_mul h
  grobner
/-- the divided differences of a row: the one that ends at i, of j + 1 points -/
noncomputable def dd (px py : Nat → F) : Nat → Nat → F
  | i, 0 => py i
  | i, j + 1 => (dd px py i j - dd px py (i - 1) j) * inv (px i - px (i - (j + 1)))
/-- the slopes from the first point -/
noncomputable def sl (px py : Nat → F) (i : Nat) : F := (py (i + 1) - py 0) * inv (px (i + 1) - px 0)
def up1 (px : Nat → F) (i : Nat) : F := px (i + 1)
/-- Newton's coefficients -/
noncomputable def cN : Nat → (Nat → F) → (Nat → F) → F
  | 0, _, py => py 0
  | m + 1, px, py => cN m (up1 px) (sl px py)
/-- different first coordinates, up to n -/
def Apart (px : Nat → F) (n : Nat) : Prop := ∀ i j, i < n → j < n → px i = px j → i = j
theorem Apart.up1 {px : Nat → F} {n : Nat} (h : Apart px (n + 1)) : Apart (up1 px) n := fun i j hi hj e => by have := h (i + 1) (j + 1) (by omega) (by omega) e; omega
theorem Apart.le {px : Nat → F} {n m : Nat} (h : Apart px n) (hm : m ≤ n) : Apart px m := fun i j hi hj e => h i j (by omega) (by omega) e
theorem Apart.ne {px : Nat → F} {n i j : Nat} (h : Apart px n) (hi : i < n) (hj : j < n) (hij : i ≠ j) : px i - px j ≠ 0 := sub_ne fun e => hij (h i j hi hj e)
theorem dd_succ (px py : Nat → F) (n i j : Nat) (h : Apart px n) (hi : i < n) (hj : j < i) : dd px py i (j + 1) * (px i - px (i - (j + 1))) = dd px py i j - dd px py (i - 1) j := by
  have := inv_mul (h.ne hi (show i - (j + 1) < n by omega) (by omega))
  rw [dd]
  grobner
theorem alg0 (D X Y x0 G1 G0 G' p : F) (e0 : D * (X - Y) = ((X - x0) * G1 + p) - ((Y - x0) * G0 + p)) (e3 : G' * (X - Y) = G1 - G0) : (X - Y) * D = (X - Y) * ((X - x0) * G' + G0) := by grobner
theorem alg1 (D X Y Z x0 G1 G0 G' H1 H0 : F) (e0 : D * (X - Z) = ((X - x0) * G1 + H1) - ((Y - x0) * G0 + H0)) (e3 : G' * (X - Z) = G1 - G0) (e6 : G0 * (Y - Z) = H1 - H0) : (X - Z) * D = (X - Z) * ((X - x0) * G' + G0) := by grobner
/-- the product rule -/
theorem dd_prod (px py : Nat → F) (n : Nat) (h : Apart px n) : ∀ (j i : Nat), i + 1 < n → j ≤ i →
    dd px py (i + 1) j = (px (i + 1) - px 0) * dd (up1 px) (sl px py) i j + (match j with | 0 => py 0 | k + 1 => dd (up1 px) (sl px py) (i - 1) k)
  | 0, i, hi, _ => by
    have := inv_mul (h.ne hi (show 0 < n by omega) (by omega))
    show py (i + 1) = (px (i + 1) - px 0) * ((py (i + 1) - py 0) * inv (px (i + 1) - px 0)) + py 0
    grobner
  | j + 1, i, hi, hj => by
    have hup : Apart (up1 px) (n - 1) := by have h' : Apart px (n - 1 + 1) := by rwa [show n - 1 + 1 = n by omega]
                                            exact h'.up1
    have e0 := dd_succ px py n (i + 1) j h hi (by omega)
    have e1 := dd_prod px py n h j i hi (by omega)
    obtain ⟨i, rfl⟩ : ∃ i', i = i' + 1 := ⟨i - 1, by omega⟩
    have e2 := dd_prod px py n h j i (by omega) (by omega)
    have e3 := dd_succ (up1 px) (sl px py) (n - 1) (i + 1) j hup (by omega) (by omega)
    have hne := h.ne hi (show i + 1 + 1 - (j + 1) < n by omega) (by omega)
    have hx : px (i + 1 + 1 - (j + 1)) = up1 px (i - j) := by unfold up1; congr 1; omega
    have hx2 : up1 px (i + 1 - (j + 1)) = up1 px (i - j) := by congr 1; omega
    have hu : px (i + 1 + 1) = up1 px (i + 1) := rfl
    have hu2 : px (i + 1) = up1 px i := rfl
    refine cancel hne ?_
    show _ = _ * (_ + dd (up1 px) (sl px py) i j)
    simp only [Nat.add_sub_cancel] at e0 e1 e2 e3 ⊢
    rw [hx, hu] at e0 hne ⊢
    rw [hx2] at e3
    rw [hu] at e1
    rw [hu2] at e2
    match j, e0, e1, e2, e3 with
    | 0, e0, e1, e2, e3 =>
      simp only [Nat.sub_zero] at *
      rw [e1, e2] at e0
      exact alg0 _ _ _ _ _ _ _ _ e0 e3
    | j + 1, e0, e1, e2, e3 =>
      simp only [Nat.add_sub_cancel] at *
      have hij : i - 1 < n - 1 := by omega
      have e6 := dd_succ (up1 px) (sl px py) (n - 1) i j hup (by omega) (by omega)
      rw [e1, e2] at e0
      exact alg1 _ _ _ _ _ _ _ _ _ _ e0 e3 e6
theorem dd_first (px py : Nat → F) (n : Nat) (h : Apart px n) : ∀ i, i + 1 < n → dd px py (i + 1) (i + 1) = dd (up1 px) (sl px py) i i
  | i, hi => by
    have hne := h.ne hi (show 0 < n by omega) (by omega)
    have e0 := dd_succ px py n (i + 1) i h hi (by omega)
    have e1 := dd_prod px py n h i i hi (Nat.le_refl _)
    rw [Nat.sub_self] at e0
    refine cancel hne ?_
    simp only [Nat.add_sub_cancel] at e0
    match i, e0, e1, hi with
    | 0, e0, e1, hi =>
      have e2 : dd px py 0 0 = py 0 := rfl
      simp only at e1
      grobner
    | i + 1, e0, e1, hi =>
      have e2 := dd_first px py n h i (by omega)
      simp only [Nat.add_sub_cancel] at e1
      grobner
/-- the last divided differences of all beginnings are Newton's coefficients -/
theorem dd_cN : ∀ (i : Nat) (px py : Nat → F), Apart px (i + 1) → dd px py i i = cN i px py
  | 0, px, py, _ => rfl
  | i + 1, px, py, h => by rw [dd_first px py (i + 2) h i (by omega), dd_cN i _ _ h.up1]; rfl
/-- Newton's form, of n coefficients -/
def nv : Nat → (Nat → F) → (Nat → F) → F → F
  | 0, _, _, _ => 0
  | n + 1, px, c, x => c 0 + (x - px 0) * nv n (up1 px) (up1 c) x
/-- the polynomial through the first n points -/
noncomputable def ip (n : Nat) (px py : Nat → F) (x : F) : F := nv n px (fun i => cN i px py) x
theorem ip_succ (n : Nat) (px py : Nat → F) (x : F) : ip (n + 1) px py x = py 0 + (x - px 0) * ip n (up1 px) (sl px py) x := rfl
theorem ip_zero (px py : Nat → F) (x : F) : ip 0 px py x = 0 := rfl
/-- a polynomial by its coefficients -/
def ev : List F → F → F
  | [], _ => 0
  | c :: p, x => c + x * ev p x
/-- its quotient by x - a -/
def dv : List F → F → List F
  | [], _ => []
  | [_], _ => []
  | _ :: b :: p, a => ev (b :: p) a :: dv (b :: p) a
theorem dv_length : ∀ (p : List F) (a : F), (dv p a).length = p.length - 1
  | [], _ => rfl
  | [_], _ => rfl
  | _ :: b :: p, a => by rw [dv, List.length_cons, dv_length (b :: p) a]; simp
theorem ev_dv : ∀ (p : List F) (a x : F), ev p x = ev p a + (x - a) * ev (dv p a) x
  | [], a, x => by simp only [ev, dv]; grobner
  | [c], a, x => by simp only [ev, dv]; grobner
  | c :: b :: p, a, x => by
    have ih := ev_dv (b :: p) a x
    rw [dv]
    simp only [ev] at ih ⊢
    grobner
/-- points on a polynomial of at most i coefficients: the later Newton coefficients are 0, and Newton's form is the polynomial -/
theorem on_poly : ∀ (n : Nat) (p : List F) (px py : Nat → F), Apart px n → (∀ i, i < n → py i = ev p (px i)) → (∀ i, p.length ≤ i → i < n → cN i px py = 0) ∧ (p.length ≤ n → ∀ x, ip n px py x = ev p x)
  | 0, p, px, py, _, _ => ⟨fun i _ h => by omega, fun h x => by rw [List.eq_nil_of_length_eq_zero (show p.length = 0 by omega), ip_zero, ev]⟩
  | n + 1, p, px, py, h, hp => by
    have h0 := hp 0 (by omega)
    have hs : ∀ i, i < n → sl px py i = ev (dv p (px 0)) (up1 px i) := fun i hi => by
      have e1 := hp (i + 1) (by omega)
      have e2 := ev_dv p (px 0) (px (i + 1))
      have e3 := inv_mul (h.ne (show i + 1 < n + 1 by omega) (show 0 < n + 1 by omega) (by omega))
      show (py (i + 1) - py 0) * inv (px (i + 1) - px 0) = ev (dv p (px 0)) (px (i + 1))
      grobner
    obtain ⟨a, b⟩ := on_poly n (dv p (px 0)) (up1 px) (sl px py) h.up1 hs
    rw [dv_length] at a b
    refine ⟨fun i hi hn => ?_, fun hl x => ?_⟩
    · match i, hi, hn with
      | 0, hi, hn =>
        show py 0 = 0
        rw [h0, List.eq_nil_of_length_eq_zero (show p.length = 0 by omega), ev]
      | i + 1, hi, hn => exact a i (by omega) (by omega)
    · have e1 := b (by omega) x
      have e2 := ev_dv p (px 0) x
      rw [ip_succ]
      grobner
/-- only the points themselves count -/
theorem cN_congr : ∀ (m : Nat) (px qx py qy : Nat → F), (∀ i, i ≤ m → px i = qx i) → (∀ i, i ≤ m → py i = qy i) → cN m px py = cN m qx qy
  | 0, px, qx, py, qy, _, h => h 0 (Nat.le_refl _)
  | m + 1, px, qx, py, qy, h1, h2 => by
    rw [cN, cN]
    refine cN_congr m _ _ _ _ (fun i hi => h1 (i + 1) (by omega)) (fun i hi => ?_)
    rw [sl, sl, h1 (i + 1) (by omega), h1 0 (by omega), h2 (i + 1) (by omega), h2 0 (by omega)]
theorem ip_congr : ∀ (n : Nat) (px qx py qy : Nat → F) (x : F), (∀ i, i < n → px i = qx i) → (∀ i, i < n → py i = qy i) → ip n px py x = ip n qx qy x
  | 0, _, _, _, _, _, _, _ => rfl
  | n + 1, px, qx, py, qy, x, h1, h2 => by
    rw [ip_succ, ip_succ, h1 0 (by omega), h2 0 (by omega), ip_congr n (up1 px) (up1 qx) (sl px py) (sl qx qy) x (fun i hi => h1 (i + 1) (by omega)) (fun i hi => by rw [sl, sl, h1 (i + 1) (by omega), h1 0 (by omega), h2 (i + 1) (by omega), h2 0 (by omega)])]
/-- the product of x - px k, for k up to n but not i -/
def lg (px : Nat → F) (i : Nat) (x : F) : Nat → F
  | 0 => 1
  | n + 1 => if n = i then lg px i x n else lg px i x n * (x - px n)
/-- Lagrange's sum of the first m terms, of n points -/
noncomputable def lv (n : Nat) (px py : Nat → F) (x : F) : Nat → F
  | 0 => 0
  | m + 1 => lv n px py x m + py m * lg px m x n * inv (lg px m (px m) n)
end Go.Proofs.Ytggmjfonhcinhaa.Shr
end ShrM_
