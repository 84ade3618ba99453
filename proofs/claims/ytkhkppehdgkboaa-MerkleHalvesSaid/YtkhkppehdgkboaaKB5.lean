/- Texts of this claim, merged: what the functions that the law reaches compute, and what that says. -/
section ShaL_
namespace Go.Proofs.Ytkhkppehdgkboaa.ShaL
def rotr (x n : Nat) : Nat := x >>> n ||| (x <<< (32 - n)) % 4294967296
def sg0 (x : Nat) : Nat := rotr x 7 ^^^ rotr x 18 ^^^ x >>> 3
def sg1 (x : Nat) : Nat := rotr x 17 ^^^ rotr x 19 ^^^ x >>> 10
/-- word i of a block -/
def word (b : List Nat) (i : Nat) : Nat := b.getD (4 * i) 0 * 16777216 + b.getD (4 * i + 1) 0 * 65536 + b.getD (4 * i + 2) 0 * 256 + b.getD (4 * i + 3) 0
def wNext (b l : List Nat) (i : Nat) : Nat :=
  if i < 16 then word b i else (l.getD (i - 16) 0 + sg0 (l.getD (i - 15) 0) + l.getD (i - 7) 0 + sg1 (l.getD (i - 2) 0)) % 4294967296
/-- the first words of the schedule -/
def wTo (b : List Nat) : Nat → List Nat
  | 0 => []
  | i + 1 => wTo b i ++ [wNext b (wTo b i) i]
theorem wTo_length (b : List Nat) (i : Nat) : (wTo b i).length = i := by
  induction i with
  | zero => rfl
  | succ i ih => simp [wTo, ih]
theorem rotr_lt (x n : Nat) (hx : x < 4294967296) : rotr x n < 4294967296 := by
  unfold rotr
  have h1 : x >>> n < 2 ^ 32 := Nat.lt_of_le_of_lt (Nat.shiftRight_le x n) hx
  have h2 : x <<< (32 - n) % 4294967296 < 2 ^ 32 := Nat.mod_lt _ (by decide)
  exact Nat.or_lt_two_pow h1 h2
theorem xor_lt (x y : Nat) (hx : x < 4294967296) (hy : y < 4294967296) : x ^^^ y < 4294967296 := Nat.xor_lt_two_pow (n := 32) hx hy
theorem word_lt (b : List Nat) (h : ∀ n ∈ b, n < 256) (i : Nat) : word b i < 4294967296 := by
  have g : ∀ j, b.getD j 0 < 256 := fun j => by
    rw [List.getD_eq_getElem?_getD]
    cases e : b[j]? with
    | none => simp
    | some x => simpa using h x (List.mem_of_getElem? e)
  have := g (4 * i); have := g (4 * i + 1); have := g (4 * i + 2); have := g (4 * i + 3)
  unfold word; omega
theorem wNext_lt (b l : List Nat) (h : ∀ n ∈ b, n < 256) (i : Nat) : wNext b l i < 4294967296 := by
  unfold wNext; split
  · exact word_lt b h i
  · exact Nat.mod_lt _ (by decide)
theorem wTo_lt (b : List Nat) (h : ∀ n ∈ b, n < 256) (i : Nat) : ∀ n ∈ wTo b i, n < 4294967296 := by
  induction i with
  | zero => intro n hn; cases hn
  | succ i ih =>
    intro n hn
    rw [wTo, List.mem_append, List.mem_singleton] at hn
    rcases hn with hn | rfl
    · exact ih n hn
    · exact wNext_lt b _ h i
/-- the words of memory while the schedule is made: i words, then zeros -/
def wMem (b : List Nat) (i : Nat) : List Nat := wTo b i ++ List.replicate (64 - i) 0
theorem wMem_length (b : List Nat) (i : Nat) (h : i ≤ 64) : (wMem b i).length = 64 := by simp [wMem, wTo_length]; omega
theorem wMem_get (b : List Nat) (i j : Nat) (h : j < i) : (wMem b i).getD j 0 = (wTo b i).getD j 0 := by
  simp only [wMem, List.getD_eq_getElem?_getD]
  rw [List.getElem?_append_left (by rw [wTo_length]; exact h)]
theorem wMem_set (b : List Nat) (i : Nat) (h : i < 64) : (wMem b i).set i (wNext b (wTo b i) i) = wMem b (i + 1) := by
  have e : List.replicate (64 - i) (0 : Nat) = 0 :: List.replicate (64 - (i + 1)) 0 := by
    rw [show 64 - i = (64 - (i + 1)) + 1 by omega, List.replicate_succ]
  simp only [wMem, wTo, e]
  rw [List.set_append_right _ _ (by rw [wTo_length]; exact Nat.le_refl i), wTo_length, Nat.sub_self, List.set_cons_zero, List.append_assoc]; rfl
/-- the round constants, and the initial state -/
def kL : List Nat := [1116352408, 1899447441, 3049323471, 3921009573, 961987163, 1508970993, 2453635748, 2870763221, 3624381080, 310598401, 607225278, 1426881987, 1925078388, 2162078206, 2614888103, 3248222580, 3835390401, 4022224774, 264347078, 604807628, 770255983, 1249150122, 1555081692, 1996064986, 2554220882, 2821834349, 2952996808, 3210313671, 3336571891, 3584528711, 113926993, 338241895, 666307205, 773529912, 1294757372, 1396182291, 1695183700, 1986661051, 2177026350, 2456956037, 2730485921, 2820302411, 3259730800, 3345764771, 3516065817, 3600352804, 4094571909, 275423344, 430227734, 506948616, 659060556, 883997877, 958139571, 1322822218, 1537002063, 1747873779, 1955562222, 2024104815, 2227730452, 2361852424, 2428436474, 2756734187, 3204031479, 3329325298]
def h0L : List Nat := [1779033703, 3144134277, 1013904242, 2773480762, 1359893119, 2600822924, 528734635, 1541459225]
theorem kL_length : kL.length = 64 := by decide
theorem kL_lt : ∀ n ∈ kL, n < 4294967296 := by decide
theorem h0L_lt : ∀ n ∈ h0L, n < 4294967296 := by decide
def bs0 (x : Nat) : Nat := rotr x 2 ^^^ rotr x 13 ^^^ rotr x 22
def bs1 (x : Nat) : Nat := rotr x 6 ^^^ rotr x 11 ^^^ rotr x 25
def tOne (e f g h k w : Nat) : Nat := (h + bs1 e + ((e &&& f) ^^^ ((4294967295 ^^^ e) &&& g)) + k + w) % 4294967296
def tTwo (a b c : Nat) : Nat := (bs0 a + ((a &&& b) ^^^ (a &&& c) ^^^ (b &&& c))) % 4294967296
/-- a round on eight words -/
def round (v : List Nat) (k w : Nat) : List Nat :=
  match v with
  | [a, b, c, d, e, f, g, h] => [(tOne e f g h k w + tTwo a b c) % 4294967296, a, b, c, (d + tOne e f g h k w) % 4294967296, e, f, g]
  | v => v
/-- the words after i rounds -/
def rTo (h b : List Nat) : Nat → List Nat
  | 0 => h
  | i + 1 => round (rTo h b i) (kL.getD i 0) ((wTo b 64).getD i 0)
/-- the state behind a block -/
def stepL (h b : List Nat) : List Nat := List.zipWith (fun x y => (x + y) % 4294967296) (rTo h b 64) h
theorem round_length {v : List Nat} (h : v.length = 8) (k w : Nat) : (round v k w).length = 8 := by
  match v, h with
  | [a, b, c, d, e, f, g, h], _ => rfl
theorem rTo_length {h : List Nat} (b : List Nat) (hh : h.length = 8) (i : Nat) : (rTo h b i).length = 8 := by
  induction i with
  | zero => exact hh
  | succ i ih => exact round_length ih _ _
theorem round_lt {v : List Nat} (h : ∀ n ∈ v, n < 4294967296) (k w : Nat) : ∀ n ∈ round v k w, n < 4294967296 := by
  unfold round
  split
  · rename_i a b c d e f g hh
    simp only [List.mem_cons, List.not_mem_nil, or_false, forall_eq_or_imp, forall_eq] at h ⊢
    obtain ⟨h1, h2, h3, h4, h5, h6, h7, h8⟩ := h
    exact ⟨Nat.mod_lt _ (by decide), h1, h2, h3, Nat.mod_lt _ (by decide), h5, h6, h7⟩
  · exact h
theorem rTo_lt {h : List Nat} (b : List Nat) (hh : ∀ n ∈ h, n < 4294967296) (i : Nat) : ∀ n ∈ rTo h b i, n < 4294967296 := by
  induction i with
  | zero => exact hh
  | succ i ih => exact round_lt ih _ _
theorem stepL_length {h : List Nat} (b : List Nat) (hh : h.length = 8) : (stepL h b).length = 8 := by
  simp [stepL, rTo_length b hh, hh]
theorem stepL_lt (h b : List Nat) : ∀ n ∈ stepL h b, n < 4294967296 := by
  intro n hn
  simp only [stepL, List.mem_iff_getElem?, List.getElem?_zipWith] at hn
  obtain ⟨i, hi⟩ := hn
  cases e1 : (rTo h b 64)[i]? <;> cases e2 : h[i]? <;> simp [e1, e2] at hi
  omega
end Go.Proofs.Ytkhkppehdgkboaa.ShaL
end ShaL_
