/- The law SumDetects, plain. -/
import Derived.Test.YtloieoneckjjeaaP10
import Derived.Test.YtloieoneckjjeaaCrcF
namespace Go.Proofs.Ytloieoneckjjeaa.Pure
open Go.RowKit Go.Proofs.Ytloieoneckjjeaa.P Go.Proofs.Ytloieoneckjjeaa.ShaL Go.Proofs.Ytloieoneckjjeaa.CrcL Go.Proofs.Ytloieoneckjjeaa.Flip Go.Proofs.YtloieoneckjjeaaW.PrintWords Go.Proofs.YtloieoneckjjeaaW.PrintLast
set_option linter.unusedVariables false

theorem num_set : ∀ (l : List Nat) (j y : Nat), (∀ n ∈ l, n < 256) → j < l.length → y < 256 → num (l.set j (l.getD j 0 ^^^ y)) = num l ^^^ 2 ^ (8 * j) * y
  | b :: l, 0, y, h, _, hy => by
    have hb := h b (List.mem_cons_self ..)
    rw [List.set_cons_zero, List.getD_cons_zero, num_cons _ _ (Nat.xor_lt_two_pow (n := 8) hb hy), num_cons _ _ hb, Nat.mul_zero, Nat.pow_zero, Nat.one_mul, Nat.xor_assoc]
  | b :: l, j + 1, y, h, hj, hy => by
    have hb := h b (List.mem_cons_self ..)
    rw [List.set_cons_succ, List.getD_cons_succ, num_cons _ _ hb, num_cons _ _ hb, num_set l j y (fun n hn => h n (List.mem_cons_of_mem _ hn)) (by simpa using hj) hy,
      show (256 : Nat) = 2 ^ 8 from rfl, mul_xor, ← Nat.mul_assoc, ← Nat.pow_add, show 8 + 8 * j = 8 * (j + 1) by omega]
    ac_rfl
/-- the bits of the pattern that are laid -/
def laid (n : Nat) (f : Int) (pat : Nat) : Nat → Nat
  | 0 => 0
  | k + 1 => if hits n f pat k then laid n f pat k ^^^ 2 ^ k else laid n f pat k
theorem laid_lt (n : Nat) (f : Int) (pat k : Nat) : laid n f pat k < 2 ^ k := by
  induction k with
  | zero => exact Nat.one_pos
  | succ k ih =>
    rw [laid]
    have h2 : 2 ^ k < 2 ^ (k + 1) := Nat.pow_lt_pow_right (by decide) (Nat.lt_succ_self k)
    split
    · exact Nat.xor_lt_two_pow (Nat.lt_trans ih h2) h2
    · exact Nat.lt_trans ih h2
theorem laid_did (b : List Nat) (f : Int) (pat k : Nat) : (flipTo b f pat k).2 = true ↔ laid b.length f pat k ≠ 0 := by
  induction k with
  | zero => simp [flipTo, laid]
  | succ k ih =>
    rw [flipTo, laid]
    split
    · refine iff_of_true rfl fun h => ?_
      have := xor_eq_zero h
      have := laid_lt b.length f pat k
      omega
    · exact ih
/-- what is laid, as a number, is what the bytes' number is turned by -/
theorem num_flip (b : List Nat) (hb : ∀ n ∈ b, n < 256) (f : Int) (pat k : Nat) :
    ∃ m, num (flipTo b f pat k).1 = num b ^^^ m ∧ 2 ^ (-f).toNat * m = 2 ^ f.toNat * laid b.length f pat k := by
  induction k with
  | zero => exact ⟨0, by rw [Nat.xor_zero]; rfl, by rw [laid, Nat.mul_zero, Nat.mul_zero]⟩
  | succ k ih =>
    obtain ⟨m, h1, h2⟩ := ih
    rw [flipTo, laid]
    split
    · rename_i hh
      have hl := flipTo_length b f pat k
      have hlt := flipTo_lt hb f pat k
      obtain ⟨i, hi⟩ : ∃ i : Nat, f + (k : Int) = (i : Int) := ⟨(f + (k : Int)).toNat, by have := hh.2.1; omega⟩
      have hi8 : i / 8 < (flipTo b f pat k).1.length := by have := hh.2.2; omega
      have hy : 2 ^ (i % 8) < 256 := Nat.pow_lt_pow_right (n := 8) (by decide) (Nat.mod_lt _ (by decide))
      refine ⟨m ^^^ 2 ^ i, ?_, ?_⟩
      · rw [hi, Int.toNat_natCast]
        show num ((flipTo b f pat k).1.set (i / 8) _) = _
        rw [num_set _ _ _ hlt hi8 hy, h1, ← Nat.pow_add, Nat.div_add_mod, Nat.xor_assoc]
      · rw [mul_xor, mul_xor, h2, ← Nat.pow_add, ← Nat.pow_add, show (-f).toNat + i = f.toNat + k by omega]
    · exact ⟨m, h1, h2⟩
theorem laid_far (n : Nat) (f : Int) (pat k : Nat) (h : 8 * (n : Int) ≤ f) : laid n f pat k = 0 := by
  induction k with
  | zero => rfl
  | succ k ih =>
    rw [laid, if_neg, ih]
    intro hh
    have := hh.2.2
    omega
theorem crc_flip (b : List Nat) (hb : ∀ n ∈ b, n < 256) (f : Int) (pat : Nat) :
    (crcN b = crcN (flipTo b f pat 32).1) ↔ laid b.length f pat 32 = 0 := by
  obtain ⟨m, h1, h2⟩ := num_flip b hb f pat 32
  have hlt := flipTo_lt hb f pat 32
  have hl := flipTo_length b f pat 32
  have e1 : reg 4294967295 (flipTo b f pat 32).1 = reg 4294967295 b ^^^ itS (8 * b.length) m := by
    rw [reg_eq _ hlt, reg_eq _ hb, hl, h1, ← Nat.xor_assoc, itS_xor]
  have e2 : (crcN b = crcN (flipTo b f pat 32).1) ↔ itS (8 * b.length) m = 0 := by
    unfold crcN
    rw [e1]
    generalize reg 4294967295 b = r
    generalize itS (8 * b.length) m = z
    constructor
    · intro h
      have := congrArg (fun q => r ^^^ (4294967295 ^^^ q)) h
      have h3 : r ^^^ (4294967295 ^^^ (4294967295 ^^^ r)) = 0 := by rw [← Nat.xor_assoc 4294967295, Nat.xor_self, Nat.zero_xor, Nat.xor_self]
      have h4 : r ^^^ (4294967295 ^^^ (4294967295 ^^^ (r ^^^ z))) = z := by rw [← Nat.xor_assoc 4294967295, Nat.xor_self, Nat.zero_xor, ← Nat.xor_assoc, Nat.xor_self, Nat.zero_xor]
      simp only [h3, h4] at this
      exact this.symm
    · rintro rfl; rw [Nat.xor_zero]
  rw [e2]
  have hq := laid_lt b.length f pat 32
  have hfar := laid_far b.length f pat 32
  generalize laid b.length f pat 32 = q at h2 hq hfar
  rcases Int.le_total 0 f with hf | hf
  · obtain ⟨e, rfl⟩ := Int.eq_ofNat_of_zero_le hf
    rw [show (-(e : Int)).toNat = 0 by omega, Nat.pow_zero, Nat.one_mul, Int.toNat_natCast] at h2
    subst h2
    constructor
    · intro h
      by_cases he : e ≤ 8 * b.length
      · rw [show 8 * b.length = e + (8 * b.length - e) by omega, itS_add, itS_pow] at h
        exact itS_zero _ _ hq h
      · exact hfar (by omega)
    · rintro rfl; rw [Nat.mul_zero, itS_nil]
  · rw [show f.toNat = 0 by omega, Nat.pow_zero, Nat.one_mul] at h2
    have hm : m < 4294967296 := by
      refine Nat.lt_of_le_of_lt ?_ hq
      rw [← h2]
      exact Nat.le_mul_of_pos_left m (Nat.pow_pos (by decide))
    constructor
    · intro h
      rw [← h2, itS_zero _ _ hm h, Nat.mul_zero]
    · rintro rfl
      have : m = 0 := by
        rcases Nat.eq_zero_or_pos m with h | h
        · exact h
        · have := Nat.mul_pos (Nat.pow_pos (n := (-f).toNat) (show 0 < 2 by decide)) h; omega
      rw [this, itS_nil]

theorem SumDetects : agoralaw03_SumDetects.Pure := by
  intro a0 a1 a2 h0 h1 h2
  obtain ⟨p, rfl, hp⟩ := bdu32 h2
  have hb := bd64 h1
  have skip : agoralaw03_SumDetects.j0 100000 a0 a1 (p : Int) true true = some true := by
    rw [show 100000 = 99999 + 1 from rfl, agoralaw03_SumDetects.j0, if_pos rfl]
  refine ⟨100000, ?_⟩
  unfold agoralaw03_SumDetects.f
  rw [smallR _ (by decide), Option.bind_some]
  by_cases hs : (a0.size : Int) > 4000
  · rw [if_pos hs]; exact skip
  rw [if_neg hs]
  by_cases hl : a1 < -32
  · rw [if_pos hl]; exact skip
  rw [if_neg hl]
  by_cases hh : a1 > 32000
  · rw [decide_eq_true hh]; exact skip
  rw [decide_eq_false hh, show 100000 = 99999 + 1 from rfl, agoralaw03_SumDetects.j0, if_neg (by decide)]
  unfold agoralaw03_flip.f
  rw [if_pos ⟨by omega, by omega, by omega, by omega, by omega⟩, Option.bind_some, if_pos rfl, crc_at a0 (by omega) _ (by omega), Option.bind_some, Int.toNat_natCast]
  have hlt := flipTo_lt (bts_lt a0) a1 p 32
  have hl := flipTo_length (bts a0) a1 p 32
  have hbt : bts ⟨((flipTo (bts a0) a1 p 32).1.map UInt8.ofNat).toArray⟩ = (flipTo (bts a0) a1 p 32).1 := by
    have := bts_nums _ hlt
    simp only [strOfNums, List.map_map] at this
    exact this
  have hsz : (⟨((flipTo (bts a0) a1 p 32).1.map UInt8.ofNat).toArray⟩ : ByteArray).size = a0.size := by
    rw [← bts_length, hbt, hl, bts_length]
  rw [crc_at _ (by rw [hsz]; omega) _ (by rw [hsz]; omega), Option.bind_some, hbt]
  have e1 := crc_flip (bts a0) (bts_lt a0) a1 p
  have e2 := laid_did (bts a0) a1 p 32
  congr 1
  by_cases hz : laid (bts a0).length a1 p 32 = 0
  · have h3 : (flipTo (bts a0) a1 p 32).2 = false := by
      rw [← Bool.not_eq_true]; exact fun h => (e2.1 h) hz
    rw [h3, ← e1.2 hz, bne_self_eq_false]; rfl
  · rw [e2.2 hz]
    have : ((crcN (bts a0) : Nat) : Int) ≠ ((crcN (flipTo (bts a0) a1 p 32).1 : Nat) : Int) := fun h => hz (e1.1 (by omega))
    rw [bne_iff_ne.2 this]; rfl
end Go.Proofs.Ytloieoneckjjeaa.Pure
