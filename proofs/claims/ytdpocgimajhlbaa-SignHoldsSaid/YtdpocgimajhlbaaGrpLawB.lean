/- Laws of powers and inverses modulo 2^61 - 1, for ints; and the program's functions at any number of rounds from 74 on. -/
import Derived.Test.YtdpocgimajhlbaaGrpFnB
import Derived.Test.YtdpocgimajhlbaaField
namespace Go.Proofs.Ytdpocgimajhlbaa.Grp
open Go.RowKit Go.Proofs.Ytdpocgimajhlbaa.P
set_option linter.unusedVariables false
set_option linter.unusedSimpArgs false

theorem mul_at {k : Nat} (hk : 74 ≤ k) (a b : Int) : group_Mul.f k a b = some (a * b % 2305843009213693951) := by
  obtain ⟨j, rfl⟩ : ∃ j, k = j + 9 := ⟨k - 9, by omega⟩
  exact mul_eq j a b
theorem mulN_at {k : Nat} (hk : 74 ≤ k) (a b : Int) : group_MulN.f k a b = some (a * b % 2305843009213693950) := by
  obtain ⟨j, rfl⟩ : ∃ j, k = j + 9 := ⟨k - 9, by omega⟩
  exact mulN_eq j a b
theorem exp_at {k : Nat} (hk : 74 ≤ k) (a e : Int) (he : e < 9223372036854775808) : group_Exp.f k a e = some (pw a (ex e)) := by
  obtain ⟨j, rfl⟩ : ∃ j, k = j + 74 := ⟨k - 74, by omega⟩
  exact exp_eq j a e he
/-- the residue as a natural number -/
def nr (a : Int) : Nat := (a % 2305843009213693951).toNat
theorem nr_cast (a : Int) : (nr a : Int) = a % 2305843009213693951 := by unfold nr; omega
theorem nr_mod (a : Int) : nr a % Field.P = nr a := Nat.mod_eq_of_lt (by unfold nr Field.P; omega)
theorem nr_zero (a : Int) : nr a = 0 ↔ a % 2305843009213693951 = 0 := by unfold nr; omega
theorem pw_nr (a : Int) (e : Nat) : pw a e = ((nr a ^ e % Field.P : Nat) : Int) := by
  rw [← pw_mod, ← nr_cast]; unfold pw Field.P
  rw [Int.natCast_emod, Int.natCast_pow]; rfl
theorem nr_mul (a b : Int) : nr (a * b) = nr a * nr b % Field.P := by
  have : ((nr (a * b) : Nat) : Int) = ((nr a * nr b % Field.P : Nat) : Int) := by
    rw [Int.natCast_emod, Int.natCast_mul, nr_cast, nr_cast, nr_cast]; exact Int.mul_emod _ _ _
  exact Int.ofNat.inj this
theorem nr_pw (a : Int) (e : Nat) : nr (pw a e) = nr a ^ e % Field.P := by
  have : ((nr (pw a e) : Nat) : Int) = ((nr a ^ e % Field.P : Nat) : Int) := by
    rw [nr_cast, ← pw_nr]; unfold pw; rw [Int.emod_emod]
  exact Int.ofNat.inj this

theorem nr_ne {a : Int} (h : a % 2305843009213693951 ≠ 0) : nr a % Field.P ≠ 0 := by rw [nr_mod]; exact fun h0 => h ((nr_zero a).1 h0)

/-- a product is 0 only if a factor is -/
theorem mul_zero_iff (a b : Int) : a * b % 2305843009213693951 = 0 ↔ a % 2305843009213693951 = 0 ∨ b % 2305843009213693951 = 0 := by
  rw [← nr_zero, nr_mul, Field.mul_zero_iff, nr_mod, nr_mod, nr_zero, nr_zero]

theorem pw_one {a : Int} (h : a % 2305843009213693951 ≠ 0) : pw a 2305843009213693950 = 1 := by
  rw [show (2305843009213693950 : Nat) = Field.N from rfl, pw_nr]; exact congrArg Int.ofNat (Field.fermat (nr_ne h))

theorem pw_add (a : Int) (d e : Nat) : pw a d * pw a e % 2305843009213693951 = pw a (d + e) := by
  unfold pw; rw [← Int.mul_emod, ← Int.pow_add]
theorem pw_pw (a : Int) (d e : Nat) : pw (pw a d) e = pw a (d * e) := by
  have : pw (a ^ d % 2305843009213693951) e = pw (a ^ d) e := pw_mod _ _
  unfold pw at this ⊢; rw [this, ← Int.pow_mul]
theorem pw_mul (a b : Int) (d : Nat) : pw a d * pw b d % 2305843009213693951 = pw (a * b) d := by
  unfold pw; rw [← Int.mul_emod, ← Int.mul_pow]
theorem pw_0 (a : Int) : pw a 0 = 1 := by unfold pw; rw [Int.pow_zero]; decide
theorem pw_1 (a : Int) : pw a 1 = a % 2305843009213693951 := by unfold pw; rw [Int.pow_succ, Int.pow_zero, Int.one_mul]
theorem one_pw (e : Nat) : pw 1 e = 1 := by unfold pw; rw [Int.one_pow]; decide

/-- of the exponent only the residue modulo N counts -/
theorem pw_period {a : Int} (h : a % 2305843009213693951 ≠ 0) (e : Nat) : pw a (e % 2305843009213693950) = pw a e := by
  have h1 : pw a (2305843009213693950 * (e / 2305843009213693950)) = 1 := by rw [← pw_pw, pw_one h, one_pw]
  have h2 := pw_add a (2305843009213693950 * (e / 2305843009213693950)) (e % 2305843009213693950)
  rw [h1, Nat.div_add_mod, Int.one_mul] at h2
  have := pw_bounds a (e % 2305843009213693950)
  rw [← h2]; exact (Int.emod_eq_of_lt this.1 this.2).symm

theorem pw_same {a : Int} (h : a % 2305843009213693951 ≠ 0) {d e : Nat} (hde : (d : Int) % 2305843009213693950 = (e : Int) % 2305843009213693950) : pw a d = pw a e := by
  rw [← pw_period h d, ← pw_period h e]; congr 1; omega

theorem ex_mod (e : Int) : (ex e : Int) % 2305843009213693950 = e % 2305843009213693950 := by
  unfold ex; split <;> omega

theorem ex_in {e : Int} (h : 0 ≤ e) : (ex e : Int) = e := by unfold ex; rw [if_neg (by omega)]; omega

theorem pw_ne {a : Int} (h : a % 2305843009213693951 ≠ 0) (e : Nat) : pw a e ≠ 0 := by
  intro h0
  have h1 := pw_add a e (2305843009213693950 - e % 2305843009213693950)
  rw [h0, Int.zero_mul] at h1
  have h2 : pw a (e + (2305843009213693950 - e % 2305843009213693950)) = 1 := by
    rw [← pw_0 a]; apply pw_same h; omega
  rw [h2] at h1; exact absurd h1 (by decide)

theorem pw_ne_mod {a : Int} (h : a % 2305843009213693951 ≠ 0) (e : Nat) : pw a e % 2305843009213693951 ≠ 0 := by
  have := pw_bounds a e
  rw [Int.emod_eq_of_lt this.1 this.2]; exact pw_ne h e

/-- the inverse -/
theorem inv_law {a : Int} (h : a % 2305843009213693951 ≠ 0) : a * pw a 2305843009213693949 % 2305843009213693951 = 1 := by
  have h1 := pw_add a 1 2305843009213693949
  rw [pw_1, Int.mul_emod, Int.emod_emod, ← Int.mul_emod] at h1
  rw [h1]; exact pw_one h

theorem inv_only {a x : Int} (h : a * x % 2305843009213693951 = 1) (hx0 : 0 ≤ x) (hx : x < 2305843009213693951) : x = pw a 2305843009213693949 := by
  have ha : a % 2305843009213693951 ≠ 0 := fun h0 => by
    have := (mul_zero_iff a x).2 (.inl h0)
    rw [h] at this; exact absurd this (by decide)
  have h1 := inv_law ha
  have hb := pw_bounds a 2305843009213693949
  generalize pw a 2305843009213693949 = y at *
  have e1 : x * (a * y) % 2305843009213693951 = x := by
    rw [Int.mul_emod, h1, Int.mul_one, Int.emod_emod]; exact Int.emod_eq_of_lt hx0 hx
  have e2 : y * (a * x) % 2305843009213693951 = y := by
    rw [Int.mul_emod, h, Int.mul_one, Int.emod_emod]; exact Int.emod_eq_of_lt hb.1 hb.2
  have e3 : x * (a * y) = y * (a * x) := by rw [Int.mul_left_comm, Int.mul_left_comm y, Int.mul_comm x y]
  rw [e3] at e1; exact e1.symm.trans e2

/-- 37 generates -/
theorem gen_same (d e : Nat) : pw 37 d = pw 37 e ↔ d % 2305843009213693950 = e % 2305843009213693950 := by
  rw [pw_nr, pw_nr]
  have h37 : nr 37 = 37 := by decide
  rw [h37]
  constructor
  · intro h; exact (Field.g_same d e).1 (Int.ofNat.inj h)
  · intro h; exact congrArg Int.ofNat ((Field.g_same d e).2 h)

/-- every number from 1 to P - 1 is a power of 37 -/
theorem gen_onto {a : Int} (h0 : 1 ≤ a) (h : a < 2305843009213693951) : ∃ i : Nat, i < 2305843009213693950 ∧ pw 37 i = a := by
  obtain ⟨i, hi, e⟩ := Field.g_onto (a := a.toNat) (by omega) (by unfold Field.P; omega)
  refine ⟨i, hi, ?_⟩
  have h37 : nr 37 = 37 := by decide
  rw [pw_nr, h37, e]; omega

theorem bd64 {n : Int} (h : (Lit.int .i64 n).wf = true) : -9223372036854775808 ≤ n ∧ n ≤ 9223372036854775807 := by
  simp only [Lit.wf, IntKind.min, IntKind.max, IntKind.signed, IntKind.bits, Bool.and_eq_true, decide_eq_true_eq, if_true] at h
  omega
end Go.Proofs.Ytdpocgimajhlbaa.Grp
