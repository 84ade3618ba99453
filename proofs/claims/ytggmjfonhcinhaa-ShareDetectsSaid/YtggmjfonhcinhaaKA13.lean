/- Texts of this claim, merged: what the functions that the law reaches compute, and what that says. -/
import Derived.Laws.BitsAllLaws
import Derived.Test.YtggmjfonhcinhaaKA5
import Derived.Test.YtggmjfonhcinhaaKA12
section ShaF_
namespace Go.Proofs.Ytggmjfonhcinhaa.ShaL
open Go.RowKit Go.Proofs.Ytggmjfonhcinhaa.P Go.Proofs.YtggmjfonhcinhaaW.PrintWords Go.Proofs.YtggmjfonhcinhaaW.PrintLast Go.Proofs.YtggmjfonhcinhaaW.PrintMore
set_option linter.unusedVariables false
theorem or_nat (a b : Nat) (ha : a < 4294967296) (hb : b < 4294967296) : Go.bits .or .u32 (a : Int) (b : Int) = ((a ||| b : Nat) : Int) := u32_or_nat a b ha hb
theorem xor_nat (a b : Nat) (ha : a < 4294967296) (hb : b < 4294967296) : Go.bits .xor .u32 (a : Int) (b : Int) = ((a ^^^ b : Nat) : Int) := u32_xor_nat a b ha hb
theorem and_nat (a b : Nat) (ha : a < 4294967296) (hb : b < 4294967296) : Go.bits .and .u32 (a : Int) (b : Int) = ((a &&& b : Nat) : Int) := u32_and_nat a b ha hb
/-- bits.RotateLeft32 by a negative count -/
theorem rot_eq (x n : Nat) (hx : x < 4294967296) (h0 : 0 < n) (hn : n < 32) : bits_RotateLeft32.f x (-(n : Int)) = some ((rotr x n : Nat) : Int) := by
  unfold bits_RotateLeft32.f
  have e1 : Go.bits .and .u64 (IntKind.u64.wrap (-(n : Int))) 31 = ((32 - n : Nat) : Int) := by
    rw [IntKind.wrap_u64, show (-(n : Int)) % 18446744073709551616 = ((18446744073709551616 - n : Nat) : Int) by omega, u64_and _ 31 (by omega) (by omega) (by omega) (by omega), Int.toNat_natCast,
      show (31 : Int).toNat = 2 ^ 5 - 1 from rfl, Nat.and_two_pow_sub_one_eq_mod]
    omega
  have e2 : IntKind.u64.wrap (32 - ((32 - n : Nat) : Int)) = (n : Int) := by rw [IntKind.wrap_u64]; omega
  rw [e1, e2, if_pos (by omega), if_pos (by omega)]
  have e3 : shl .u32 (x : Int) ((32 - n : Nat) : Int) = (((x <<< (32 - n)) % 4294967296 : Nat) : Int) := by
    unfold shl
    rw [Int.toNat_natCast, show min (32 - n) IntKind.u32.bits = 32 - n by have : IntKind.u32.bits = 32 := rfl; omega, IntKind.wrap_u32', Nat.shiftLeft_eq]
    simp only [Int.natCast_emod, Int.natCast_mul, Int.natCast_pow]; rfl
  have e4 : shr .u32 (x : Int) (n : Int) = ((x >>> n : Nat) : Int) := by
    unfold shr
    rw [Int.toNat_natCast, show min n IntKind.u32.bits = n by have : IntKind.u32.bits = 32 := rfl; omega, Nat.shiftRight_eq_div_pow]
    simp only [Int.natCast_ediv, Int.natCast_pow]; rfl
  rw [e3, e4, or_nat _ _ (Nat.mod_lt _ (by decide)) (Nat.lt_of_le_of_lt (Nat.shiftRight_le x n) hx)]
  unfold rotr; rw [Nat.or_comm]
theorem rots_eq (x a b c : Nat) (hx : x < 4294967296) (ha : 0 < a ∧ a < 32) (hb : 0 < b ∧ b < 32) (hc : 0 < c ∧ c < 32) :
    sum_rotations.f x a b c = some ((rotr x a ^^^ rotr x b ^^^ rotr x c : Nat) : Int) := by
  unfold sum_rotations.f
  have w (n : Nat) (h : n < 32) : wrap64 (-(n : Int)) = -(n : Int) := by unfold wrap64; omega
  rw [w a ha.2, w b hb.2, w c hc.2, rot_eq x a hx ha.1 ha.2, Option.bind_some, rot_eq x b hx hb.1 hb.2, Option.bind_some, rot_eq x c hx hc.1 hc.2, Option.bind_some,
    xor_nat _ _ (rotr_lt _ _ hx) (rotr_lt _ _ hx), xor_nat _ _ (xor_lt _ _ (rotr_lt _ _ hx) (rotr_lt _ _ hx)) (rotr_lt _ _ hx)]
theorem or_add (a b k : Nat) (hb : b < 2 ^ k) : a * 2 ^ k ||| b = a * 2 ^ k + b := by
  rw [Nat.mul_comm, ← Nat.two_pow_add_eq_or_of_lt hb]
/-- a string's bytes as numbers -/
def bts (s : ByteArray) : List Nat := s.data.toList.map UInt8.toNat
theorem bts_length (s : ByteArray) : (bts s).length = s.size := by rw [bts, List.length_map, Array.length_toList]; rfl
theorem bts_lt (s : ByteArray) : ∀ n ∈ bts s, n < 256 := by
  intro n hn
  rw [bts, List.mem_map] at hn
  obtain ⟨b, _, rfl⟩ := hn
  exact b.toNat_lt
theorem bts_extract (s : ByteArray) (a b : Nat) : bts (s.extract a b) = ((bts s).drop a).take (b - a) := by
  unfold bts
  rw [ByteArray.data_extract, Array.toList_extract, List.extract_eq_take_drop, List.map_take, List.map_drop]
theorem bt_nat (s : ByteArray) (j : Nat) (h : j < s.size) : bt s (j : Int) = ((bts s).getD j 0 : Nat) := by
  rw [← bt_at s (j : Int) (by rw [Int.toNat_natCast]; exact h), bts, List.getD_eq_getElem?_getD, List.getElem?_map, Array.getElem?_toList]
  have h' : j < s.data.size := h
  rw [Array.getElem?_eq_getElem h']
  rfl
theorem word_eq (s : ByteArray) (i : Nat) (h : 4 * i + 4 ≤ s.size) : sum_word.f (s.extract (4 * i) s.size) = some ((word (bts s) i : Nat) : Int) := by
  unfold sum_word.f
  have hs : (s.extract (4 * i) s.size).size = s.size - 4 * i := by rw [ByteArray.size_extract]; omega
  have hb (j : Nat) (hj : j < 4) : bt (s.extract (4 * i) s.size) (j : Int) = ((bts s).getD (4 * i + j) 0 : Nat) := by
    rw [bt_nat _ j (by omega), bts_extract]
    simp only [List.getD_eq_getElem?_getD]
    rw [List.getElem?_take, if_pos (by omega), List.getElem?_drop]
  have g : ∀ j, (bts s).getD j 0 < 256 := fun j => by
    rw [List.getD_eq_getElem?_getD]
    cases e : (bts s)[j]? with
    | none => simp
    | some x => simpa using bts_lt s x (List.mem_of_getElem? e)
  have b0 := hb 0 (by decide)
  have b1 := hb 1 (by decide)
  have b2 := hb 2 (by decide)
  have b3 := hb 3 (by decide)
  rw [show ((0 : Nat) : Int) = 0 from rfl, Nat.add_zero] at b0
  rw [show ((1 : Nat) : Int) = 1 from rfl] at b1
  rw [show ((2 : Nat) : Int) = 2 from rfl] at b2
  rw [show ((3 : Nat) : Int) = 3 from rfl] at b3
  rw [if_pos (by omega), if_pos (by omega), if_pos (by omega), if_pos (by omega), b0, b1, b2, b3]
  have g0 := g (4 * i)
  have g1 := g (4 * i + 1)
  have g2 := g (4 * i + 2)
  have g3 := g (4 * i + 3)
  unfold word
  generalize (bts s).getD (4 * i) 0 = x0 at *
  generalize (bts s).getD (4 * i + 1) 0 = x1 at *
  generalize (bts s).getD (4 * i + 2) 0 = x2 at *
  generalize (bts s).getD (4 * i + 3) 0 = x3 at *
  clear b0 b1 b2 b3 hb hs g h
  have e0 : (x0 : Int) % 4294967296 * 16777216 % 4294967296 = ((x0 * 16777216 : Nat) : Int) := by omega
  have e1 : (x1 : Int) % 4294967296 * 65536 % 4294967296 = ((x1 * 65536 : Nat) : Int) := by omega
  have e2 : (x2 : Int) % 4294967296 * 256 % 4294967296 = ((x2 * 256 : Nat) : Int) := by omega
  have e3 : (x3 : Int) % 4294967296 = (x3 : Int) := by omega
  have o1 : x0 * 16777216 ||| x1 * 65536 = x0 * 16777216 + x1 * 65536 := or_add x0 (x1 * 65536) 24 (by omega)
  have o2 : x0 * 16777216 + x1 * 65536 ||| x2 * 256 = x0 * 16777216 + x1 * 65536 + x2 * 256 := by
    have := or_add (x0 * 256 + x1) (x2 * 256) 16 (by omega)
    rw [show (x0 * 256 + x1) * 2 ^ 16 = x0 * 16777216 + x1 * 65536 by omega] at this; exact this
  have o3 : x0 * 16777216 + x1 * 65536 + x2 * 256 ||| x3 = x0 * 16777216 + x1 * 65536 + x2 * 256 + x3 := by
    have := or_add (x0 * 65536 + x1 * 256 + x2) x3 8 (by omega)
    rw [show (x0 * 65536 + x1 * 256 + x2) * 2 ^ 8 = x0 * 16777216 + x1 * 65536 + x2 * 256 by omega] at this; exact this
  rw [e0, e1, e2, e3, or_nat _ _ (by omega) (by omega), o1, or_nat _ _ (by omega) (by omega), o2, or_nat _ _ (by omega) (by omega), o3]
end Go.Proofs.Ytggmjfonhcinhaa.ShaL
end ShaF_
section GrpDiv_
namespace Go.Proofs.Ytggmjfonhcinhaa.Grp
set_option linter.unusedVariables false
open Go.RowKit Go.Proofs.Ytggmjfonhcinhaa.P Go.Proofs.YtggmjfonhcinhaaW.PrintWords Go.Proofs.YtggmjfonhcinhaaW.PrintLast Go.Proofs.YtggmjfonhcinhaaW.PrintMore
theorem wu (n : Int) : IntKind.u64.wrap n = n % 18446744073709551616 := IntKind.wrap_u64 n
theorem wu_in (n : Int) (h0 : 0 ≤ n) (h : n < 18446744073709551616) : IntKind.u64.wrap n = n := by rw [wu]; exact Int.emod_eq_of_lt h0 h
theorem ex_snd {a b c : Int} (h : b = c) : ∃ x, (some (a, b) : Option (Int × Int)) = some (x, c) := ⟨a, by rw [h]⟩
/-- the divisor is one of the two, shifted to the left by three bits -/
def Two (D y0 : Int) : Prop := (D = 18446744073709551608 ∧ y0 = 4294967288) ∨ (D = 18446744073709551600 ∧ y0 = 4294967280)
theorem rest_eq {D y0 u x q : Int} (hD : Two D y0) (h1 : q * D ≤ u * 4294967296 + x) (h2 : u * 4294967296 + x < q * D + D) :
    IntKind.u64.wrap ((IntKind.u64.wrap ((IntKind.u64.wrap (u * 4294967296)) + x)) - (IntKind.u64.wrap (q * D))) = (u * 4294967296 + x) % D := by
  simp only [wu]
  rcases hD with ⟨rfl, rfl⟩ | ⟨rfl, rfl⟩ <;> omega
/-- the lower digit, where the loop ends in this round -/
theorem l1_end {D y0 : Int} (hD : Two D y0) (k : Nat) (x15 : Int) {u x r q : Int} (hu0 : 0 ≤ u) (hu : u < D) (hx0 : 0 ≤ x) (hx : x < 4294967296) (hq : q * 4294967295 + r = u) (hq0 : 0 ≤ q)
    (hr1 : 1 ≤ r) (hr : r < 4294967296) (ho : r * 4294967296 + x - q * y0 < D) :
    ∃ a, bits_Div64.l1 (k + 2) D 3 4294967295 y0 x x15 r u q = some (a, (u * 4294967296 + x) % D / 8) := by
  rw [show k + 2 = (k + 1) + 1 from rfl]
  unfold bits_Div64.l1
  by_cases c1 : q ≥ 4294967296
  · rw [if_pos c1]
    unfold bits_Div64.j4
    have hw : IntKind.u64.wrap (r + 4294967295) = r + 4294967295 := wu_in _ (by omega) (by omega)
    have hw2 : IntKind.u64.wrap (q - 1) = q - 1 := wu_in _ (by omega) (by rcases hD with ⟨rfl, rfl⟩ | ⟨rfl, rfl⟩ <;> omega)
    rw [if_pos rfl, hw, if_pos (by omega), if_pos (by omega), hw2]
    exact ex_snd (by rw [rest_eq hD (by rcases hD with ⟨rfl, rfl⟩ | ⟨rfl, rfl⟩ <;> omega) (by rcases hD with ⟨rfl, rfl⟩ | ⟨rfl, rfl⟩ <;> omega)]; rfl)
  · rw [if_neg c1]
    unfold bits_Div64.j4
    have hw : IntKind.u64.wrap (r + 4294967295) = r + 4294967295 := wu_in _ (by omega) (by omega)
    have ha : IntKind.u64.wrap (q * y0) = q * y0 := wu_in _ (by rcases hD with ⟨rfl, rfl⟩ | ⟨rfl, rfl⟩ <;> omega) (by rcases hD with ⟨rfl, rfl⟩ | ⟨rfl, rfl⟩ <;> omega)
    have hb : IntKind.u64.wrap ((IntKind.u64.wrap (4294967296 * r)) + x) = 4294967296 * r + x := by
      rw [wu_in (4294967296 * r) (by omega) (by omega)]; exact wu_in _ (by omega) (by omega)
    rw [ha, hb]
    by_cases c2 : q * y0 > 4294967296 * r + x
    · have hq1 : 1 ≤ q := by
        rcases hD with ⟨rfl, rfl⟩ | ⟨rfl, rfl⟩ <;> omega
      have hw2 : IntKind.u64.wrap (q - 1) = q - 1 := wu_in _ (by omega) (by omega)
      rw [decide_eq_true c2, if_pos rfl, hw, if_pos (by omega), if_pos (by omega), hw2]
      exact ex_snd (by rw [rest_eq hD (by rcases hD with ⟨rfl, rfl⟩ | ⟨rfl, rfl⟩ <;> omega) (by rcases hD with ⟨rfl, rfl⟩ | ⟨rfl, rfl⟩ <;> omega)]; rfl)
    · rw [decide_eq_false c2, if_neg (by simp), if_pos (by omega)]
      exact ex_snd (by rw [rest_eq hD (by rcases hD with ⟨rfl, rfl⟩ | ⟨rfl, rfl⟩ <;> omega) (by rcases hD with ⟨rfl, rfl⟩ | ⟨rfl, rfl⟩ <;> omega)]; rfl)
/-- the lower digit -/
theorem l1_ok {D y0 : Int} (hD : Two D y0) (k : Nat) (x15 : Int) {u x r q : Int} (hu0 : 0 ≤ u) (hu : u < D) (hx0 : 0 ≤ x) (hx : x < 4294967296) (hq : q * 4294967295 + r = u) (hq0 : 0 ≤ q)
    (hr0 : 0 ≤ r) (hr : r < 4294967295) :
    ∃ a, bits_Div64.l1 (k + 4) D 3 4294967295 y0 x x15 r u q = some (a, (u * 4294967296 + x) % D / 8) := by
  have ho : r * 4294967296 + x - q * y0 < D := by
    rcases hD with ⟨rfl, rfl⟩ | ⟨rfl, rfl⟩ <;> omega
  by_cases h1 : 1 ≤ r
  · exact l1_end hD (k + 2) x15 hu0 hu hx0 hx hq hq0 h1 (by omega) ho
  · obtain rfl : r = 0 := by omega
    have fin : ∀ q', q' = q - 1 → q * y0 > x → 1 ≤ q → ∃ a, bits_Div64.l1 (k + 2) D 3 4294967295 y0 x x15 4294967295 u q' = some (a, (u * 4294967296 + x) % D / 8) := by
      rintro q' rfl hgt hq1
      exact l1_end hD k x15 hu0 hu hx0 hx (by omega) (by omega) (by omega) (by omega) (by rcases hD with ⟨rfl, rfl⟩ | ⟨rfl, rfl⟩ <;> omega)
    have hw : IntKind.u64.wrap (0 + 4294967295) = 4294967295 := by rw [wu]; decide
    rw [show k + 4 = (k + 2 + 1) + 1 from rfl]
    unfold bits_Div64.l1
    by_cases c1 : q ≥ 4294967296
    · rw [if_pos c1]
      unfold bits_Div64.j4
      have hw2 : IntKind.u64.wrap (q - 1) = q - 1 := wu_in _ (by omega) (by rcases hD with ⟨rfl, rfl⟩ | ⟨rfl, rfl⟩ <;> omega)
      rw [if_pos rfl, hw, if_neg (by omega), hw2]
      exact fin _ rfl (by rcases hD with ⟨rfl, rfl⟩ | ⟨rfl, rfl⟩ <;> omega) (by omega)
    · rw [if_neg c1]
      unfold bits_Div64.j4
      have ha : IntKind.u64.wrap (q * y0) = q * y0 := wu_in _ (by rcases hD with ⟨rfl, rfl⟩ | ⟨rfl, rfl⟩ <;> omega) (by rcases hD with ⟨rfl, rfl⟩ | ⟨rfl, rfl⟩ <;> omega)
      have hb : IntKind.u64.wrap ((IntKind.u64.wrap (4294967296 * 0)) + x) = x := by
        rw [wu_in (4294967296 * 0) (by omega) (by omega), wu_in _ (by omega) (by omega)]; omega
      rw [ha, hb]
      by_cases c2 : q * y0 > x
      · have hq1 : 1 ≤ q := by
          rcases hD with ⟨rfl, rfl⟩ | ⟨rfl, rfl⟩ <;> omega
        have hw2 : IntKind.u64.wrap (q - 1) = q - 1 := wu_in _ (by omega) (by omega)
        rw [decide_eq_true c2, if_pos rfl, hw, if_neg (by omega), hw2]
        exact fin _ rfl c2 hq1
      · rw [decide_eq_false c2, if_neg (by simp), if_pos (by omega)]
        exact ex_snd (by rw [rest_eq hD (by rcases hD with ⟨rfl, rfl⟩ | ⟨rfl, rfl⟩ <;> omega) (by rcases hD with ⟨rfl, rfl⟩ | ⟨rfl, rfl⟩ <;> omega)]; rfl)
/-- between the digits -/
theorem j2_ok {D y0 : Int} (hD : Two D y0) (k : Nat) {u x x14 q : Int} (hu0 : 0 ≤ u) (hu : u < D) (hx0 : 0 ≤ x) (hx : x < 4294967296) (h140 : 0 ≤ x14) (h14 : x14 < 4294967296)
    (h1 : q * D ≤ u * 4294967296 + x) (h2 : u * 4294967296 + x < q * D + D) :
    ∃ a, bits_Div64.j2 (k + 5) D 3 4294967295 y0 u x x14 q = some (a, ((u * 4294967296 + x) % D * 4294967296 + x14) % D / 8) := by
  rw [show k + 5 = (k + 4) + 1 from rfl, bits_Div64.j2]
  rw [if_neg (by decide), rest_eq hD h1 h2]
  have hv0 : 0 ≤ (u * 4294967296 + x) % D := by rcases hD with ⟨rfl, rfl⟩ | ⟨rfl, rfl⟩ <;> omega
  have hv : (u * 4294967296 + x) % D < D := by rcases hD with ⟨rfl, rfl⟩ | ⟨rfl, rfl⟩ <;> omega
  have hD64 : D < 18446744073709551616 := by rcases hD with ⟨rfl, rfl⟩ | ⟨rfl, rfl⟩ <;> omega
  generalize (u * 4294967296 + x) % D = v at hv0 hv ⊢
  rw [Int.tdiv_eq_ediv_of_nonneg hv0, wu_in (v / 4294967295) (by omega) (by omega), wu_in (v / 4294967295 * 4294967295) (by omega) (by omega), wu_in (v - v / 4294967295 * 4294967295) (by omega) (by omega)]
  exact l1_ok hD k _ hv0 hv h140 h14 (by omega) (by omega) (by omega) (by omega)
theorem l0_end {D y0 : Int} (hD : Two D y0) (k : Nat) {u x x14 r q : Int} (hu0 : 0 ≤ u) (hu : u < D) (hx0 : 0 ≤ x) (hx : x < 4294967296) (h140 : 0 ≤ x14) (h14 : x14 < 4294967296) (hq : q * 4294967295 + r = u) (hq0 : 0 ≤ q)
    (hr1 : 1 ≤ r) (hr : r < 4294967296) (ho : r * 4294967296 + x - q * y0 < D) :
    ∃ a, bits_Div64.l0 (k + 7) D 3 4294967295 y0 u x x14 q r = some (a, ((u * 4294967296 + x) % D * 4294967296 + x14) % D / 8) := by
  rw [show k + 7 = (k + 5 + 1) + 1 from rfl]
  unfold bits_Div64.l0
  have hw : IntKind.u64.wrap (r + 4294967295) = r + 4294967295 := wu_in _ (by omega) (by omega)
  by_cases c1 : q ≥ 4294967296
  · rw [if_pos c1]
    unfold bits_Div64.j1
    have hw2 : IntKind.u64.wrap (q - 1) = q - 1 := wu_in _ (by omega) (by rcases hD with ⟨rfl, rfl⟩ | ⟨rfl, rfl⟩ <;> omega)
    rw [if_pos rfl, hw, if_pos (by omega), hw2]
    exact j2_ok hD k hu0 hu hx0 hx h140 h14 (by rcases hD with ⟨rfl, rfl⟩ | ⟨rfl, rfl⟩ <;> omega) (by rcases hD with ⟨rfl, rfl⟩ | ⟨rfl, rfl⟩ <;> omega)
  · rw [if_neg c1]
    unfold bits_Div64.j1
    have ha : IntKind.u64.wrap (q * y0) = q * y0 := wu_in _ (by rcases hD with ⟨rfl, rfl⟩ | ⟨rfl, rfl⟩ <;> omega) (by rcases hD with ⟨rfl, rfl⟩ | ⟨rfl, rfl⟩ <;> omega)
    have hb : IntKind.u64.wrap ((IntKind.u64.wrap (4294967296 * r)) + x) = 4294967296 * r + x := by
      rw [wu_in (4294967296 * r) (by omega) (by omega)]; exact wu_in _ (by omega) (by omega)
    rw [ha, hb]
    by_cases c2 : q * y0 > 4294967296 * r + x
    · have hq1 : 1 ≤ q := by
        rcases hD with ⟨rfl, rfl⟩ | ⟨rfl, rfl⟩ <;> omega
      have hw2 : IntKind.u64.wrap (q - 1) = q - 1 := wu_in _ (by omega) (by omega)
      rw [decide_eq_true c2, if_pos rfl, hw, if_pos (by omega), hw2]
      exact j2_ok hD k hu0 hu hx0 hx h140 h14 (by rcases hD with ⟨rfl, rfl⟩ | ⟨rfl, rfl⟩ <;> omega) (by rcases hD with ⟨rfl, rfl⟩ | ⟨rfl, rfl⟩ <;> omega)
    · rw [decide_eq_false c2, if_neg (by simp)]
      exact j2_ok hD k hu0 hu hx0 hx h140 h14 (by rcases hD with ⟨rfl, rfl⟩ | ⟨rfl, rfl⟩ <;> omega) (by rcases hD with ⟨rfl, rfl⟩ | ⟨rfl, rfl⟩ <;> omega)
theorem l0_ok {D y0 : Int} (hD : Two D y0) (k : Nat) {u x x14 r q : Int} (hu0 : 0 ≤ u) (hu : u < D) (hx0 : 0 ≤ x) (hx : x < 4294967296) (h140 : 0 ≤ x14) (h14 : x14 < 4294967296) (hq : q * 4294967295 + r = u) (hq0 : 0 ≤ q)
    (hr0 : 0 ≤ r) (hr : r < 4294967295) :
    ∃ a, bits_Div64.l0 (k + 9) D 3 4294967295 y0 u x x14 q r = some (a, ((u * 4294967296 + x) % D * 4294967296 + x14) % D / 8) := by
  have ho : r * 4294967296 + x - q * y0 < D := by
    rcases hD with ⟨rfl, rfl⟩ | ⟨rfl, rfl⟩ <;> omega
  by_cases h1 : 1 ≤ r
  · exact l0_end hD (k + 2) hu0 hu hx0 hx h140 h14 hq hq0 h1 (by omega) ho
  · obtain rfl : r = 0 := by omega
    have fin : ∀ q', q' = q - 1 → q * y0 > x → 1 ≤ q → ∃ a, bits_Div64.l0 (k + 7) D 3 4294967295 y0 u x x14 q' 4294967295 = some (a, ((u * 4294967296 + x) % D * 4294967296 + x14) % D / 8) := by
      rintro q' rfl hgt hq1
      exact l0_end hD k hu0 hu hx0 hx h140 h14 (by omega) (by omega) (by omega) (by omega) (by rcases hD with ⟨rfl, rfl⟩ | ⟨rfl, rfl⟩ <;> omega)
    have hw : IntKind.u64.wrap (0 + 4294967295) = 4294967295 := by rw [wu]; decide
    rw [show k + 9 = (k + 7 + 1) + 1 from rfl]
    unfold bits_Div64.l0
    by_cases c1 : q ≥ 4294967296
    · rw [if_pos c1]
      unfold bits_Div64.j1
      have hw2 : IntKind.u64.wrap (q - 1) = q - 1 := wu_in _ (by omega) (by rcases hD with ⟨rfl, rfl⟩ | ⟨rfl, rfl⟩ <;> omega)
      rw [if_pos rfl, hw, if_neg (by omega), hw2]
      exact fin _ rfl (by rcases hD with ⟨rfl, rfl⟩ | ⟨rfl, rfl⟩ <;> omega) (by omega)
    · rw [if_neg c1]
      unfold bits_Div64.j1
      have ha : IntKind.u64.wrap (q * y0) = q * y0 := wu_in _ (by rcases hD with ⟨rfl, rfl⟩ | ⟨rfl, rfl⟩ <;> omega) (by rcases hD with ⟨rfl, rfl⟩ | ⟨rfl, rfl⟩ <;> omega)
      have hb : IntKind.u64.wrap ((IntKind.u64.wrap (4294967296 * 0)) + x) = x := by
        rw [wu_in (4294967296 * 0) (by omega) (by omega), wu_in _ (by omega) (by omega)]; omega
      rw [ha, hb]
      by_cases c2 : q * y0 > x
      · have hq1 : 1 ≤ q := by
          rcases hD with ⟨rfl, rfl⟩ | ⟨rfl, rfl⟩ <;> omega
        have hw2 : IntKind.u64.wrap (q - 1) = q - 1 := wu_in _ (by omega) (by omega)
        rw [decide_eq_true c2, if_pos rfl, hw, if_neg (by omega), hw2]
        exact fin _ rfl c2 hq1
      · rw [decide_eq_false c2, if_neg (by simp)]
        exact j2_ok hD (k + 2) hu0 hu hx0 hx h140 h14 (by rcases hD with ⟨rfl, rfl⟩ | ⟨rfl, rfl⟩ <;> omega) (by rcases hD with ⟨rfl, rfl⟩ | ⟨rfl, rfl⟩ <;> omega)
end Go.Proofs.Ytggmjfonhcinhaa.Grp
end GrpDiv_
section NumS_
namespace Go.Proofs.Ytggmjfonhcinhaa.NumS
open Go.RowKit Go.Proofs.Ytggmjfonhcinhaa.P Go.Proofs.Ytggmjfonhcinhaa.ShaL Go.Proofs.YtggmjfonhcinhaaW.PrintWords Go.Proofs.YtggmjfonhcinhaaW.PrintLast
set_option linter.unusedVariables false
/-- the first i bytes as a number, the most significant first (0 behind the end) -/
def beTo (l : List Nat) : Nat → Nat
  | 0 => 0
  | i + 1 => beTo l i * 256 + l.getD i 0
theorem beTo_lt (l : List Nat) (h : ∀ j, l.getD j 0 < 256) (i : Nat) : beTo l i < 256 ^ i := by
  induction i with
  | zero => exact Nat.one_pos
  | succ i ih => rw [beTo, Nat.pow_succ]; have := h i; omega
theorem bts_get (s : ByteArray) (i : Nat) : (bts s).getD i 0 < 256 := by
  rw [List.getD_eq_getElem?_getD]
  cases e : (bts s)[i]? with
  | none => simp
  | some x => simpa using bts_lt s x (List.mem_of_getElem? e)
theorem or64 (a b : Nat) (ha : a < 72057594037927936) (hb : b < 256) : Go.bits .or .u64 (IntKind.u64.wrap ((a : Int) * 256)) (IntKind.u64.wrap (b : Int)) = ((a * 256 + b : Nat) : Int) := by
  rw [IntKind.wrap_u64, IntKind.wrap_u64, show ((a : Int) * 256) % 18446744073709551616 = ((a * 256 : Nat) : Int) by omega, show (b : Int) % 18446744073709551616 = (b : Int) by omega, u64_or_nat _ _ (by omega) (by omega)]
  congr 1
  have := Nat.two_pow_add_eq_or_of_lt (i := 8) (b := b) (by omega) a
  rw [Nat.mul_comm] at this
  exact this.symm
theorem num_l0 (s : ByteArray) (m : Nat) : ∀ (k i : Nat), i + m = 8 → m + 1 ≤ k → sum_Num.l0 k s ((beTo (bts s) i : Nat) : Int) (i : Int) = some (((beTo (bts s) 8) / 8 : Nat) : Int) := by
  induction m with
  | zero =>
    intro k i hi hk
    obtain ⟨k, rfl⟩ : ∃ k', k = k' + 1 := ⟨k - 1, by omega⟩
    obtain rfl : i = 8 := by omega
    have := beTo_lt (bts s) (bts_get s) 8
    rw [sum_Num.l0, if_neg (by omega)]
    congr 1
    rw [wrap64]; omega
  | succ m ih =>
    intro k i hi hk
    obtain ⟨k, rfl⟩ : ∃ k', k = k' + 1 := ⟨k - 1, by omega⟩
    have hb := beTo_lt (bts s) (bts_get s) i
    have hb7 : beTo (bts s) i < 72057594037927936 := Nat.lt_of_lt_of_le hb (Nat.pow_le_pow_right (n := 256) (by decide) (show i ≤ 7 by omega))
    have hw : wrap64 ((i : Int) + 1) = ((i + 1 : Nat) : Int) := by rw [wrap64]; omega
    have := ih k (i + 1) (by omega) (by omega)
    rw [sum_Num.l0, if_pos (by omega), hw]
    by_cases hs : (i : Int) < (s.size : Int)
    · rw [if_pos hs, if_pos (by omega), bt_nat s i (by omega), or64 _ _ hb7 (bts_get s i)]
      exact this
    · have hz : (bts s).getD i 0 = 0 := by
        rw [List.getD_eq_getElem?_getD, List.getElem?_eq_none (by rw [bts_length]; omega)]; rfl
      rw [if_neg hs, IntKind.wrap_u64, show ((beTo (bts s) i : Nat) : Int) * 256 % 18446744073709551616 = ((beTo (bts s) i * 256 : Nat) : Int) by omega]
      rw [beTo, hz, Nat.add_zero] at this
      exact this
/-- the number of a string -/
def numN (l : List Nat) : Nat := beTo l 8 / 8
theorem num_at (s : ByteArray) (k : Nat) (hk : 10 ≤ k) : sum_Num.f k s = some ((numN (bts s) : Nat) : Int) := num_l0 s 8 k 0 (by omega) (by omega)
end Go.Proofs.Ytggmjfonhcinhaa.NumS
end NumS_
