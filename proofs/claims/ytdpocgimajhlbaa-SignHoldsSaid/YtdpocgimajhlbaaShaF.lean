/- The words and rotations of package sum, as numbers. -/
import Derived.Test.YtdpocgimajhlbaaP4
import Derived.Test.YtdpocgimajhlbaaShaL
import Derived.Laws.BitsAllLaws
namespace Go.Proofs.Ytdpocgimajhlbaa.ShaL
open Go.RowKit Go.Proofs.Ytdpocgimajhlbaa.P Go.Proofs.YtdpocgimajhlbaaW.PrintWords Go.Proofs.YtdpocgimajhlbaaW.PrintLast Go.Proofs.YtdpocgimajhlbaaW.PrintMore
set_option linter.unusedVariables false

theorem or_nat (a b : Nat) (ha : a < 4294967296) (hb : b < 4294967296) : Go.bits .or .u32 (a : Int) (b : Int) = ((a ||| b : Nat) : Int) := u32_or_nat a b ha hb
theorem xor_nat (a b : Nat) (ha : a < 4294967296) (hb : b < 4294967296) : Go.bits .xor .u32 (a : Int) (b : Int) = ((a ^^^ b : Nat) : Int) := u32_xor_nat a b ha hb
theorem and_nat (a b : Nat) (ha : a < 4294967296) (hb : b < 4294967296) : Go.bits .and .u32 (a : Int) (b : Int) = ((a &&& b : Nat) : Int) := u32_and_nat a b ha hb

/-- bits.RotateLeft32 by a negative count -/
theorem rot_eq (x n : Nat) (hx : x < 4294967296) (h0 : 0 < n) (hn : n < 32) : bits_RotateLeft32.f x (-(n : Int)) = some ((rotr x n : Nat) : Int) := by
  unfold bits_RotateLeft32.f
  have e1 : Go.bits .and .u64 (IntKind.u64.wrap (-(n : Int))) 31 = ((32 - n : Nat) : Int) := by
    rw [IntKind.wrap_u64, show (-(n : Int)) % 18446744073709551616 = ((18446744073709551616 - n : Nat) : Int) by omega, u64_and _ 31 (by omega) (by omega) (by omega) (by omega), Int.toNat_natCast,
      show (31 : Int).toNat = 2 ^ 5 - 1 from rfl, Nat.and_two_pow_sub_one_eq_mod]
    omega
  have e2 : IntKind.u64.wrap (32 - ((32 - n : Nat) : Int)) = (n : Int) := by rw [IntKind.wrap_u64]; omega
  rw [e1, e2, if_pos (by omega), if_pos (by omega)]
  have e3 : shl .u32 (x : Int) ((32 - n : Nat) : Int) = (((x <<< (32 - n)) % 4294967296 : Nat) : Int) := by
    unfold shl
    rw [Int.toNat_natCast, show min (32 - n) IntKind.u32.bits = 32 - n by have : IntKind.u32.bits = 32 := rfl; omega, IntKind.wrap_u32', Nat.shiftLeft_eq]
    simp only [Int.natCast_emod, Int.natCast_mul, Int.natCast_pow]; rfl
  have e4 : shr .u32 (x : Int) (n : Int) = ((x >>> n : Nat) : Int) := by
    unfold shr
    rw [Int.toNat_natCast, show min n IntKind.u32.bits = n by have : IntKind.u32.bits = 32 := rfl; omega, Nat.shiftRight_eq_div_pow]
    simp only [Int.natCast_ediv, Int.natCast_pow]; rfl
  rw [e3, e4, or_nat _ _ (Nat.mod_lt _ (by decide)) (Nat.lt_of_le_of_lt (Nat.shiftRight_le x n) hx)]
  unfold rotr; rw [Nat.or_comm]

theorem rots_eq (x a b c : Nat) (hx : x < 4294967296) (ha : 0 < a ∧ a < 32) (hb : 0 < b ∧ b < 32) (hc : 0 < c ∧ c < 32) :
    sum_rotations.f x a b c = some ((rotr x a ^^^ rotr x b ^^^ rotr x c : Nat) : Int) := by
  unfold sum_rotations.f
  have w (n : Nat) (h : n < 32) : wrap64 (-(n : Int)) = -(n : Int) := by unfold wrap64; omega
  rw [w a ha.2, w b hb.2, w c hc.2, rot_eq x a hx ha.1 ha.2, Option.bind_some, rot_eq x b hx hb.1 hb.2, Option.bind_some, rot_eq x c hx hc.1 hc.2, Option.bind_some,
    xor_nat _ _ (rotr_lt _ _ hx) (rotr_lt _ _ hx), xor_nat _ _ (xor_lt _ _ (rotr_lt _ _ hx) (rotr_lt _ _ hx)) (rotr_lt _ _ hx)]

theorem or_add (a b k : Nat) (hb : b < 2 ^ k) : a * 2 ^ k ||| b = a * 2 ^ k + b := by
  rw [Nat.mul_comm, ← Nat.two_pow_add_eq_or_of_lt hb]

/-- a string's bytes as numbers -/
def bts (s : ByteArray) : List Nat := s.data.toList.map UInt8.toNat
theorem bts_length (s : ByteArray) : (bts s).length = s.size := by rw [bts, List.length_map, Array.length_toList]; rfl
theorem bts_lt (s : ByteArray) : ∀ n ∈ bts s, n < 256 := by
  intro n hn
  rw [bts, List.mem_map] at hn
  obtain ⟨b, _, rfl⟩ := hn
  exact b.toNat_lt
theorem bts_extract (s : ByteArray) (a b : Nat) : bts (s.extract a b) = ((bts s).drop a).take (b - a) := by
  unfold bts
  rw [ByteArray.data_extract, Array.toList_extract, List.extract_eq_take_drop, List.map_take, List.map_drop]

theorem bt_nat (s : ByteArray) (j : Nat) (h : j < s.size) : bt s (j : Int) = ((bts s).getD j 0 : Nat) := by
  rw [← bt_at s (j : Int) (by rw [Int.toNat_natCast]; exact h), bts, List.getD_eq_getElem?_getD, List.getElem?_map, Array.getElem?_toList]
  have h' : j < s.data.size := h
  rw [Array.getElem?_eq_getElem h']
  rfl

theorem word_eq (s : ByteArray) (i : Nat) (h : 4 * i + 4 ≤ s.size) : sum_word.f (s.extract (4 * i) s.size) = some ((word (bts s) i : Nat) : Int) := by
  unfold sum_word.f
  have hs : (s.extract (4 * i) s.size).size = s.size - 4 * i := by rw [ByteArray.size_extract]; omega
  have hb (j : Nat) (hj : j < 4) : bt (s.extract (4 * i) s.size) (j : Int) = ((bts s).getD (4 * i + j) 0 : Nat) := by
    rw [bt_nat _ j (by omega), bts_extract]
    simp only [List.getD_eq_getElem?_getD]
    rw [List.getElem?_take, if_pos (by omega), List.getElem?_drop]
  have g : ∀ j, (bts s).getD j 0 < 256 := fun j => by
    rw [List.getD_eq_getElem?_getD]
    cases e : (bts s)[j]? with
    | none => simp
    | some x => simpa using bts_lt s x (List.mem_of_getElem? e)
  have b0 := hb 0 (by decide)
  have b1 := hb 1 (by decide)
  have b2 := hb 2 (by decide)
  have b3 := hb 3 (by decide)
  rw [show ((0 : Nat) : Int) = 0 from rfl, Nat.add_zero] at b0
  rw [show ((1 : Nat) : Int) = 1 from rfl] at b1
  rw [show ((2 : Nat) : Int) = 2 from rfl] at b2
  rw [show ((3 : Nat) : Int) = 3 from rfl] at b3
  rw [if_pos (by omega), if_pos (by omega), if_pos (by omega), if_pos (by omega), b0, b1, b2, b3]
  have g0 := g (4 * i)
  have g1 := g (4 * i + 1)
  have g2 := g (4 * i + 2)
  have g3 := g (4 * i + 3)
  unfold word
  generalize (bts s).getD (4 * i) 0 = x0 at *
  generalize (bts s).getD (4 * i + 1) 0 = x1 at *
  generalize (bts s).getD (4 * i + 2) 0 = x2 at *
  generalize (bts s).getD (4 * i + 3) 0 = x3 at *
  clear b0 b1 b2 b3 hb hs g h
  have e0 : (x0 : Int) % 4294967296 * 16777216 % 4294967296 = ((x0 * 16777216 : Nat) : Int) := by omega
  have e1 : (x1 : Int) % 4294967296 * 65536 % 4294967296 = ((x1 * 65536 : Nat) : Int) := by omega
  have e2 : (x2 : Int) % 4294967296 * 256 % 4294967296 = ((x2 * 256 : Nat) : Int) := by omega
  have e3 : (x3 : Int) % 4294967296 = (x3 : Int) := by omega
  have o1 : x0 * 16777216 ||| x1 * 65536 = x0 * 16777216 + x1 * 65536 := or_add x0 (x1 * 65536) 24 (by omega)
  have o2 : x0 * 16777216 + x1 * 65536 ||| x2 * 256 = x0 * 16777216 + x1 * 65536 + x2 * 256 := by
    have := or_add (x0 * 256 + x1) (x2 * 256) 16 (by omega)
    rw [show (x0 * 256 + x1) * 2 ^ 16 = x0 * 16777216 + x1 * 65536 by omega] at this; exact this
  have o3 : x0 * 16777216 + x1 * 65536 + x2 * 256 ||| x3 = x0 * 16777216 + x1 * 65536 + x2 * 256 + x3 := by
    have := or_add (x0 * 65536 + x1 * 256 + x2) x3 8 (by omega)
    rw [show (x0 * 65536 + x1 * 256 + x2) * 2 ^ 8 = x0 * 16777216 + x1 * 65536 + x2 * 256 by omega] at this; exact this
  rw [e0, e1, e2, e3, or_nat _ _ (by omega) (by omega), o1, or_nat _ _ (by omega) (by omega), o2, or_nat _ _ (by omega) (by omega), o3]
end Go.Proofs.Ytdpocgimajhlbaa.ShaL
