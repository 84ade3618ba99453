/- Texts of this claim, merged: what the functions that the law reaches compute, and what that says. -/
import Derived.Deep.LoopGhost
import Derived.Lib.Hide
import Derived.Test.YtggmjfonhcinhaaKB8
section Pad_
namespace Go.Proofs.Ytggmjfonhcinhaa.Bld
open Go.RowKit
set_option linter.unusedVariables false
theorem lenAt (B b : Nat) (bs : List Value) (m : Nat) (w : World) (h : Lib.IsBuilder 64 5 B b bs w) (hm : bs.length = m) :
    Calls Try.prog 51 #[.pointer (some ⟨b, 0, none⟩)] w fun e w' => e = .returned (.int .i64 m) ∧ w' = w := by
  subst hm; exact Try.Builder_Len B b bs w h
/-- the cells of bytes that are kept as numbers -/
def cellsOf (l : List Nat) : List Value := l.map fun (n : Nat) => Value.int .u8 (n : Int)
theorem cellsOf_length (l : List Nat) : (cellsOf l).length = l.length := by simp [cellsOf]
theorem cellsOf_snoc (l : List Nat) (n : Nat) : cellsOf l ++ [.int .u8 n] = cellsOf (l ++ [n]) := by simp [cellsOf]
theorem cellsOf_str (s : ByteArray) : Lib.strCells s = cellsOf (s.data.toList.map UInt8.toNat) := by simp [cellsOf, Lib.strCells, List.map_map, Function.comp_def]
theorem cellsOf_bytes (l : List Nat) (h : ∀ n ∈ l, n < 256) : cellsOf l = Lib.byteCells (l.map UInt8.ofNat) := by
  simp only [cellsOf, Lib.byteCells, List.map_map]
  refine List.map_congr_left fun n hn => ?_
  have := h n hn
  simp only [Function.comp_apply]
  rw [show (UInt8.ofNat n).toNat = n by rw [UInt8.toNat_ofNat']; omega]
/-- how many zero bytes are laid -/
def zerosFor (n : Nat) : Nat := (119 - n % 64) % 64
theorem zerosFor_le (n : Nat) : zerosFor n < 64 := by unfold zerosFor; omega
/-- the bytes of the length in bits that have been written after i rounds -/
def lenBytes (n i : Nat) : List Nat := (List.range i).map fun k => 8 * n / 2 ^ (56 - 8 * k) % 256
/-- the padded message, as numbers -/
def padL (l : List UInt8) : List Nat := l.map UInt8.toNat ++ [128] ++ List.replicate (zerosFor l.length) 0 ++ lenBytes l.length 8
theorem padL_small (s : ByteArray) : ∀ n ∈ s.data.toList.map UInt8.toNat ++ [128] ++ List.replicate (zerosFor s.size) 0 ++ lenBytes s.size 8, n < 256 := by
  intro n hn
  simp only [List.mem_append, List.mem_map, List.mem_singleton, List.mem_replicate, lenBytes] at hn
  rcases hn with ((⟨b, _, rfl⟩ | rfl) | ⟨_, rfl⟩) | ⟨k, _, rfl⟩
  · exact b.toNat_lt
  · decide
  · decide
  · exact Nat.mod_lt _ (by decide)
set_option maxHeartbeats 2000000 in
set_option maxRecDepth 100000 in
theorem padded (s : ByteArray) (w : World) (hs : s.size ≤ 1099511627776) :
    Calls Try.prog 37 #[.string s] w fun e w' => e = .returned (.string ⟨((padL s.data.toList).map UInt8.ofNat).toArray⟩) ∧ Below w.heap.size w w' := by
  go_enter Try.func37, Try.ntmps37
  go_wp2_with fail
  refine (writeString w.heap.size w.heap.size [] s _ (Lib.fresh_isBuilder _ _ w) (by simp; omega) (by simp)).mono ?_
  rintro e w1 ⟨rfl, h1, hb1⟩
  go_wp2_with fail
  refine (writeByte w.heap.size w.heap.size _ 128 _ (Or.inr h1) (by simp [Lib.strCells_length]; omega) (by have := hb1.size; simp at this; omega)).mono ?_
  rintro e w2 ⟨rfl, h2, hb2⟩
  have hB2 : Below w.heap.size w w2 := ((Below.refl _ _).alloc (Nat.le_refl _) _).trans (hb1.trans hb2)
  rw [List.nil_append, cellsOf_str, show (Value.int .u8 128) = .int .u8 ((128 : Nat) : Int) from rfl, cellsOf_snoc] at h2
  clear h1 hb1 hb2
  go_wp2_with fail
  have hz := zerosFor_le s.size
  go_loopg [9] (zerosFor s.size) (fun kq v9 wr => ∃ j, j + kq = zerosFor s.size ∧ Lib.BuilderAt 64 5 w.heap.size w.heap.size (Value.pointer (some ⟨w.heap.size, 0, none⟩)) (cellsOf (s.data.toList.map UInt8.toNat ++ [128] ++ List.replicate j 0)) wr ∧ Below w.heap.size w wr)
  case atStart => exact ⟨0, by omega, by rw [List.replicate_zero, List.append_nil]; exact h2, hB2⟩
  case round =>
    obtain ⟨j, hj, h3, hb3⟩ := hrel
    have hlen : (cellsOf (s.data.toList.map UInt8.toNat ++ [128] ++ List.replicate j 0)).length = s.size + 1 + j := by
      rw [cellsOf_length]; simp only [List.length_append, List.length_map, List.length_cons, List.length_nil, List.length_replicate, Array.length_toList]; rfl
    have hsz := hb3.size
    clear h2 hB2
    rcases Nat.lt_or_ge j (zerosFor s.size) with hlt | hge
    · have ht : (((s.size : Int) + 1 + (j : Int)) % 64 != 56) = true := by
        rw [bne_iff_ne]; unfold zerosFor at *; omega
      go_wp2_with (go_at_call 51; refine (lenAt _ _ _ (s.size + 1 + j) _ (Or.inr h3) hlen).mono ?_; rintro e w' ⟨rfl, rfl⟩)
      refine (writeByte w.heap.size w.heap.size _ 0 _ (Or.inr h3) (by rw [hlen]; omega) hsz).mono ?_
      rintro e w4 ⟨rfl, h4, hb4⟩
      rw [show (Value.int .u8 0) = .int .u8 ((0 : Nat) : Int) from rfl, cellsOf_snoc] at h4
      go_wp2_with fail
      go_roundg (gk - 1)
      case measure => omega
      case rel => exact ⟨j + 1, by omega, by rw [List.replicate_succ', ← List.append_assoc]; exact h4, hb3.trans hb4⟩
    · obtain rfl : j = zerosFor s.size := by omega
      have ht : (((s.size : Int) + 1 + (zerosFor s.size : Int)) % 64 != 56) = false := by
        rw [bne_eq_false_iff_eq]; unfold zerosFor at *; omega
      go_wp2_with (go_at_call 51; refine (lenAt _ _ _ (s.size + 1 + zerosFor s.size) _ (Or.inr h3) hlen).mono ?_; rintro e w' ⟨rfl, rfl⟩)
      have h5 := h3
      clear h3
      go_loopg [5] 8 (fun kq v5 wr => ∃ i : Nat, i + kq = 8 ∧ v5 = .int .i64 (56 - 8 * (i : Int)) ∧ Lib.BuilderAt 64 5 w.heap.size w.heap.size (Value.pointer (some ⟨w.heap.size, 0, none⟩)) (cellsOf (s.data.toList.map UInt8.toNat ++ [128] ++ List.replicate (zerosFor s.size) 0 ++ lenBytes s.size i)) wr ∧ Below w.heap.size w wr)
      case atStart => exact ⟨0, by omega, by rfl, by rw [show lenBytes s.size 0 = [] from rfl, List.append_nil]; exact h5, hb3⟩
      case round =>
        obtain ⟨i, hi, rfl, h6, hb6⟩ := hrel
        have hlen6 : (cellsOf (s.data.toList.map UInt8.toNat ++ [128] ++ List.replicate (zerosFor s.size) 0 ++ lenBytes s.size i)).length = s.size + 1 + zerosFor s.size + i := by
          rw [cellsOf_length]; simp only [lenBytes, List.length_append, List.length_map, List.length_cons, List.length_nil, List.length_replicate, List.length_range, Array.length_toList]; rfl
        have hsz6 := hb6.size
        clear h5 ht hlen
        by_cases hi8 : i < 8
        · go_wp2_with fail
          refine (writeByte w.heap.size w.heap.size _ _ _ (Or.inr h6) (by rw [hlen6]; omega) hsz6).mono ?_
          rintro e w7 ⟨rfl, h7, hb7⟩
          have hv : ((s.size : Int) * 8 / 2 ^ (56 - 8 * i) % 256) = ((8 * s.size / 2 ^ (56 - 8 * i) % 256 : Nat) : Int) := by
            rw [Int.natCast_emod, Int.natCast_ediv, Int.natCast_mul, Int.natCast_pow, Int.mul_comm]; rfl
          rw [hv, cellsOf_snoc, List.append_assoc _ (lenBytes s.size i), show lenBytes s.size i ++ [8 * s.size / 2 ^ (56 - 8 * i) % 256] = lenBytes s.size (i + 1) by simp [lenBytes, List.range_succ]] at h7
          clear hv
          go_wp2_with fail
          go_roundg (gk - 1)
          case measure => omega
          case rel => exact ⟨i + 1, by omega, by congr 1; omega, h7, hb6.trans hb7⟩
        · obtain rfl : i = 8 := by omega
          go_wp2_with fail
          rw [cellsOf_bytes _ (padL_small s)] at h6
          obtain ⟨L, hL⟩ : ∃ L, List.map UInt8.ofNat (s.data.toList.map UInt8.toNat ++ [128] ++ List.replicate (zerosFor s.size) 0 ++ lenBytes s.size 8) = L := ⟨_, rfl⟩
          rw [hL] at h6
          have HL := Lib.hid hL
          clear hL
          refine (Try.Builder_String_any w.heap.size w.heap.size _ _ (Or.inr h6) hsz6).mono ?_
          rintro e w7 ⟨rfl, hb7⟩
          go_wp2_with fail
          go_ret
          exact ⟨by rw [← HL.out]; rfl, hb6.trans hb7⟩
end Go.Proofs.Ytggmjfonhcinhaa.Bld
end Pad_
