/- Texts of this claim, merged: what the functions that the law reaches compute, and what that says. -/
import Derived.Laws.BitsAllLaws
import Derived.Test.YtkhkppehdgkboaaKB4
import Derived.Test.YtkhkppehdgkboaaKB5
section ShaF_
namespace Go.Proofs.Ytkhkppehdgkboaa.ShaL
open Go.RowKit Go.Proofs.Ytkhkppehdgkboaa.P Go.Proofs.YtkhkppehdgkboaaW.PrintWords Go.Proofs.YtkhkppehdgkboaaW.PrintLast Go.Proofs.YtkhkppehdgkboaaW.PrintMore
set_option linter.unusedVariables false
theorem or_nat (a b : Nat) (ha : a < 4294967296) (hb : b < 4294967296) : Go.bits .or .u32 (a : Int) (b : Int) = ((a ||| b : Nat) : Int) := u32_or_nat a b ha hb
theorem xor_nat (a b : Nat) (ha : a < 4294967296) (hb : b < 4294967296) : Go.bits .xor .u32 (a : Int) (b : Int) = ((a ^^^ b : Nat) : Int) := u32_xor_nat a b ha hb
theorem and_nat (a b : Nat) (ha : a < 4294967296) (hb : b < 4294967296) : Go.bits .and .u32 (a : Int) (b : Int) = ((a &&& b : Nat) : Int) := u32_and_nat a b ha hb
/-- bits.RotateLeft32 by a negative count -/
theorem rot_eq (x n : Nat) (hx : x < 4294967296) (h0 : 0 < n) (hn : n < 32) : bits_RotateLeft32.f x (-(n : Int)) = some ((rotr x n : Nat) : Int) := by
  unfold bits_RotateLeft32.f
  have e1 : Go.bits .and .u64 (IntKind.u64.wrap (-(n : Int))) 31 = ((32 - n : Nat) : Int) := by
    rw [IntKind.wrap_u64, show (-(n : Int)) % 18446744073709551616 = ((18446744073709551616 - n : Nat) : Int) by omega, u64_and _ 31 (by omega) (by omega) (by omega) (by omega), Int.toNat_natCast,
      show (31 : Int).toNat = 2 ^ 5 - 1 from rfl, Nat.and_two_pow_sub_one_eq_mod]
    omega
  have e2 : IntKind.u64.wrap (32 - ((32 - n : Nat) : Int)) = (n : Int) := by rw [IntKind.wrap_u64]; omega
  rw [e1, e2, if_pos (by omega), if_pos (by omega)]
  have e3 : shl .u32 (x : Int) ((32 - n : Nat) : Int) = (((x <<< (32 - n)) % 4294967296 : Nat) : Int) := by
    unfold shl
    rw [Int.toNat_natCast, show min (32 - n) IntKind.u32.bits = 32 - n by have : IntKind.u32.bits = 32 := rfl; omega, IntKind.wrap_u32', Nat.shiftLeft_eq]
    simp only [Int.natCast_emod, Int.natCast_mul, Int.natCast_pow]; rfl
  have e4 : shr .u32 (x : Int) (n : Int) = ((x >>> n : Nat) : Int) := by
    unfold shr
    rw [Int.toNat_natCast, show min n IntKind.u32.bits = n by have : IntKind.u32.bits = 32 := rfl; omega, Nat.shiftRight_eq_div_pow]
    simp only [Int.natCast_ediv, Int.natCast_pow]; rfl
  rw [e3, e4, or_nat _ _ (Nat.mod_lt _ (by decide)) (Nat.lt_of_le_of_lt (Nat.shiftRight_le x n) hx)]
  unfold rotr; rw [Nat.or_comm]
theorem rots_eq (x a b c : Nat) (hx : x < 4294967296) (ha : 0 < a ∧ a < 32) (hb : 0 < b ∧ b < 32) (hc : 0 < c ∧ c < 32) :
    sum_rotations.f x a b c = some ((rotr x a ^^^ rotr x b ^^^ rotr x c : Nat) : Int) := by
  unfold sum_rotations.f
  have w (n : Nat) (h : n < 32) : wrap64 (-(n : Int)) = -(n : Int) := by unfold wrap64; omega
  rw [w a ha.2, w b hb.2, w c hc.2, rot_eq x a hx ha.1 ha.2, Option.bind_some, rot_eq x b hx hb.1 hb.2, Option.bind_some, rot_eq x c hx hc.1 hc.2, Option.bind_some,
    xor_nat _ _ (rotr_lt _ _ hx) (rotr_lt _ _ hx), xor_nat _ _ (xor_lt _ _ (rotr_lt _ _ hx) (rotr_lt _ _ hx)) (rotr_lt _ _ hx)]
theorem or_add (a b k : Nat) (hb : b < 2 ^ k) : a * 2 ^ k ||| b = a * 2 ^ k + b := by
  rw [Nat.mul_comm, ← Nat.two_pow_add_eq_or_of_lt hb]
/-- a string's bytes as numbers -/
def bts (s : ByteArray) : List Nat := s.data.toList.map UInt8.toNat
theorem bts_length (s : ByteArray) : (bts s).length = s.size := by rw [bts, List.length_map, Array.length_toList]; rfl
theorem bts_lt (s : ByteArray) : ∀ n ∈ bts s, n < 256 := by
  intro n hn
  rw [bts, List.mem_map] at hn
  obtain ⟨b, _, rfl⟩ := hn
  exact b.toNat_lt
theorem bts_extract (s : ByteArray) (a b : Nat) : bts (s.extract a b) = ((bts s).drop a).take (b - a) := by
  unfold bts
  rw [ByteArray.data_extract, Array.toList_extract, List.extract_eq_take_drop, List.map_take, List.map_drop]
theorem bt_nat (s : ByteArray) (j : Nat) (h : j < s.size) : bt s (j : Int) = ((bts s).getD j 0 : Nat) := by
  rw [← bt_at s (j : Int) (by rw [Int.toNat_natCast]; exact h), bts, List.getD_eq_getElem?_getD, List.getElem?_map, Array.getElem?_toList]
  have h' : j < s.data.size := h
  rw [Array.getElem?_eq_getElem h']
  rfl
theorem word_eq (s : ByteArray) (i : Nat) (h : 4 * i + 4 ≤ s.size) : sum_word.f (s.extract (4 * i) s.size) = some ((word (bts s) i : Nat) : Int) := by
  unfold sum_word.f
  have hs : (s.extract (4 * i) s.size).size = s.size - 4 * i := by rw [ByteArray.size_extract]; omega
  have hb (j : Nat) (hj : j < 4) : bt (s.extract (4 * i) s.size) (j : Int) = ((bts s).getD (4 * i + j) 0 : Nat) := by
    rw [bt_nat _ j (by omega), bts_extract]
    simp only [List.getD_eq_getElem?_getD]
    rw [List.getElem?_take, if_pos (by omega), List.getElem?_drop]
  have g : ∀ j, (bts s).getD j 0 < 256 := fun j => by
    rw [List.getD_eq_getElem?_getD]
    cases e : (bts s)[j]? with
    | none => simp
    | some x => simpa using bts_lt s x (List.mem_of_getElem? e)
  have b0 := hb 0 (by decide)
  have b1 := hb 1 (by decide)
  have b2 := hb 2 (by decide)
  have b3 := hb 3 (by decide)
  rw [show ((0 : Nat) : Int) = 0 from rfl, Nat.add_zero] at b0
  rw [show ((1 : Nat) : Int) = 1 from rfl] at b1
  rw [show ((2 : Nat) : Int) = 2 from rfl] at b2
  rw [show ((3 : Nat) : Int) = 3 from rfl] at b3
  rw [if_pos (by omega), if_pos (by omega), if_pos (by omega), if_pos (by omega), b0, b1, b2, b3]
  have g0 := g (4 * i)
  have g1 := g (4 * i + 1)
  have g2 := g (4 * i + 2)
  have g3 := g (4 * i + 3)
  unfold word
  generalize (bts s).getD (4 * i) 0 = x0 at *
  generalize (bts s).getD (4 * i + 1) 0 = x1 at *
  generalize (bts s).getD (4 * i + 2) 0 = x2 at *
  generalize (bts s).getD (4 * i + 3) 0 = x3 at *
  clear b0 b1 b2 b3 hb hs g h
  have e0 : (x0 : Int) % 4294967296 * 16777216 % 4294967296 = ((x0 * 16777216 : Nat) : Int) := by omega
  have e1 : (x1 : Int) % 4294967296 * 65536 % 4294967296 = ((x1 * 65536 : Nat) : Int) := by omega
  have e2 : (x2 : Int) % 4294967296 * 256 % 4294967296 = ((x2 * 256 : Nat) : Int) := by omega
  have e3 : (x3 : Int) % 4294967296 = (x3 : Int) := by omega
  have o1 : x0 * 16777216 ||| x1 * 65536 = x0 * 16777216 + x1 * 65536 := or_add x0 (x1 * 65536) 24 (by omega)
  have o2 : x0 * 16777216 + x1 * 65536 ||| x2 * 256 = x0 * 16777216 + x1 * 65536 + x2 * 256 := by
    have := or_add (x0 * 256 + x1) (x2 * 256) 16 (by omega)
    rw [show (x0 * 256 + x1) * 2 ^ 16 = x0 * 16777216 + x1 * 65536 by omega] at this; exact this
  have o3 : x0 * 16777216 + x1 * 65536 + x2 * 256 ||| x3 = x0 * 16777216 + x1 * 65536 + x2 * 256 + x3 := by
    have := or_add (x0 * 65536 + x1 * 256 + x2) x3 8 (by omega)
    rw [show (x0 * 65536 + x1 * 256 + x2) * 2 ^ 8 = x0 * 16777216 + x1 * 65536 + x2 * 256 by omega] at this; exact this
  rw [e0, e1, e2, e3, or_nat _ _ (by omega) (by omega), o1, or_nat _ _ (by omega) (by omega), o2, or_nat _ _ (by omega) (by omega), o3]
end Go.Proofs.Ytkhkppehdgkboaa.ShaL
end ShaF_
section Halves_
namespace Go.Proofs.Ytkhkppehdgkboaa.Mk
open Go.RowKit Go.Proofs.Ytkhkppehdgkboaa.P Go.Proofs.YtkhkppehdgkboaaW.PrintWords Go.Proofs.YtkhkppehdgkboaaW.PrintLast Go.Proofs.YtkhkppehdgkboaaW.PrintMore
attribute [local go_sem] max2_int min2_int max_two min_two max_three min_three max_four min_four   -- for this text's walks alone
set_option linter.unusedVariables false
set_option linter.unusedSimpArgs false
/-- the greatest power of two that is less than n -/
def spl (n : Nat) : Nat := 2 ^ Nat.log2 (n - 1)
theorem spl_small : ∀ n : Nat, n < 129 → 2 ≤ n → merkle_split.f 9 (n : Int) = some ((spl n : Nat) : Int) ∧ 1 ≤ spl n ∧ spl n < n := by decide +kernel
set_option maxHeartbeats 4000000 in
set_option maxRecDepth 100000 in
theorem halves_calls (A0 : Option Addr) (c0 : Nat) (l : List ByteArray) (hc : l.length ≤ c0) (h2 : 2 ≤ l.length) (hn : l.length < 129) :
    ∃ A1 : Option Addr, (∀ W : World, Kd.C Kd.string W A0 l.length l → Kd.C Kd.string W A1 (l.drop (spl l.length)).length (l.drop (spl l.length))) ∧
      ∀ w, Calls Try.prog 30 #[.slice A0 l.length c0] w fun e w' => e = .returned (.tuple #[.slice A0 (l.take (spl l.length)).length (spl l.length), .slice A1 (l.drop (spl l.length)).length (c0 - spl l.length)]) ∧ Drawn0 w w' := by
  obtain ⟨hs, hs1, hs2⟩ := spl_small l.length hn h2
  obtain ⟨k, hk⟩ : ∃ k, spl l.length = k := ⟨_, rfl⟩
  rw [hk] at hs hs1 hs2 ⊢
  clear hk
  have hlt : (l.take k).length = k := by rw [List.length_take]; omega
  obtain ⟨i0, hi0, _, hsz0, _⟩ := info_parts info9
  obtain ⟨A1, hcut1, hA1, hC1⟩ := print_drop_of (P := Try.prog) Value.string (⟨#[]⟩ : ByteArray) 22 9 .i64 Try.underlying22 hi0 hsz0 A0 c0 l (k : Int) (by omega) (by omega) hc
  rw [Int.toNat_natCast] at hcut1 hA1 hC1
  refine ⟨A1, fun W hr => Kd.C_of_reads (h1 := fun _ => rfl) (hA1 _ (Kd.reads_of_C hr)), fun w => ?_⟩
  have hcut0 : ∀ W : World, (Instr.slice 22 (.slice A0 l.length c0) none (some (.int .i64 (k : Int))) (some (.int .i64 (k : Int)))).run Try.prog W = .ok (.slice A0 (l.take k).length k) W := by
    intro W
    have hel : Try.prog.elem 22 = 9 := by simp [Program.elem, Try.underlying22]
    have hu : Try.prog.underlying 22 = some (.slice (Try.prog.elem 22)) := by rw [hel]; exact Try.underlying22
    have ha : (A0.map fun x => x.add 0) = A0 := by cases A0 <;> simp [Addr.add]
    rw [run_slice_hm W 22 A0 l.length c0 hu .i64 .i64 (k : Int) (k : Int) (by omega) (by omega) (by omega), hel, hlt]
    simp [sizeOf, typeInfo, hi0, hsz0, sliced, Result.andThen, ha]
  clear hA1 hC1 hi0 hsz0
  go_enter Try.func30, Try.ntmps30
  go_wp2_with (first | (go_at_call 38; refine (merkle_split.calls 9 (l.length : Int) (k : Int) _ hs).mono ?_; rintro e w' ⟨rfl, ⟨nd, rfl⟩⟩))
  refine start_ (n := 9) (S := fun w' => True) (ds := []) #[false, false, false, false, false, false, false, false, false] (by kernel_rfl) rfl rfl trivial (fun hHeld => ?_); refine with_tab (T := rtab .any (opsOf Try.f30 2)) rfl (fun HT_ => ?_)
  refine pure_ (i := 0) (N := some 8) (v := ?_) (a' := ?_) #[true, false, false, false, false, false, false, false, false] rfl rfl (any_of HT_.out (by kernel_rfl)) (fun _ _ _ h => h) (Or.inl ⟨by rfl, ?_⟩) ?_ ?_
  rotate_left
  · intro w'
    go_simp
    with_reducible rfl
  rotate_left
  · simp only [Act.put, List.setIfInBounds_toArray, List.set_cons_zero, List.set_cons_succ, i64_w, i32_w]
    rfl
  refine pure_ (i := 1) (N := some 9) (v := ?_) (a' := ?_) #[true, true, false, false, false, false, false, false, false] rfl rfl (any_of HT_.out (by kernel_rfl)) (fun _ _ _ h => h) (Or.inl ⟨by rfl, ?_⟩) ?_ ?_
  rotate_left
  · intro w'
    go_simp
    with_reducible rfl
  rotate_left
  · simp only [Act.put, List.setIfInBounds_toArray, List.set_cons_zero, List.set_cons_succ, i64_w, i32_w]
    rfl
  refine pure_ (i := 2) (N := some 10) (v := ?_) (a' := ?_) #[true, true, true, false, false, false, false, false, false] rfl rfl (any_of HT_.out (by kernel_rfl)) (fun _ _ _ h => h) (Or.inl ⟨by rfl, ?_⟩) ?_ ?_
  rotate_left
  · intro w'
    go_simp
    with_reducible rfl
  rotate_left
  · simp only [Act.put, List.setIfInBounds_toArray, List.set_cons_zero, List.set_cons_succ, i64_w, i32_w]
    rfl
  refine pure_ (i := 3) (N := some 11) (v := ?_) (a' := ?_) #[true, true, true, true, false, false, false, false, false] rfl rfl (any_of HT_.out (by kernel_rfl)) (fun _ _ _ h => h) (Or.inl ⟨by rfl, ?_⟩) ?_ ?_
  rotate_left
  · intro w'
    go_simp
    with_reducible rfl
  rotate_left
  · simp only [Act.put, List.setIfInBounds_toArray, List.set_cons_zero, List.set_cons_succ, i64_w, i32_w]
    rfl
  refine pure_ (i := 4) (N := some 12) (v := ?_) (a' := ?_) #[true, true, true, true, true, false, false, false, false] rfl rfl (any_of HT_.out (by kernel_rfl)) (fun _ _ _ h => h) (Or.inl ⟨by rfl, ?_⟩) ?_ ?_
  rotate_left
  · intro w'
    go_simp
    with_reducible rfl
  rotate_left
  · simp only [Act.put, List.setIfInBounds_toArray, List.set_cons_zero, List.set_cons_succ, i64_w, i32_w]
    rfl
  refine pure_ (i := 5) (N := some 13) (v := ?_) (a' := ?_) #[true, true, true, true, true, true, false, false, false] rfl rfl (any_of HT_.out (by kernel_rfl)) (fun _ _ _ h => h) (Or.inl ⟨by rfl, ?_⟩) ?_ ?_
  rotate_left
  · intro w'
    go_simp
    with_reducible rfl
  rotate_left
  · simp only [Act.put, List.setIfInBounds_toArray, List.set_cons_zero, List.set_cons_succ, i64_w, i32_w]
    rfl
  refine pure_ (i := 6) (N := some 14) (v := ?_) (a' := ?_) #[true, true, true, true, true, true, true, false, false] rfl rfl (any_of HT_.out (by kernel_rfl)) (fun _ _ _ h => h) (Or.inl ⟨by rfl, ?_⟩) ?_ ?_
  rotate_left
  · intro w'
    go_simp
    with_reducible rfl
  rotate_left
  · simp only [Act.put, List.setIfInBounds_toArray, List.set_cons_zero, List.set_cons_succ, i64_w, i32_w]
    rfl
  refine pure_ (i := 7) (N := some 2) (v := ?_) (a' := ?_) #[true, true, true, true, true, true, true, true, false] rfl rfl (any_of HT_.out (by kernel_rfl)) (fun _ _ _ h => h) (Or.inl ⟨by rfl, ?_⟩) ?_ ?_
  rotate_left
  · intro w'
    go_simp
    with_reducible rfl
  rotate_left
  · simp only [Act.put, List.setIfInBounds_toArray, List.set_cons_zero, List.set_cons_succ, i64_w, i32_w]
    rfl
  refine pure_ (i := 8) (N := some 3) (v := ?_) (a' := ?_) #[true, true, true, true, true, true, true, true, true] rfl rfl (any_of HT_.out (by kernel_rfl)) (fun _ _ _ h => h) (Or.inl ⟨by rfl, ?_⟩) ?_ ?_
  rotate_left
  · intro w'
    go_simp
    with_reducible rfl
  rotate_left
  · simp only [Act.put, List.setIfInBounds_toArray, List.set_cons_zero, List.set_cons_succ, i64_w, i32_w]
    rfl
  refine done_ (done_of HT_.out (by kernel_rfl)) ?_
  try go_wp2
  go_ret2
  exact ⟨by rw [hlt, List.length_drop]; rfl, by repeat (first | exact Drawn0.refl _ | apply Drawn0.step)⟩
end Go.Proofs.Ytkhkppehdgkboaa.Mk
end Halves_
