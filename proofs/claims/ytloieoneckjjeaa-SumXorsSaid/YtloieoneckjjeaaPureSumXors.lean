/- The law SumXors, plain. -/
import Derived.Test.YtloieoneckjjeaaP11
import Derived.Test.YtloieoneckjjeaaCrcF
namespace Go.Proofs.Ytloieoneckjjeaa.Pure
open Go.RowKit Go.Proofs.Ytloieoneckjjeaa.P Go.Proofs.Ytloieoneckjjeaa.ShaL Go.Proofs.Ytloieoneckjjeaa.CrcL Go.Proofs.YtloieoneckjjeaaW.PrintWords Go.Proofs.YtloieoneckjjeaaW.PrintLast
set_option linter.unusedVariables false

def xs3 (a b c : List Nat) : List Nat := List.zipWith (fun u v => u ^^^ v) (List.zipWith (fun u v => u ^^^ v) a b) c
theorem xs3_take (a b c : List Nat) (j : Nat) (ha : j < a.length) (hb : j < b.length) (hc : j < c.length) :
    xs3 (a.take (j + 1)) (b.take (j + 1)) (c.take (j + 1)) = xs3 (a.take j) (b.take j) (c.take j) ++ [a.getD j 0 ^^^ b.getD j 0 ^^^ c.getD j 0] := by
  unfold xs3
  rw [List.take_add_one, List.take_add_one, List.take_add_one, List.getElem?_eq_getElem ha, List.getElem?_eq_getElem hb, List.getElem?_eq_getElem hc]
  rw [List.zipWith_append (by simp; omega), List.zipWith_append (by simp; omega)]
  simp [List.getD_eq_getElem?_getD, List.getElem?_eq_getElem ha, List.getElem?_eq_getElem hb, List.getElem?_eq_getElem hc]
theorem xs3_lt (a b c : List Nat) (ha : ∀ n ∈ a, n < 256) (hb : ∀ n ∈ b, n < 256) (hc : ∀ n ∈ c, n < 256) : ∀ n ∈ xs3 a b c, n < 256 := by
  have z (x y : List Nat) (hx : ∀ n ∈ x, n < 256) (hy : ∀ n ∈ y, n < 256) : ∀ n ∈ List.zipWith (fun u v => u ^^^ v) x y, n < 256 := by
    intro n hn
    obtain ⟨i, hi⟩ := List.mem_iff_getElem?.1 hn
    rw [List.getElem?_zipWith] at hi
    cases e1 : x[i]? <;> cases e2 : y[i]? <;> simp [e1, e2] at hi
    subst hi
    exact Nat.xor_lt_two_pow (n := 8) (hx _ (List.mem_of_getElem? e1)) (hy _ (List.mem_of_getElem? e2))
  exact z _ _ (z _ _ ha hb) hc
theorem bts_get_lt (s : ByteArray) (i : Nat) : (bts s).getD i 0 < 256 := by
  rw [List.getD_eq_getElem?_getD]
  cases e : (bts s)[i]? with
  | none => simp
  | some x => simpa using bts_lt s x (List.mem_of_getElem? e)
theorem xor8 (a b : Nat) (ha : a < 256) (hb : b < 256) : Go.bits .xor .u8 (a : Int) (b : Int) = ((a ^^^ b : Nat) : Int) := u8_xor_nat a b ha hb

theorem xors_l0 (a b c : ByteArray) (n : Nat) (ha : n ≤ a.size) (hb : n ≤ b.size) (hc : n ≤ c.size) (hn : n ≤ 4000) (m : Nat) :
    ∀ (k j : Nat), j + m = n → 50000 + m ≤ k →
    agoralaw03_SumXors.l0 k a b c true (n : Int) ((xs3 ((bts a).take j) ((bts b).take j) ((bts c).take j)).map fun n : Nat => (n : Int)) (j : Int) = some true := by
  induction m with
  | zero =>
    intro k j hj hk
    obtain ⟨k, rfl⟩ : ∃ k', k = k' + 1 := ⟨k - 1, by omega⟩
    obtain rfl : j = n := by omega
    have ext (s : ByteArray) (h : j ≤ s.size) : bts (s.extract 0 ((j : Nat) : Int).toNat) = (bts s).take j ∧ (s.extract 0 ((j : Nat) : Int).toNat).size = j := by
      rw [Int.toNat_natCast, bts_extract, List.drop_zero, Nat.sub_zero, ByteArray.size_extract]
      exact ⟨rfl, by omega⟩
    have tk (s : ByteArray) : ∀ n ∈ (bts s).take j, n < 256 := fun n hn => bts_lt s n (List.mem_of_mem_take hn)
    have hx := xs3_lt _ _ _ (tk a) (tk b) (tk c)
    have la := bts_length a
    have lb := bts_length b
    have lc := bts_length c
    have hl : (xs3 ((bts a).take j) ((bts b).take j) ((bts c).take j)).length = j := by
      simp only [xs3, List.length_zipWith, List.length_take]; omega
    rw [agoralaw03_SumXors.l0, if_neg (by omega), if_pos rfl, if_pos (by omega), if_pos (by omega),
      crc_at _ (by rw [(ext a ha).2]; omega) _ (by rw [(ext a ha).2]; omega), Option.bind_some, if_pos (by omega),
      crc_at _ (by rw [(ext b hb).2]; omega) _ (by rw [(ext b hb).2]; omega), Option.bind_some, if_pos (by omega),
      crc_at _ (by rw [(ext c hc).2]; omega) _ (by rw [(ext c hc).2]; omega), Option.bind_some,
      crc_at _ (by rw [strOfNums_size, List.length_map, hl]; omega) _ (by rw [strOfNums_size, List.length_map, hl]; omega), Option.bind_some,
      (ext a ha).1, (ext b hb).1, (ext c hc).1, bts_nums _ hx]
    have c1 := crcN_lt _ (tk a)
    have c2 := crcN_lt _ (tk b)
    have c3 := crcN_lt _ (tk c)
    have e := crc_three ((bts a).take j) ((bts b).take j) ((bts c).take j) (by simp only [List.length_take]; omega) (by simp only [List.length_take]; omega)
    rw [xor_nat _ _ c1 c2, xor_nat _ _ (xor_lt _ _ c1 c2) c3, e]
    exact congrArg some (beq_self_eq_true _)
  | succ m ih =>
    intro k j hj hk
    obtain ⟨k, rfl⟩ : ∃ k', k = k' + 1 := ⟨k - 1, by omega⟩
    have la := bts_length a
    have lb := bts_length b
    have lc := bts_length c
    have hl : (xs3 ((bts a).take j) ((bts b).take j) ((bts c).take j)).length ≤ j := by
      simp only [xs3, List.length_zipWith, List.length_take]; omega
    rw [agoralaw03_SumXors.l0, if_pos (by omega), if_pos (by omega), if_pos (by omega), if_pos (by omega), if_pos (by omega), if_pos (by rw [List.length_map]; omega),
      bt_nat a j (by omega), bt_nat b j (by omega), bt_nat c j (by omega), xor8 _ _ (bts_get_lt a j) (bts_get_lt b j), xor8 _ _ (Nat.xor_lt_two_pow (n := 8) (bts_get_lt a j) (bts_get_lt b j)) (bts_get_lt c j),
      show wrap64 ((j : Int) + 1) = ((j + 1 : Nat) : Int) by rw [wrap64]; omega]
    have := ih k (j + 1) (by omega) (by omega)
    rw [xs3_take _ _ _ j (by omega) (by omega) (by omega), List.map_append] at this
    exact this
theorem SumXors : agoralaw03_SumXors.Pure := by
  intro a b c ha hb hc
  refine ⟨100000, ?_⟩
  unfold agoralaw03_SumXors.f
  rw [smallR _ (by decide), Option.bind_some]
  obtain ⟨n, hn, h1, h2, h3⟩ : ∃ n : Nat, mn (mn (a.size : Int) (b.size : Int)) (c.size : Int) = (n : Int) ∧ n ≤ a.size ∧ n ≤ b.size ∧ n ≤ c.size := by
    unfold mn
    by_cases e1 : (b.size : Int) < (a.size : Int)
    · rw [if_pos e1]
      by_cases e2 : (c.size : Int) < (b.size : Int)
      · rw [if_pos e2]; exact ⟨c.size, rfl, by omega, by omega, by omega⟩
      · rw [if_neg e2]; exact ⟨b.size, rfl, by omega, by omega, by omega⟩
    · rw [if_neg e1]
      by_cases e2 : (c.size : Int) < (a.size : Int)
      · rw [if_pos e2]; exact ⟨c.size, rfl, by omega, by omega, by omega⟩
      · rw [if_neg e2]; exact ⟨a.size, rfl, by omega, by omega, by omega⟩
  rw [hn]
  by_cases h : (n : Int) > 4000
  · rw [if_pos h]
  rw [if_neg h]
  exact xors_l0 a b c n h1 h2 h3 (by omega) n 100000 0 (by omega) (by omega)
end Go.Proofs.Ytloieoneckjjeaa.Pure
