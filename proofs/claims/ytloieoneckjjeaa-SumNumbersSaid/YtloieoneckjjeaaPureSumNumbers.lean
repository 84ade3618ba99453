/- The law SumNumbers, plain. -/
import Derived.Test.YtloieoneckjjeaaP12
import Derived.Test.YtloieoneckjjeaaCrcF
namespace Go.Proofs.Ytloieoneckjjeaa.Pure
open Go.RowKit Go.Proofs.Ytloieoneckjjeaa.P Go.Proofs.Ytloieoneckjjeaa.ShaL Go.Proofs.Ytloieoneckjjeaa.CrcL Go.Proofs.YtloieoneckjjeaaW.PrintWords Go.Proofs.YtloieoneckjjeaaW.PrintLast
set_option linter.unusedVariables false

/-- the first i bytes as a number, the most significant first (0 behind the end) -/
def beTo (l : List Nat) : Nat → Nat
  | 0 => 0
  | i + 1 => beTo l i * 256 + l.getD i 0
theorem beTo_lt (l : List Nat) (h : ∀ j, l.getD j 0 < 256) (i : Nat) : beTo l i < 256 ^ i := by
  induction i with
  | zero => exact Nat.one_pos
  | succ i ih => rw [beTo, Nat.pow_succ]; have := h i; omega
theorem bts_get (s : ByteArray) (i : Nat) : (bts s).getD i 0 < 256 := by
  rw [List.getD_eq_getElem?_getD]
  cases e : (bts s)[i]? with
  | none => simp
  | some x => simpa using bts_lt s x (List.mem_of_getElem? e)
theorem or64 (a b : Nat) (ha : a < 72057594037927936) (hb : b < 256) : Go.bits .or .u64 (IntKind.u64.wrap ((a : Int) * 256)) (IntKind.u64.wrap (b : Int)) = ((a * 256 + b : Nat) : Int) := by
  rw [IntKind.wrap_u64, IntKind.wrap_u64, show ((a : Int) * 256) % 18446744073709551616 = ((a * 256 : Nat) : Int) by omega, show (b : Int) % 18446744073709551616 = (b : Int) by omega, u64_or_nat _ _ (by omega) (by omega)]
  congr 1
  have := Nat.two_pow_add_eq_or_of_lt (i := 8) (b := b) (by omega) a
  rw [Nat.mul_comm] at this
  exact this.symm
theorem num_l0 (s : ByteArray) (m : Nat) : ∀ (k i : Nat), i + m = 8 → m + 1 ≤ k → sum_Num.l0 k s ((beTo (bts s) i : Nat) : Int) (i : Int) = some (((beTo (bts s) 8) / 8 : Nat) : Int) := by
  induction m with
  | zero =>
    intro k i hi hk
    obtain ⟨k, rfl⟩ : ∃ k', k = k' + 1 := ⟨k - 1, by omega⟩
    obtain rfl : i = 8 := by omega
    have := beTo_lt (bts s) (bts_get s) 8
    rw [sum_Num.l0, if_neg (by omega)]
    congr 1
    rw [wrap64]; omega
  | succ m ih =>
    intro k i hi hk
    obtain ⟨k, rfl⟩ : ∃ k', k = k' + 1 := ⟨k - 1, by omega⟩
    have hb := beTo_lt (bts s) (bts_get s) i
    have hb7 : beTo (bts s) i < 72057594037927936 := Nat.lt_of_lt_of_le hb (Nat.pow_le_pow_right (n := 256) (by decide) (show i ≤ 7 by omega))
    have hw : wrap64 ((i : Int) + 1) = ((i + 1 : Nat) : Int) := by rw [wrap64]; omega
    have := ih k (i + 1) (by omega) (by omega)
    rw [sum_Num.l0, if_pos (by omega), hw]
    by_cases hs : (i : Int) < (s.size : Int)
    · rw [if_pos hs, if_pos (by omega), bt_nat s i (by omega), or64 _ _ hb7 (bts_get s i)]
      exact this
    · have hz : (bts s).getD i 0 = 0 := by
        rw [List.getD_eq_getElem?_getD, List.getElem?_eq_none (by rw [bts_length]; omega)]; rfl
      rw [if_neg hs, IntKind.wrap_u64, show ((beTo (bts s) i : Nat) : Int) * 256 % 18446744073709551616 = ((beTo (bts s) i * 256 : Nat) : Int) by omega]
      rw [beTo, hz, Nat.add_zero] at this
      exact this
theorem num_at (s : ByteArray) (k : Nat) (hk : 10 ≤ k) : sum_Num.f k s = some (((beTo (bts s) 8) / 8 : Nat) : Int) := num_l0 s 8 k 0 (by omega) (by omega)
theorem beTo_congr (l l' : List Nat) (i : Nat) (h : ∀ j, j < i → l.getD j 0 = l'.getD j 0) : beTo l i = beTo l' i := by
  induction i with
  | zero => rfl
  | succ i ih => rw [beTo, beTo, ih (fun j hj => h j (by omega)), h i (Nat.lt_succ_self i)]
def beL : List Nat → Nat
  | [] => 0
  | b :: l => b * 256 ^ l.length + beL l
theorem beL_lt (l : List UInt8) : beL (l.map UInt8.toNat) < 256 ^ l.length := by
  induction l with
  | nil => exact Nat.one_pos
  | cons b l ih =>
    rw [List.map_cons, beL, List.length_cons, List.length_map, Nat.pow_succ]
    have hb := b.toNat_lt
    have h1 : (b.toNat + 1) * 256 ^ l.length ≤ 256 * 256 ^ l.length := Nat.mul_le_mul_right _ (by omega)
    rw [Nat.add_mul, Nat.one_mul] at h1
    omega
theorem less_be : ∀ a b : List UInt8, a.length = b.length → Op.bytesLess a b = true → beL (a.map UInt8.toNat) < beL (b.map UInt8.toNat)
  | _, [], _, h => by simp [Op.bytesLess] at h
  | [], _ :: _, h, _ => by simp at h
  | a :: x, b :: y, hl, h => by
    have hxy : x.length = y.length := by simpa using hl
    simp only [Op.bytesLess, Bool.or_eq_true, decide_eq_true_eq, Bool.and_eq_true, beq_iff_eq] at h
    simp only [List.map_cons, beL, List.length_map]
    rw [hxy]
    rcases h with h | ⟨rfl, h⟩
    · have h1 := UInt8.lt_iff_toNat_lt.1 h
      have h2 := beL_lt x
      rw [hxy] at h2
      have h3 : (a.toNat + 1) * 256 ^ y.length ≤ b.toNat * 256 ^ y.length := Nat.mul_le_mul_right _ (by omega)
      rw [Nat.add_mul, Nat.one_mul] at h3
      omega
    · have := less_be x y hxy h
      omega
theorem be_eight (l : List Nat) (h : l.length = 8) : beTo l 8 = beL l := by
  match l, h with
  | [a, b, c, d, e, f, g, h], _ =>
    simp [beTo, beL]; omega
theorem less_num (a b : ByteArray) (ha : a.size = 8) (hb : b.size = 8) (h : Op.bytesLess a.toList b.toList = true) : beTo (bts a) 8 < beTo (bts b) 8 := by
  rw [be_eight _ (by rw [bts_length]; exact ha), be_eight _ (by rw [bts_length]; exact hb)]
  rw [ByteArray.toList_eq, ByteArray.toList_eq] at h
  exact less_be _ _ (by rw [Array.length_toList, Array.length_toList]; exact ha.trans hb.symm) h
theorem bts_inj {a b : ByteArray} (h : bts a = bts b) : a = b := by
  apply ByteArray.ext
  apply Array.toList_inj.1
  exact List.map_inj_right (fun x y e => UInt8.toNat_inj.1 e) |>.1 h

/-- the bytes that are made of the number -/
def backTo (n i : Nat) : List Int := (List.range i).map fun j => ((n * 8 / 2 ^ (56 - 8 * j) % 256 : Nat) : Int)
theorem sh_at (n i : Nat) (hi : i < 8) (hn : n < 2305843009213693952) :
    (shr .u64 (IntKind.u64.wrap ((IntKind.u64.wrap ((n : Nat) : Int)) * 8)) (wrap64 (56 - (wrap64 (8 * (i : Int)))))) % 256 = ((n * 8 / 2 ^ (56 - 8 * i) % 256 : Nat) : Int) := by
  have e1 : IntKind.u64.wrap ((IntKind.u64.wrap ((n : Nat) : Int)) * 8) = ((n * 8 : Nat) : Int) := by rw [IntKind.wrap_u64, IntKind.wrap_u64]; omega
  have e2 : wrap64 (56 - (wrap64 (8 * (i : Int)))) = ((56 - 8 * i : Nat) : Int) := by rw [wrap64, wrap64]; omega
  rw [e1, e2]
  unfold shr
  rw [Int.toNat_natCast, show min (56 - 8 * i) IntKind.u64.bits = 56 - 8 * i by have : IntKind.u64.bits = 64 := rfl; omega]
  simp only [Int.natCast_ediv, Int.natCast_emod, Int.natCast_pow]; rfl
theorem l2_at (n : Nat) (hn : n < 2305843009213693952) (p : ByteArray) (hp : p.size = 8) (h0 : beTo (bts p) 8 / 8 = n) (m : Nat) :
    ∀ k i, i + m = 8 → m + 1 ≤ k → agoralaw03_SumNumbers.l2 k true ((n : Nat) : Int) p (backTo n i) (i : Int) = some true := by
  induction m with
  | zero =>
    intro k i hi hk
    obtain ⟨k, rfl⟩ : ∃ k', k = k' + 1 := ⟨k - 1, by omega⟩
    obtain rfl : i = 8 := by omega
    have hlen : (bts p).length = 8 := by rw [bts_length]; exact hp
    have hb := bts_lt p
    have h7 := bt_nat p 7 (by omega)
    rw [show ((7 : Nat) : Int) = 7 from rfl] at h7
    obtain ⟨b0, b1, b2, b3, b4, b5, b6, b7, he⟩ : ∃ b0 b1 b2 b3 b4 b5 b6 b7, bts p = [b0, b1, b2, b3, b4, b5, b6, b7] := by
      match bts p, hlen with
      | [b0, b1, b2, b3, b4, b5, b6, b7], _ => exact ⟨b0, b1, b2, b3, b4, b5, b6, b7, rfl⟩
    rw [he] at h0 hb h7
    simp only [List.mem_cons, List.not_mem_nil, or_false, forall_eq_or_imp, forall_eq] at hb
    obtain ⟨q0, q1, q2, q3, q4, q5, q6, q7⟩ := hb
    simp only [beTo, List.getD_cons_zero, List.getD_cons_succ] at h0
    have hbk : backTo n 8 = [((n * 8 / 2 ^ 56 % 256 : Nat) : Int), ((n * 8 / 2 ^ 48 % 256 : Nat) : Int), ((n * 8 / 2 ^ 40 % 256 : Nat) : Int), ((n * 8 / 2 ^ 32 % 256 : Nat) : Int), ((n * 8 / 2 ^ 24 % 256 : Nat) : Int), ((n * 8 / 2 ^ 16 % 256 : Nat) : Int), ((n * 8 / 2 ^ 8 % 256 : Nat) : Int), ((n * 8 / 2 ^ 0 % 256 : Nat) : Int)] := rfl
    have z0 : n * 8 / 2 ^ 56 % 256 = b0 := by omega
    have z1 : n * 8 / 2 ^ 48 % 256 = b1 := by omega
    have z2 : n * 8 / 2 ^ 40 % 256 = b2 := by omega
    have z3 : n * 8 / 2 ^ 32 % 256 = b3 := by omega
    have z4 : n * 8 / 2 ^ 24 % 256 = b4 := by omega
    have z5 : n * 8 / 2 ^ 16 % 256 = b5 := by omega
    have z6 : n * 8 / 2 ^ 8 % 256 = b6 := by omega
    have z7 : n * 8 / 2 ^ 0 % 256 = b7 / 8 * 8 := by omega
    rw [z0, z1, z2, z3, z4, z5, z6, z7] at hbk
    have heq : strOfNums ((backTo n 8).take 7) = p.extract 0 7 := by
      apply bts_inj
      rw [hbk, bts_extract, he]
      exact bts_nums [b0, b1, b2, b3, b4, b5, b6] (by simp only [List.mem_cons, List.not_mem_nil, or_false, forall_eq_or_imp, forall_eq]; exact ⟨q0, q1, q2, q3, q4, q5, q6⟩)
    have hl8 : (backTo n 8).length = 8 := by rw [hbk]; rfl
    rw [agoralaw03_SumNumbers.l2, if_neg (by omega), if_pos rfl, if_pos (by rw [hl8]; decide), if_pos (by decide), if_pos (by omega), heq, if_pos rfl, if_pos (by rw [hl8]; decide), if_pos (by omega), hbk, h7]
    congr 1
    rw [beq_iff_eq]
    show ((b7 / 8 * 8 : Nat) : Int) = ((((Int.tdiv ((b7 : Nat) : Int) 8) % 256) * 8) % 256)
    have : Int.tdiv ((b7 : Nat) : Int) 8 = ((b7 / 8 : Nat) : Int) := rfl
    rw [this]
    omega
  | succ m ih =>
    intro k i hi hk
    obtain ⟨k, rfl⟩ : ∃ k', k = k' + 1 := ⟨k - 1, by omega⟩
    have := ih k (i + 1) (by omega) (by omega)
    rw [agoralaw03_SumNumbers.l2, if_pos (by omega), if_pos (by rw [wrap64, wrap64]; omega), if_pos (by simp [backTo]; omega), sh_at n i (by omega) hn, show wrap64 ((i : Int) + 1) = ((i + 1 : Nat) : Int) by rw [wrap64]; omega]
    rw [backTo, List.range_succ, List.map_append] at this
    exact this
theorem pad_l0 (x1 x2 : ByteArray) (x8 : Int) (j m : Nat) : ∀ x : ByteArray, 8 - x.size = m → x.size ≤ 1125899906842624 →
    (∀ x' : ByteArray, 8 ≤ x'.size → x'.size ≤ 1125899906842632 → bts x' = bts x ++ List.replicate m 0 → agoralaw03_SumNumbers.l0 (j + 1) x1 x2 true x8 x' = some true) → agoralaw03_SumNumbers.l0 (j + 1 + m) x1 x2 true x8 x = some true := by
  induction m with
  | zero => intro x hx hb h; exact h x (by omega) (by omega) (by rw [List.replicate_zero, List.append_nil])
  | succ m ih =>
    intro x hx hb h
    have hz : (x ++ (⟨#[0]⟩ : ByteArray)).size = x.size + 1 := by rw [ByteArray.size_append]; rfl
    rw [← Nat.add_assoc, agoralaw03_SumNumbers.l0, if_pos (by omega), if_pos (by omega)]
    refine ih _ (by omega) (by omega) (fun x' h1 h2 h3 => h x' h1 h2 ?_)
    rw [h3, bts_append, List.append_assoc]
    rfl
theorem pad_l1 (x1 x2 x9 : ByteArray) (x8 : Int) (j m : Nat) : ∀ x : ByteArray, 8 - x.size = m → x.size ≤ 1125899906842624 →
    (∀ x' : ByteArray, 8 ≤ x'.size → x'.size ≤ 1125899906842632 → bts x' = bts x ++ List.replicate m 0 → agoralaw03_SumNumbers.l1 (j + 1) x1 x2 true x8 x9 x' = some true) → agoralaw03_SumNumbers.l1 (j + 1 + m) x1 x2 true x8 x9 x = some true := by
  induction m with
  | zero => intro x hx hb h; exact h x (by omega) (by omega) (by rw [List.replicate_zero, List.append_nil])
  | succ m ih =>
    intro x hx hb h
    have hz : (x ++ (⟨#[0]⟩ : ByteArray)).size = x.size + 1 := by rw [ByteArray.size_append]; rfl
    rw [← Nat.add_assoc, agoralaw03_SumNumbers.l1, if_pos (by omega), if_pos (by omega)]
    refine ih _ (by omega) (by omega) (fun x' h1 h2 h3 => h x' h1 h2 ?_)
    rw [h3, bts_append, List.append_assoc]
    rfl
theorem first8 (s x : ByteArray) (m : Nat) (h8 : 8 ≤ x.size) (h : bts x = bts s ++ List.replicate m 0) (u : List Nat) : beTo (bts (x.extract 0 8) ++ u) 8 = beTo (bts s) 8 := by
  refine beTo_congr _ _ _ fun j hj => ?_
  rw [bts_extract, List.drop_zero, Nat.sub_zero]
  have hl : j < ((bts x).take 8).length := by rw [List.length_take, bts_length]; omega
  simp only [List.getD_eq_getElem?_getD]
  rw [List.getElem?_append_left hl, List.getElem?_take, if_pos hj, h]
  rcases Nat.lt_or_ge j (bts s).length with h1 | h1
  · rw [List.getElem?_append_left h1]
  · rw [List.getElem?_append_right h1, List.getElem?_eq_none h1, List.getElem?_replicate]
    split <;> rfl
theorem SumNumbers : agoralaw03_SumNumbers.Pure := by
  intro s t u hs ht hu
  have hB := beTo_lt (bts s) (bts_get s) 8
  have hB' : beTo (bts s) 8 < 18446744073709551616 := hB
  obtain ⟨n, hn, hn2⟩ : ∃ n, beTo (bts s) 8 / 8 = n ∧ n < 2305843009213693952 := ⟨_, rfl, by omega⟩
  obtain ⟨c, hc⟩ : ∃ c, 8 - s.size = c := ⟨_, rfl⟩
  obtain ⟨d, hd⟩ : ∃ d, 8 - t.size = d := ⟨_, rfl⟩
  have small1 := smallR (((300 + 1 + d) + 1 + c) + 1) (by omega)
  refine ⟨((300 + 1 + d) + 1 + c) + 1, ?_⟩
  unfold agoralaw03_SumNumbers.f
  rw [small1, Option.bind_some, num_at s _ (by omega), Option.bind_some, hn, if_neg (by omega), decide_eq_false (by omega), agoralaw03_SumNumbers.j0, if_neg (by decide)]
  refine pad_l0 t u (n : Int) (300 + 1 + d) c s hc (by omega) (fun x h1 h2 h3 => ?_)
  rw [agoralaw03_SumNumbers.l0, if_neg (by omega)]
  refine pad_l1 t u x (n : Int) 300 d t hd (by omega) (fun y k1 k2 k3 => ?_)
  have hx8 : (x.extract 0 8).size = 8 := by rw [ByteArray.size_extract]; omega
  have hy8 : (y.extract 0 8).size = 8 := by rw [ByteArray.size_extract]; omega
  have ex := first8 s x c h1 h3 []
  have ey := first8 t y d k1 k3 []
  have eu := first8 s x c h1 h3 (bts u)
  rw [List.append_nil] at ex ey
  rw [agoralaw03_SumNumbers.l1, if_neg (by omega), if_pos (by decide), if_pos (by omega), if_pos (by omega), if_pos (by omega), num_at _ _ (by omega), Option.bind_some, bts_append, eu, hn, if_pos rfl]
  have fin : agoralaw03_SumNumbers.j3 300 true (n : Int) (x.extract 0 8) false = some true := by
    rw [show 300 = 299 + 1 from rfl, agoralaw03_SumNumbers.j3, if_neg (by decide)]
    exact l2_at n hn2 (x.extract 0 8) hx8 (by rw [ex, hn]) 8 299 0 (by omega) (by omega)
  have nt := num_at t 300 (by decide)
  by_cases a : Op.bytesLess (x.extract 0 8).toList (y.extract 0 8).toList = true
  · have h := less_num _ _ hx8 hy8 a
    rw [ex, ey] at h
    rw [if_pos a, nt, Option.bind_some, if_neg (by omega)]
    by_cases b : Op.bytesLess (y.extract 0 8).toList (x.extract 0 8).toList = true
    · have h' := less_num _ _ hy8 hx8 b
      rw [ex, ey] at h'
      omega
    · rw [if_neg b]; exact fin
  · rw [if_neg a]
    by_cases b : Op.bytesLess (y.extract 0 8).toList (x.extract 0 8).toList = true
    · have h' := less_num _ _ hy8 hx8 b
      rw [ex, ey] at h'
      rw [if_pos b, nt, Option.bind_some, decide_eq_false (by omega)]
      exact fin
    · rw [if_neg b]; exact fin
end Go.Proofs.Ytloieoneckjjeaa.Pure
