/- Hexadecimal digits on numbers, and what sum.Hex and sum.Unhex compute. -/
import Derived.Test.YtloieoneckjjeaaP3
import Derived.Test.YtloieoneckjjeaaP2
import Derived.Test.YtloieoneckjjeaaShaF
namespace Go.Proofs.Ytloieoneckjjeaa.HexL
open Go.RowKit Go.Proofs.Ytloieoneckjjeaa.P Go.Proofs.Ytloieoneckjjeaa.ShaL Go.Proofs.YtloieoneckjjeaaW.PrintWords Go.Proofs.YtloieoneckjjeaaW.PrintLast
set_option linter.unusedVariables false

def hexd (n : Nat) : Nat := if n < 10 then 48 + n else 87 + n
def digN (c : Nat) : Int := if 48 ≤ c ∧ c ≤ 57 then (c : Int) - 48 else if 97 ≤ c ∧ c ≤ 102 then (c : Int) - 87 else -1
def hexL (l : List Nat) : List Nat := l.flatMap fun b => [hexd (b / 16), hexd (b % 16)]
def unhexL : List Nat → Option (List Nat)
  | [] => some []
  | [_] => none
  | a :: b :: l => if digN a < 0 then none else if digN b < 0 then none else (unhexL l).map fun r => (16 * (digN a).toNat + (digN b).toNat) :: r

theorem hexL_cons (b : Nat) (l : List Nat) : hexL (b :: l) = hexd (b / 16) :: hexd (b % 16) :: hexL l := rfl
theorem hexL_length (l : List Nat) : (hexL l).length = 2 * l.length := by
  induction l with
  | nil => rfl
  | cons b l ih => rw [hexL_cons, List.length_cons, List.length_cons, ih, List.length_cons]; omega
theorem hexd_ok (n : Nat) (h : n < 16) : (48 ≤ hexd n ∧ hexd n ≤ 57) ∨ (97 ≤ hexd n ∧ hexd n ≤ 102) := by unfold hexd; split <;> omega
theorem dig_hexd (n : Nat) (h : n < 16) : digN (hexd n) = n := by unfold hexd digN; repeat' split
                                                                  all_goals omega
theorem hexd_dig (c : Nat) (h : ¬ digN c < 0) : hexd (digN c).toNat = c ∧ (digN c).toNat < 16 := by
  unfold digN at h ⊢
  repeat' split at h
  · rename_i h1; rw [if_pos h1]; unfold hexd; split <;> omega
  · rename_i h1 h2; rw [if_neg h1, if_pos h2]; unfold hexd; split <;> omega
  · omega
theorem hexL_ok (l : List Nat) (h : ∀ n ∈ l, n < 256) : ∀ n ∈ hexL l, (48 ≤ n ∧ n ≤ 57) ∨ (97 ≤ n ∧ n ≤ 102) := by
  induction l with
  | nil => intro n hn; cases hn
  | cons b l ih =>
    intro n hn
    have hb := h b (List.mem_cons_self ..)
    rw [hexL_cons, List.mem_cons, List.mem_cons] at hn
    rcases hn with rfl | rfl | hn
    · exact hexd_ok _ (by omega)
    · exact hexd_ok _ (Nat.mod_lt _ (by decide))
    · exact ih (fun n hn => h n (List.mem_cons_of_mem _ hn)) n hn
theorem hexL_lt (l : List Nat) (h : ∀ n ∈ l, n < 256) : ∀ n ∈ hexL l, n < 256 := fun n hn => by have := hexL_ok l h n hn; omega
theorem unhex_hex (l m : List Nat) (h : ∀ n ∈ l, n < 256) : unhexL (hexL l ++ m) = (unhexL m).map fun r => l ++ r := by
  induction l with
  | nil => simp [hexL]
  | cons b l ih =>
    have hb := h b (List.mem_cons_self ..)
    rw [hexL_cons, List.cons_append, List.cons_append, unhexL, dig_hexd _ (by omega), dig_hexd _ (Nat.mod_lt _ (by decide)), if_neg (by omega), if_neg (by omega), ih (fun n hn => h n (List.mem_cons_of_mem _ hn)), Option.map_map]
    congr 1
    funext r
    show (16 * ((b / 16 : Nat) : Int).toNat + ((b % 16 : Nat) : Int).toNat) :: (l ++ r) = b :: (l ++ r)
    congr 1
    rw [Int.toNat_natCast, Int.toNat_natCast]; omega
theorem hex_unhex : ∀ (l r : List Nat), unhexL l = some r → hexL r = l ∧ ∀ n ∈ r, n < 256
  | [], r, h => by
    simp only [unhexL, Option.some.injEq] at h; subst h
    exact ⟨rfl, fun n hn => by cases hn⟩
  | [_], r, h => by simp [unhexL] at h
  | a :: b :: l, r, h => by
    rw [unhexL] at h
    by_cases ha : digN a < 0
    · rw [if_pos ha] at h; cases h
    by_cases hb : digN b < 0
    · rw [if_neg ha, if_pos hb] at h; cases h
    rw [if_neg ha, if_neg hb] at h
    obtain ⟨q, hq, rfl⟩ := Option.map_eq_some_iff.1 h
    obtain ⟨h1, h2⟩ := hex_unhex l q hq
    obtain ⟨a1, a2⟩ := hexd_dig a ha
    obtain ⟨b1, b2⟩ := hexd_dig b hb
    constructor
    · rw [hexL_cons, h1, show (16 * (digN a).toNat + (digN b).toNat) / 16 = (digN a).toNat by omega, show (16 * (digN a).toNat + (digN b).toNat) % 16 = (digN b).toNat by omega, a1, b1]
    · intro n hn
      rcases List.mem_cons.1 hn with rfl | hn
      · omega
      · exact h2 n hn

/-! what the program computes -/
def D : ByteArray := ⟨#[48, 49, 50, 51, 52, 53, 54, 55, 56, 57, 97, 98, 99, 100, 101, 102]⟩
theorem index_all : (List.range 256).all (fun c => strings_IndexByte.f D (c : Int) == some (digN c)) = true := by decide +kernel
theorem index_at (c : Nat) (h : c < 256) : strings_IndexByte.f D (c : Int) = some (digN c) := by
  have := List.all_eq_true.1 index_all c (List.mem_range.2 h)
  exact beq_iff_eq.1 this
theorem digit_all : (List.range 16).all (fun n => bt D (n : Int) == (hexd n : Int)) = true := by decide +kernel
theorem digit_at (n : Nat) (h : n < 16) : bt D (n : Int) = (hexd n : Int) := by
  have := List.all_eq_true.1 digit_all n (List.mem_range.2 h)
  exact beq_iff_eq.1 this
theorem get_lt (s : ByteArray) (i : Nat) : (bts s).getD i 0 < 256 := by
  rw [List.getD_eq_getElem?_getD]
  cases e : (bts s)[i]? with
  | none => simp
  | some x => simpa using bts_lt s x (List.mem_of_getElem? e)
theorem and15 (b : Nat) (hb : b < 256) : Go.bits .and .u8 (b : Int) 15 = ((b % 16 : Nat) : Int) := by
  have := u8_and_nat b 15 hb (by decide)
  rw [show b &&& 15 = b % 16 from Nat.and_two_pow_sub_one_eq_mod b 4] at this
  exact this
theorem hexL_take (l : List Nat) (i : Nat) (h : i < l.length) : hexL (l.take (i + 1)) = hexL (l.take i) ++ [hexd (l.getD i 0 / 16), hexd (l.getD i 0 % 16)] := by
  rw [List.take_add_one, List.getElem?_eq_getElem h, hexL, List.flatMap_append]
  simp [hexL, List.getD_eq_getElem?_getD, List.getElem?_eq_getElem h]
theorem hex_l0 (s : ByteArray) (hs : s.size ≤ 1125899906842) (m : Nat) : ∀ k i, i + m = s.size → m + 1 ≤ k →
    sum_Hex.l0 k s ((hexL ((bts s).take i)).map fun n : Nat => (n : Int)) (s.size : Int) (i : Int) = some (strOfNums ((hexL (bts s)).map fun n : Nat => (n : Int))) := by
  induction m with
  | zero =>
    intro k i hi hk
    obtain ⟨k, rfl⟩ : ∃ k', k = k' + 1 := ⟨k - 1, by omega⟩
    rw [sum_Hex.l0, if_neg (by omega), List.take_of_length_le (by rw [bts_length]; omega)]
  | succ m ih =>
    intro k i hi hk
    obtain ⟨k, rfl⟩ : ∃ k', k = k' + 1 := ⟨k - 1, by omega⟩
    have hb := get_lt s i
    have hll : (hexL ((bts s).take i)).length = 2 * i := by rw [hexL_length, List.length_take, bts_length]; omega
    have := ih k (i + 1) (by omega) (by omega)
    rw [hexL_take _ _ (by rw [bts_length]; omega), List.map_append] at this
    rw [sum_Hex.l0, if_pos (by omega), if_pos (by omega), if_pos (by omega), bt_nat s i (by omega)]
    generalize (bts s).getD i 0 = b at hb this
    rw [and15 b hb, show ((b : Nat) : Int) / 16 = ((b / 16 : Nat) : Int) from rfl, if_pos (by omega), if_pos (by omega), if_pos (by omega), if_pos (by omega)]
    have d1 := digit_at (b / 16) (by omega)
    have d2 := digit_at (b % 16) (by omega)
    unfold D at d1 d2
    rw [Option.bind_some, d1, d2, if_pos (by rw [List.length_map, hll]; simp only [List.length_cons, List.length_nil]; omega), show wrap64 ((i : Int) + 1) = ((i + 1 : Nat) : Int) by rw [wrap64]; omega]
    exact this
theorem hex_at (s : ByteArray) (hs : s.size ≤ 1125899906842) (k : Nat) (hk : s.size + 1 ≤ k) : sum_Hex.f k s = some (strOfNums ((hexL (bts s)).map fun n : Nat => (n : Int))) :=
  hex_l0 s hs s.size k 0 (by omega) hk
/-- what Unhex answers -/
def unhexA (l : List Nat) : ByteArray × Bool := match unhexL l with
  | some r => (strOfNums (r.map fun n : Nat => (n : Int)), true)
  | none => (⟨#[]⟩, false)
theorem or_at (a b : Nat) (ha : a < 16) (hb : b < 16) : (Go.bits .or .i64 (wrap64 ((a : Int) * 16)) (b : Int)) % 256 = ((16 * a + b : Nat) : Int) := by
  have h : (List.range 16).all (fun a => (List.range 16).all fun b => (Go.bits .or .i64 (wrap64 ((a : Int) * 16)) (b : Int)) % 256 == ((16 * a + b : Nat) : Int)) = true := by decide +kernel
  exact beq_iff_eq.1 (List.all_eq_true.1 (List.all_eq_true.1 h a (List.mem_range.2 ha)) b (List.mem_range.2 hb))
theorem toList_nil (x : ByteArray) : x.toList = ([] : List UInt8) ↔ x.size = 0 := by
  rw [ByteArray.toList_eq]
  constructor
  · intro h; have := congrArg List.length h; rw [Array.length_toList] at this; exact this
  · intro h; exact List.eq_nil_of_length_eq_zero (by rw [Array.length_toList]; exact h)
theorem unhex_l0 (m : Nat) : ∀ (k : Nat) (x : ByteArray) (acc : List Nat), x.size = 2 * m → acc.length + 2 * m ≤ 112589990684262 → m + 1 ≤ k →
    sum_Unhex.l0 k x (acc.map fun n : Nat => (n : Int)) = some (match unhexL (bts x) with
      | some r => (strOfNums ((acc ++ r).map fun n : Nat => (n : Int)), true)
      | none => (⟨#[]⟩, false)) := by
  induction m with
  | zero =>
    intro k x acc hx ha hk
    obtain ⟨k, rfl⟩ : ∃ k', k = k' + 1 := ⟨k - 1, by omega⟩
    have hz : bts x = [] := List.eq_nil_of_length_eq_zero (by rw [bts_length]; omega)
    rw [sum_Unhex.l0, if_pos ((toList_nil x).2 (by omega)), hz]
    simp [unhexL]
  | succ m ih =>
    intro k x acc hx ha hk
    obtain ⟨k, rfl⟩ : ∃ k', k = k' + 1 := ⟨k - 1, by omega⟩
    have hlen := bts_length x
    have ha0 := bt_nat x 0 (by omega)
    have ha1 := bt_nat x 1 (by omega)
    have hlt := bts_lt x
    have he := bts_extract x 2 x.size
    obtain ⟨a, b, l, hl⟩ : ∃ a b l, bts x = a :: b :: l := by
      match h : bts x with
      | [] => rw [h] at hlen; simp at hlen; omega
      | [_] => rw [h] at hlen; simp at hlen; omega
      | a :: b :: l => exact ⟨a, b, l, rfl⟩
    rw [hl] at ha0 ha1 hlt hlen he
    rw [show ((0 : Nat) : Int) = 0 from rfl] at ha0
    rw [show ((1 : Nat) : Int) = 1 from rfl] at ha1
    simp only [List.getD_cons_zero, List.getD_cons_succ] at ha0 ha1
    have qa := hlt a (List.mem_cons_self ..)
    have qb := hlt b (List.mem_cons_of_mem _ (List.mem_cons_self ..))
    have i1 := index_at a qa
    have i2 := index_at b qb
    unfold D at i1 i2
    rw [sum_Unhex.l0, if_neg (fun e => by have := (toList_nil x).1 e; omega), if_pos (by omega), ha0, i1, Option.bind_some, if_pos (by omega), ha1, i2, Option.bind_some, hl, unhexL]
    by_cases h1 : digN a < 0
    · rw [if_pos h1, if_pos h1]
    rw [if_neg h1, if_neg h1]
    by_cases h2 : digN b < 0
    · rw [if_pos h2, if_pos h2]
    rw [if_neg h2, if_neg h2]
    obtain ⟨_, a2⟩ := hexd_dig a h1
    obtain ⟨_, b2⟩ := hexd_dig b h2
    have e : (Go.bits .or .i64 (wrap64 (digN a * 16)) (digN b)) % 256 = ((16 * (digN a).toNat + (digN b).toNat : Nat) : Int) := by
      have := or_at _ _ a2 b2
      rw [Int.toNat_of_nonneg (by omega), Int.toNat_of_nonneg (by omega)] at this
      exact this
    have hsz : (x.extract 2 x.size).size = 2 * m := by rw [ByteArray.size_extract]; omega
    have hbt : bts (x.extract 2 x.size) = l := by
      rw [he]
      simp only [List.drop_succ_cons, List.drop_zero]
      rw [List.take_of_length_le]
      simp only [List.length_cons] at hlen; omega
    rw [if_pos (by rw [List.length_map]; omega), if_pos (by omega), e]
    have := ih k (x.extract 2 x.size) (acc ++ [16 * (digN a).toNat + (digN b).toNat]) hsz (by rw [List.length_append, List.length_cons, List.length_nil]; omega) (by omega)
    rw [List.map_append, hbt] at this
    refine this.trans ?_
    cases unhexL l with
    | none => rfl
    | some r => simp only [Option.map_some, List.append_assoc]; rfl
theorem unhex_at (s : ByteArray) (hs : s.size ≤ 112589990684262) (k : Nat) (hk : s.size + 1 ≤ k) : sum_Unhex.f k s = some (if s.size % 2 = 0 then unhexA (bts s) else (⟨#[]⟩, false)) := by
  unfold sum_Unhex.f
  by_cases h : s.size % 2 = 0
  · rw [if_pos (by omega), if_pos h]
    exact unhex_l0 (s.size / 2) k s [] (by omega) (by simp only [List.length_nil]; omega) (by omega)
  · rw [if_neg (by omega), if_neg h]
end Go.Proofs.Ytloieoneckjjeaa.HexL
