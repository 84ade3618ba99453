/- Texts of this claim, merged: what the functions that the law reaches compute, and what that says. -/
import Derived.Test.YtkhkppehdgkboaaKA14
import Derived.Test.YtkhkppehdgkboaaKA15
import Derived.Test.YtkhkppehdgkboaaKA16
section MkC_
namespace Go.Proofs.Ytkhkppehdgkboaa.Mk
open Go.RowKit Go.Proofs.Ytkhkppehdgkboaa.P Go.Proofs.YtkhkppehdgkboaaW.PrintWords Go.Proofs.YtkhkppehdgkboaaW.PrintLast Go.Proofs.YtkhkppehdgkboaaW.PrintMore
set_option linter.unusedVariables false
theorem bytes_inj {a b : ByteArray} (h : a.toList = b.toList) : a = b := by
  rw [Go.ByteArray.toList_eq, Go.ByteArray.toList_eq] at h
  exact ByteArray.ext (Array.toList_inj.1 h)
theorem rd_nat (l : List ByteArray) (i : Nat) : rdOf ByteArray.empty l (i : Int) = l.getD i ByteArray.empty := by rw [rdOf, Int.toNat_natCast]
theorem drop_getD (l : List ByteArray) (i : Nat) (h : i < l.length) : l.drop i = l.getD i ByteArray.empty :: l.drop (i + 1) := by
  rw [List.drop_eq_getElem_cons h, List.getD_eq_getElem?_getD, List.getElem?_eq_getElem h]; rfl
theorem getD_mem (l : List ByteArray) (i : Nat) (h : i < l.length) : l.getD i ByteArray.empty ∈ l := by
  rw [List.getD_eq_getElem?_getD, List.getElem?_eq_getElem h]; exact List.getElem_mem h
/-- all strings are digests -/
def all32 (l : List ByteArray) : Bool := l.all fun x => x.size == 32
theorem all32_cons (x : ByteArray) (l : List ByteArray) : all32 (x :: l) = (x.size == 32 && all32 l) := rfl
theorem all32_mem {l : List ByteArray} (h : all32 l = true) : ∀ x ∈ l, x.size = 32 := fun x hx => by simpa using List.all_eq_true.1 h x hx
theorem all32_of {l : List ByteArray} (h : ∀ x ∈ l, x.size = 32) : all32 l = true := List.all_eq_true.2 fun x hx => by simpa using h x hx
theorem digests_l0 (l : List ByteArray) (hl : l.length ≤ 100000) : ∀ (k i : Nat), l.length - i < k → merkle_digests.l0 k l (l.length : Int) (i : Int) = some (all32 (l.drop i))
  | 0, i, h => by omega
  | k + 1, i, h => by
    rw [merkle_digests.l0]
    by_cases hi : i < l.length
    · rw [if_pos (by omega), if_pos (by omega), if_pos (by omega), rd_nat, drop_getD l i hi, all32_cons]
      by_cases hx : (l.getD i ByteArray.empty).size = 32
      · rw [if_pos (by omega), show (i : Int) + 1 = ((i + 1 : Nat) : Int) by omega, wrap_nat _ (by omega), digests_l0 l hl k (i + 1) (by omega), hx]; rfl
      · rw [if_neg (by omega), beq_eq_false_iff_ne.mpr hx]; rfl
    · rw [if_neg (by omega), List.drop_eq_nil_of_le (by omega)]; rfl
theorem digests_at (k : Nat) (l : List ByteArray) (hl : l.length ≤ 100000) (hk : l.length < k) : merkle_digests.f k l = some (all32 l) := digests_l0 l hl k 0 hk
theorem turns_l0 : ∀ (f k i n : Nat) (out : List Bool), n ≤ 2 ^ f → f ≤ 63 → n < 9223372036854775808 → i < n → f + 1 < k → out.length + f ≤ 1000 → merkle_turns.l0 k (i : Int) (n : Int) out = some (out ++ way i n)
  | f, 0, i, n, out, _, _, _, _, h, _ => by omega
  | f, k + 1, i, n, out, hn, hf, hb, hi, hk, ho => by
    rw [merkle_turns.l0]
    by_cases h2 : 2 ≤ n
    · match f, hn, hf, hk, ho with
      | 0, hn, hf, hk, ho => omega
      | f + 1, hn, hf, hk, ho =>
      have a := spl_half n f h2 hn
      have p1 := spl_pos n
      have p2 := spl_lt n h2
      have p : n ≤ 2 ^ 64 := by omega
      rw [if_pos (by omega), split_at k n (by omega) h2 hb, Option.bind_some, if_pos (by omega), Option.bind_some, way_more i n h2 p]
      by_cases h3 : i < spl n
      · rw [if_pos (by omega), if_pos h3, turns_l0 f k i (spl n) _ a.1 (by omega) (by omega) h3 (by omega) (by rw [List.length_append, List.length_singleton]; omega), decide_eq_true (by omega), List.append_assoc]; rfl
      · rw [if_neg (by omega), if_neg h3, show wrap64 ((i : Int) - (spl n : Int)) = ((i - spl n : Nat) : Int) by rw [wrap64]; omega, show wrap64 ((n : Int) - (spl n : Int)) = ((n - spl n : Nat) : Int) by rw [wrap64]; omega,
          turns_l0 f k (i - spl n) (n - spl n) _ a.2 (by omega) (by omega) (by omega) (by omega) (by rw [List.length_append, List.length_singleton]; omega), decide_eq_false (by omega), List.append_assoc]; rfl
    · rw [if_neg (by omega), way_one i n (by omega), List.append_nil]
theorem turns_at (k i n : Nat) (hn : n < 9223372036854775808) (hi : i < n) (hk : 65 ≤ k) : merkle_turns.f k (i : Int) (n : Int) = some (way i n) := by
  rw [merkle_turns.f, turns_l0 63 k i n [] (by omega) (Nat.le_refl _) hn hi (by omega) (by simp)]; rfl
theorem take_rev (p : List ByteArray) (i : Nat) (h : i < p.length) : (p.take (i + 1)).reverse = p.getD i ByteArray.empty :: (p.take i).reverse := by
  rw [List.take_add_one, List.getElem?_eq_getElem h, List.getD_eq_getElem?_getD, List.getElem?_eq_getElem h, List.reverse_append]; rfl
theorem drop_way (w : List Bool) (j : Nat) (h : j < w.length) : w.drop j = w.getD j false :: w.drop (j + 1) := by
  rw [List.drop_eq_getElem_cons h, List.getD_eq_getElem?_getD, List.getElem?_eq_getElem h]; rfl
theorem size_at (p : List ByteArray) (hp : ∀ y ∈ p, y.size = 32) (i : Nat) (h : i < p.length) : (p.getD i ByteArray.empty).size ≤ 1000000000 := by rw [hp _ (getD_mem p i h)]; omega
theorem inc_l0 (x root : ByteArray) (w : List Bool) (p : List ByteArray) (hx : x.size = 32) (hp : ∀ y ∈ p, y.size = 32) (hl : w.length = p.length) (hb : p.length ≤ 100000) : ∀ (m k i : Nat), i + m = p.length → m < k →
    merkle_Includes.l0 k (up x (w.drop (p.length - i)) (p.take i).reverse) root w p (p.length : Int) (i : Int) = some ((up x w p.reverse).toList == root.toList)
  | m, 0, i, _, h => by omega
  | 0, k + 1, i, h, _ => by
    rw [merkle_Includes.l0, if_neg (by omega), List.take_of_length_le (by omega), show p.length - i = 0 by omega, List.drop_zero]
  | m + 1, k + 1, i, h, hk => by
    have e1 : wrap64 ((wrap64 ((w.length : Int) - 1)) - (i : Int)) = ((p.length - (i + 1) : Nat) : Int) := by
      rw [show wrap64 ((w.length : Int) - 1) = ((p.length - 1 : Nat) : Int) by rw [wrap64]; omega, wrap64]; omega
    have ih := inc_l0 x root w p hx hp hl hb m k (i + 1) (by omega) (by omega)
    have hX := up_size x hx (w.drop (p.length - i)) (p.take i).reverse
    rw [drop_way w (p.length - (i + 1)) (by omega), show p.length - (i + 1) + 1 = p.length - i by omega, take_rev p i (by omega), up] at ih
    rw [merkle_Includes.l0, if_pos (by omega), if_pos (by omega), if_pos (by omega), e1, if_pos (by omega), if_pos (by omega), rdOf, Int.toNat_natCast, rd_nat, show (i : Int) + 1 = ((i + 1 : Nat) : Int) by omega, wrap_nat _ (by omega)]
    by_cases hw : w.getD (p.length - (i + 1)) false = true
    · rw [if_pos hw] at ih
      rw [if_pos hw, node_at _ _ (by omega) (size_at p hp i (by omega)), Option.bind_some, ih]
    · rw [if_neg hw] at ih
      rw [if_neg hw, node_at _ _ (size_at p hp i (by omega)) (by omega), Option.bind_some, ih]
/-- what Includes says -/
def incB (x : ByteArray) (i n : Int) (root : ByteArray) (p : List ByteArray) : Bool :=
  decide (0 ≤ i) && decide (i < n) && (x.size == 32) && all32 p && ((way i.toNat n.toNat).length == p.length) && ((up x (way i.toNat n.toNat) p.reverse).toList == root.toList)
theorem inc_j0 (x : ByteArray) (i n : Int) (root : ByteArray) (p : List ByteArray) (k : Nat) (hk : 1 ≤ k) : merkle_Includes.j0 k x i n root p true = some false := by
  obtain ⟨k, rfl⟩ : ∃ k', k = k' + 1 := ⟨k - 1, by omega⟩
  rw [merkle_Includes.j0, if_pos rfl]
theorem includes_at (x : ByteArray) (i n : Int) (root : ByteArray) (p : List ByteArray) (hn : n < 9223372036854775808) (hp : p.length ≤ 1000) (k : Nat) (hk : 1200 ≤ k) : merkle_Includes.f k x i n root p = some (incB x i n root p) := by
  rw [merkle_Includes.f, incB]
  by_cases h0 : i < 0
  · rw [if_pos h0, inc_j0 _ _ _ _ _ _ (by omega), decide_eq_false (show ¬ 0 ≤ i by omega)]; rfl
  rw [if_neg h0]
  by_cases h1 : i ≥ n
  · rw [if_pos h1, inc_j0 _ _ _ _ _ _ (by omega), decide_eq_false (show ¬ i < n by omega), Bool.and_false]; rfl
  rw [if_neg h1, decide_eq_true (show 0 ≤ i by omega), decide_eq_true (show i < n by omega), digests_at k [x] (by simp) (by simp only [List.length_singleton]; omega), Option.bind_some, all32_cons]
  by_cases h2 : x.size = 32
  · rw [h2, show ((32 == 32) && all32 []) = true from rfl, if_pos rfl, digests_at k p (by omega) (by omega), Option.bind_some]
    cases h3 : all32 p
    · rw [Bool.not_false, inc_j0 _ _ _ _ _ _ (by omega)]; rfl
    obtain ⟨k, rfl⟩ : ∃ k', k = k' + 1 := ⟨k - 1, by omega⟩
    obtain ⟨i, rfl⟩ := Int.eq_ofNat_of_zero_le (show 0 ≤ i by omega)
    obtain ⟨n, rfl⟩ := Int.eq_ofNat_of_zero_le (show 0 ≤ n by omega)
    simp only [Int.toNat_natCast]
    rw [Bool.not_true, merkle_Includes.j0, if_neg (by decide), turns_at k i n (by omega) (by omega) (by omega), Option.bind_some]
    by_cases h4 : (way i n).length = p.length
    · have := inc_l0 x root (way i n) p h2 (all32_mem h3) h4 (by omega) p.length k 0 (by omega) (by omega)
      rw [Nat.sub_zero, List.drop_eq_nil_of_le (by omega), List.take_zero, List.reverse_nil, show up x [] [] = x by simp [up]] at this
      rw [if_pos (by omega), show (0 : Int) = ((0 : Nat) : Int) from rfl, this, h4]
      simp only [beq_self_eq_true, Bool.and_true, Bool.true_and]
    · rw [if_neg (by omega), beq_eq_false_iff_ne.mpr h4, Bool.and_false]; rfl
  · rw [beq_eq_false_iff_ne.mpr h2, Bool.false_and, if_neg (by decide), inc_j0 _ _ _ _ _ _ (by omega)]; rfl
theorem same_l0 (a b : List ByteArray) (hl : a.length = b.length) (hb : a.length ≤ 100000) : ∀ (m k i : Nat), i + m = a.length → m < k → agoraref08_Same.l0 k a b (i : Int) = some (decide (a.drop i = b.drop i))
  | m, 0, i, _, h => by omega
  | 0, k + 1, i, h, _ => by rw [agoraref08_Same.l0, if_neg (by omega), List.drop_eq_nil_of_le (by omega), List.drop_eq_nil_of_le (by omega)]; rfl
  | m + 1, k + 1, i, h, hk => by
    rw [agoraref08_Same.l0, if_pos (by omega), if_pos (by omega), if_pos (by omega), rd_nat, rd_nat, drop_getD a i (by omega), drop_getD b i (by omega), show (i : Int) + 1 = ((i + 1 : Nat) : Int) by omega, wrap_nat _ (by omega)]
    by_cases e : a.getD i ByteArray.empty = b.getD i ByteArray.empty
    · rw [if_pos (by rw [e]), same_l0 a b hl hb m k (i + 1) (by omega) (by omega), e]
      simp
    · rw [if_neg (fun h => e (bytes_inj h))]
      rw [decide_eq_false]
      intro h
      injection h with h
      exact e h
theorem same_at (a b : List ByteArray) (hb : a.length ≤ 100000) (k : Nat) (hk : a.length < k) : agoraref08_Same.f k a b = some (decide (a = b)) := by
  rw [agoraref08_Same.f]
  by_cases h : a.length = b.length
  · rw [if_pos (by omega), show (0 : Int) = ((0 : Nat) : Int) from rfl, same_l0 a b h hb a.length k 0 (by omega) hk, List.drop_zero, List.drop_zero]
  · rw [if_neg (by omega), decide_eq_false (fun e => h (by rw [e]))]
/-- the end of Extends: both roots are the given ones -/
def extT (old now : ByteArray) (l : List ByteArray) (w : List Bool) (s : ByteArray) : Bool := (w.length == l.length) && ((upA s w l.reverse).toList == old.toList) && ((up s w l.reverse).toList == now.toList)
theorem ext_l1 (s old now : ByteArray) (w : List Bool) (p : List ByteArray) (hx : s.size = 32) (hp : ∀ y ∈ p, y.size = 32) (hl : w.length = p.length) (hb : p.length ≤ 100000) : ∀ (m k i : Nat), i + m = p.length → m < k →
    merkle_Extends.l1 k old now w (upA s (w.drop (p.length - i)) (p.take i).reverse) (up s (w.drop (p.length - i)) (p.take i).reverse) p (p.length : Int) (i : Int) = some (((upA s w p.reverse).toList == old.toList) && ((up s w p.reverse).toList == now.toList))
  | m, 0, i, _, h => by omega
  | 0, k + 1, i, h, _ => by
    rw [merkle_Extends.l1, if_neg (by omega), List.take_of_length_le (by omega), show p.length - i = 0 by omega, List.drop_zero]
    by_cases e : (upA s w p.reverse).toList = old.toList
    · rw [if_pos e, e, beq_self_eq_true]; rfl
    · rw [if_neg e, beq_eq_false_iff_ne.mpr e]; rfl
  | m + 1, k + 1, i, h, hk => by
    have e1 : wrap64 ((wrap64 ((w.length : Int) - 1)) - (i : Int)) = ((p.length - (i + 1) : Nat) : Int) := by
      rw [show wrap64 ((w.length : Int) - 1) = ((p.length - 1 : Nat) : Int) by rw [wrap64]; omega, wrap64]; omega
    have ih := ext_l1 s old now w p hx hp hl hb m k (i + 1) (by omega) (by omega)
    have hX := up_size s hx (w.drop (p.length - i)) (p.take i).reverse
    have hY := upA_size s hx (w.drop (p.length - i)) (p.take i).reverse
    rw [drop_way w (p.length - (i + 1)) (by omega), show p.length - (i + 1) + 1 = p.length - i by omega, take_rev p i (by omega), up, upA] at ih
    rw [merkle_Extends.l1, if_pos (by omega), if_pos (by omega), if_pos (by omega), e1, if_pos (by omega), if_pos (by omega), rdOf, Int.toNat_natCast, rd_nat, show (i : Int) + 1 = ((i + 1 : Nat) : Int) by omega, wrap_nat _ (by omega)]
    by_cases hw : w.getD (p.length - (i + 1)) false = true
    · rw [if_pos hw, if_pos hw] at ih
      rw [if_pos hw, node_at _ _ (by omega) (size_at p hp i (by omega)), Option.bind_some, ih]
    · rw [if_neg hw, if_neg hw] at ih
      rw [if_neg hw, node_at _ _ (size_at p hp i (by omega)) (by omega), Option.bind_some, node_at _ _ (size_at p hp i (by omega)) (by omega), Option.bind_some, ih]
theorem ext_j2 (old now s : ByteArray) (p : List ByteArray) (w : List Bool) (hx : s.size = 32) (hp : ∀ y ∈ p, y.size = 32) (hb : p.length ≤ 1000) (k : Nat) (hk : 1100 ≤ k) : merkle_Extends.j2 k old now p w s s = some (extT old now p w s) := by
  obtain ⟨k, rfl⟩ : ∃ k', k = k' + 1 := ⟨k - 1, by omega⟩
  rw [merkle_Extends.j2, extT]
  by_cases h : w.length = p.length
  · have := ext_l1 s old now w p hx hp h (by omega) p.length k 0 (by omega) (by omega)
    rw [Nat.sub_zero, List.drop_eq_nil_of_le (by omega), List.take_zero, List.reverse_nil, show up s [] [] = s by simp [up], show upA s [] [] = s by simp [upA]] at this
    rw [if_pos (by omega), show (0 : Int) = ((0 : Nat) : Int) from rfl, this, h, beq_self_eq_true, Bool.true_and]
  · rw [if_neg (by omega), beq_eq_false_iff_ne.mpr h]; rfl
/-- what Extends says behind its guards, with the way known -/
def extW (old now : ByteArray) (l : List ByteArray) (w : List Bool) (mk : Bool) : Bool := if mk = true then extT old now l w old else match l with
  | [] => false
  | q :: r => extT old now r w q
theorem extW_true (old now : ByteArray) (l : List ByteArray) (w : List Bool) : extW old now l w true = extT old now l w old := rfl
theorem extW_nil (old now : ByteArray) (w : List Bool) : extW old now [] w false = false := rfl
theorem extW_cons (old now : ByteArray) (q : ByteArray) (r : List ByteArray) (w : List Bool) : extW old now (q :: r) w false = extT old now r w q := rfl
theorem ext_l0 (old now : ByteArray) (l : List ByteArray) (ho : old.size = 32) (hp : ∀ y ∈ l, y.size = 32) (hb : l.length ≤ 1000) : ∀ (k m n : Nat) (mk : Bool) (ws : List Bool), 1 ≤ m → m ≤ n → n ≤ 100000 → ws.length + n ≤ 1000000 → n + 1100 < k →
    merkle_Extends.l0 k (m : Int) (n : Int) old now l mk ws = some (extW old now l (ws ++ (wayL m n).1) (mk && (wayL m n).2))
  | 0, m, n, mk, ws, _, _, _, _, h => by omega
  | k + 1, m, n, mk, ws, h1, hm, hn, hw, hk => by
    rw [merkle_Extends.l0]
    by_cases hl : m < n
    · have p1 := spl_pos n
      have p2 := spl_lt n (by omega)
      rw [if_pos (by omega), split_at k n (by omega) (by omega) (by omega), Option.bind_some, if_pos (by omega), Option.bind_some, wayL_more m n h1 hl]
      by_cases h3 : m ≤ spl n
      · rw [if_pos (by omega), if_pos h3, ext_l0 old now l ho hp hb k m (spl n) mk _ h1 h3 (by omega) (by rw [List.length_append, List.length_singleton]; omega) (by omega), decide_eq_true (by omega), List.append_assoc]; rfl
      · rw [if_neg (by omega), if_neg h3, show wrap64 ((m : Int) - (spl n : Int)) = ((m - spl n : Nat) : Int) by rw [wrap64]; omega, show wrap64 ((n : Int) - (spl n : Int)) = ((n - spl n : Nat) : Int) by rw [wrap64]; omega,
          ext_l0 old now l ho hp hb k (m - spl n) (n - spl n) false _ (by omega) (by omega) (by omega) (by rw [List.length_append, List.length_singleton]; omega) (by omega), decide_eq_false (by omega), List.append_assoc, Bool.false_and, Bool.and_false]; rfl
    · rw [if_neg (by omega), wayL_eq m n (by omega), List.append_nil, Bool.and_true]
      cases mk
      · rw [if_neg (by decide)]
        match l, hp, hb with
        | [], hp, hb => rw [extW_nil, if_pos (by simp)]
        | q :: r, hp, hb =>
          rw [extW_cons, if_neg (by simp only [List.length_cons]; omega), if_pos (by simp only [List.length_cons]; omega), if_pos (by simp only [List.length_cons]; omega)]
          have hb' : r.length ≤ 1000 := by simp only [List.length_cons] at hb; omega
          exact ext_j2 old now q r ws (hp q (List.mem_cons_self ..)) (fun y hy => hp y (List.mem_cons_of_mem _ hy)) hb' k (by omega)
      · rw [if_pos rfl, extW_true]
        exact ext_j2 old now old l ws ho hp hb k (by omega)
theorem ext_j0 (m n : Int) (old now : ByteArray) (l : List ByteArray) (k : Nat) (hk : 1 ≤ k) : merkle_Extends.j0 k m n old now l true = some false := by
  obtain ⟨k, rfl⟩ : ∃ k', k = k' + 1 := ⟨k - 1, by omega⟩
  rw [merkle_Extends.j0, if_pos rfl]
/-- what Extends says -/
def extB (m n : Nat) (old now : ByteArray) (l : List ByteArray) : Bool :=
  decide (m ≤ n) && (old.size == 32) && (now.size == 32) && all32 l && (if m = 0 then (old.toList == (Sch.shaB ⟨#[]⟩).toList) && (l.length == 0) else extW old now l (wayL m n).1 (wayL m n).2)
theorem extends_at (m n : Nat) (old now : ByteArray) (l : List ByteArray) (hn : n ≤ 1000) (hm : m ≤ 1000) (hp : l.length ≤ 1000) (k : Nat) (hk : 3000 ≤ k) : merkle_Extends.f k (m : Int) (n : Int) old now l = some (extB m n old now l) := by
  rw [merkle_Extends.f, extB, if_neg (by omega)]
  by_cases h1 : m ≤ n
  · rw [if_neg (by omega), decide_eq_true h1, digests_at k [old, now] (by simp) (by simp only [List.length_cons, List.length_nil]; omega), Option.bind_some, all32_cons, all32_cons, show all32 [] = true from rfl, Bool.and_true, Bool.true_and]
    cases h2 : (old.size == 32) && (now.size == 32)
    · rw [if_neg (by decide), ext_j0 _ _ _ _ _ _ (by omega)]; rfl
    rw [if_pos rfl, digests_at k l (by omega) (by omega), Option.bind_some, Bool.true_and]
    cases h3 : all32 l
    · rw [Bool.not_false, ext_j0 _ _ _ _ _ _ (by omega)]; rfl
    obtain ⟨k, rfl⟩ : ∃ k', k = k' + 1 := ⟨k - 1, by omega⟩
    rw [Bool.not_true, merkle_Extends.j0, if_neg (by decide), Bool.true_and]
    have ho : old.size = 32 := by simp only [Bool.and_eq_true, beq_iff_eq] at h2; exact h2.1
    by_cases h0 : m = 0
    · subst h0
      rw [if_pos (show ((0 : Nat) : Int) = 0 from rfl), if_pos rfl, sum_Sha.f, if_pos (by decide), Option.bind_some]
      by_cases e : old.toList = (Sch.shaB ⟨#[]⟩).toList
      · rw [if_pos e, e, beq_self_eq_true, Bool.true_and]
        congr 1
        cases l <;> rfl
      · rw [if_neg e, beq_eq_false_iff_ne.mpr e]; rfl
    · rw [if_neg (by omega), if_neg h0, ext_l0 old now l ho (all32_mem h3) hp k m n true [] (by omega) h1 (by omega) (by simp only [List.length_nil]; omega) (by omega), List.nil_append, Bool.true_and]
  · rw [if_pos (by omega), ext_j0 _ _ _ _ _ _ (by omega), decide_eq_false h1]; rfl
end Go.Proofs.Ytkhkppehdgkboaa.Mk
end MkC_
section MkSmall_
namespace Go.Proofs.Ytkhkppehdgkboaa.Mk
open Go.RowKit Go.Proofs.Ytkhkppehdgkboaa.P Go.Proofs.YtkhkppehdgkboaaW.PrintWords Go.Proofs.YtkhkppehdgkboaaW.PrintLast Go.Proofs.YtkhkppehdgkboaaW.PrintMore
set_option maxRecDepth 1000000 in
theorem small_ok : agoralaw08_small.f 200 = some true := by decide +kernel
theorem small_up : ∀ d : Nat, agoralaw08_small.f (200 + d) = some true
  | 0 => small_ok
  | d + 1 => agoralaw08_small.mono (200 + d) _ (small_up d)
theorem small_at (k : Nat) (h : 200 ≤ k) : agoralaw08_small.f k = some true := by
  have := small_up (k - 200)
  rwa [show 200 + (k - 200) = k by omega] at this
end Go.Proofs.Ytkhkppehdgkboaa.Mk
end MkSmall_
