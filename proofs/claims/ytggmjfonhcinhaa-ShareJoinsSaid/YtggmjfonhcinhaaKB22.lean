/- Texts of this claim, merged: what the functions that the law reaches compute, and what that says. -/
import Derived.Test.YtggmjfonhcinhaaKB13
import Derived.Test.YtggmjfonhcinhaaKB18
import Derived.Test.YtggmjfonhcinhaaKB19
import Derived.Test.YtggmjfonhcinhaaKB21
section ShrS_
namespace Go.Proofs.Ytggmjfonhcinhaa.Shr
open Go.RowKit Go.Proofs.Ytggmjfonhcinhaa.P Go.Proofs.Ytggmjfonhcinhaa.ShaL Go.Proofs.Ytggmjfonhcinhaa.NumS Go.Proofs.YtggmjfonhcinhaaW.PrintWords Go.Proofs.YtggmjfonhcinhaaW.PrintLast Go.Proofs.YtggmjfonhcinhaaW.PrintMore
set_option linter.unusedVariables false
theorem sz_of (l : List Int) : (strOfNums l).size = l.length := by simp [strOfNums, ByteArray.size]
def numB (n : Int) : ByteArray := strOfNums ((numF 9 n.toNat).map fun n : Nat => (n : Int))
theorem numF_length (k n : Nat) : (numF k n).length ≤ k + 1 := by
  induction k generalizing n with
  | zero => simp [numF]
  | succ k ih =>
    rw [numF]; split
    · simp
    · have := ih (n / 128); rw [List.length_cons]; omega
theorem numB_size (n : Int) : (numB n).size ≤ 10 := by rw [numB, sz_of, List.length_map]; exact numF_length 9 _
theorem num_at (n : Int) (h0 : 0 ≤ n) (h : n < 9223372036854775808) : code_Num.f n = some (numB n) := by
  unfold code_Num.f
  rw [if_neg (by omega), if_pos h]; rfl
def textB (s : ByteArray) : ByteArray := numB (s.size : Int) ++ s
theorem textB_size (s : ByteArray) : (textB s).size ≤ 10 + s.size := by
  rw [textB, ByteArray.size_append]; have := numB_size (s.size : Int); omega
theorem text_at (s : ByteArray) (h : s.size ≤ 4000) : code_Text.f s = some (textB s) := by
  have := numB_size (s.size : Int)
  unfold code_Text.f
  rw [num_at _ (by omega) (by omega), Option.bind_some, if_pos (by omega)]; rfl
/-- the coefficient of a seed -/
def coefN (seed : ByteArray) (i : Nat) : Int := ((numN (bts (Sch.shaB (textB seed ++ numB (i : Int)))) : Nat) : Int)
def coef (seed : ByteArray) (i : Nat) : Int := Int.tmod (coefN seed i) 2305843009213693951
/-- the first i coefficients -/
def csI (secret : Int) (seed : ByteArray) (i : Nat) : List Int := secret :: (List.range (i - 1)).map fun j => coef seed (j + 1)
theorem csI_length (secret : Int) (seed : ByteArray) (i : Nat) (h : 1 ≤ i) : (csI secret seed i).length = i := by rw [csI, List.length_cons, List.length_map, List.length_range]; omega
theorem csI_succ (secret : Int) (seed : ByteArray) (i : Nat) (h : 1 ≤ i) : csI secret seed i ++ [coef seed i] = csI secret seed (i + 1) := by
  unfold csI
  rw [show i + 1 - 1 = (i - 1) + 1 by omega, List.range_succ, List.map_append, List.cons_append]
  simp only [List.map_cons, List.map_nil]
  rw [show i - 1 + 1 = i by omega]
def csF (secret : Int) (seed : ByteArray) (t : Nat) : List F := (csI secret seed t).map cl
/-- the first m shares of a polynomial -/
def shL (cs : List F) (m : Nat) : List S38 := (List.range m).map fun j => ⟨((j + 1 : Nat) : Int), nm (ev cs (cl ((j + 1 : Nat) : Int)))⟩
theorem shL_length (cs : List F) (m : Nat) : (shL cs m).length = m := by simp [shL]
theorem shL_succ (cs : List F) (m : Nat) : shL cs m ++ [⟨((m + 1 : Nat) : Int), nm (ev cs (cl ((m + 1 : Nat) : Int)))⟩] = shL cs (m + 1) := by
  unfold shL
  rw [List.range_succ, List.map_append]; rfl
theorem shL_at (cs : List F) (m i : Nat) (h : i < m) : (shL cs m).getD i z38 = ⟨((i + 1 : Nat) : Int), nm (ev cs (cl ((i + 1 : Nat) : Int)))⟩ := by
  rw [List.getD_eq_getElem?_getD, shL, List.getElem?_map, List.getElem?_range h]; rfl
theorem split_l2 (ci : List Int) (n : Int) (acc : List S38) (x : Int) (hc : ci.length ≤ 100) (ha : acc.length ≤ 100) (R : List S38 × Bool) (K : Nat) (hK : 100 ≤ K) : ∀ (m k q : Nat) (y p : F), q + m = ci.length → m + K < k →
    (∀ k', K ≤ k' → share_Split.l1 k' n ci (acc ++ [⟨x, nm (y + p * ev ((ci.drop q).map cl) (cl x))⟩]) (wrap64 (x + 1)) = some R) →
    share_Split.l2 k n ci acc x (nm y) (nm p) ci (ci.length : Int) (q : Int) = some R
  | m, 0, q, y, p, _, h, _ => by omega
  | 0, k + 1, q, y, p, h, hk, hR => by
    have := hR k (by omega)
    rw [List.drop_eq_nil_of_le (by omega)] at this
    simp only [List.map_nil, ev] at this
    rw [show y + p * 0 = y by grobner] at this
    rw [share_Split.l2, if_neg (by omega), if_pos (by omega)]
    exact this
  | m + 1, k + 1, q, y, p, h, hk, hR => by
    have hq : q < ci.length := by omega
    have e1 : rd ci (q : Int) = ci[q] := by rw [rd, Int.toNat_natCast, List.getD_eq_getElem?_getD, List.getElem?_eq_getElem hq]; rfl
    rw [share_Split.l2, if_pos (by omega), if_pos (by omega), if_pos (by omega), e1, g_mul (by omega), Option.bind_some, g_add, Option.bind_some, g_mul (by omega), Option.bind_some, cl_nm, cl_nm, cl_nm, show (q : Int) + 1 = ((q + 1 : Nat) : Int) by omega, wrap_in _ (by omega) (by omega)]
    refine split_l2 ci n acc x hc ha R K hK m k (q + 1) _ _ (by omega) (by omega) (fun k' hk' => ?_)
    have := hR k' hk'
    rw [List.drop_eq_getElem_cons hq, List.map_cons, ev] at this
    rw [show y + cl ci[q] * p + p * cl x * ev ((ci.drop (q + 1)).map cl) (cl x) = y + p * (cl ci[q] + cl x * ev ((ci.drop (q + 1)).map cl) (cl x)) by grobner]
    exact this
theorem split_l1 (ci : List Int) (n : Nat) (hc : ci.length ≤ 64) (hn : n ≤ 64) : ∀ (d k m : Nat), m + d = n → 300 * d + 200 ≤ k → share_Split.l1 k (n : Int) ci (shL (ci.map cl) m) ((m + 1 : Nat) : Int) = some (shL (ci.map cl) n, true)
  | d, 0, m, _, h => by omega
  | 0, k + 1, m, h, hk => by
    rw [share_Split.l1, if_neg (by omega), show m = n by omega]
  | d + 1, k + 1, m, h, hk => by
    rw [share_Split.l1, if_pos (by omega)]
    show share_Split.l2 k (n : Int) ci (shL (ci.map cl) m) ((m + 1 : Nat) : Int) (nm 0) (nm 1) ci (ci.length : Int) ((0 : Nat) : Int) = _
    refine split_l2 ci n _ _ (by omega) (by rw [shL_length]; omega) _ (300 * d + 200) (by omega) ci.length k 0 0 1 (by omega) (by omega) (fun k' hk' => ?_)
    rw [List.drop_zero, show (0 : F) + 1 * ev (ci.map cl) (cl ((m + 1 : Nat) : Int)) = ev (ci.map cl) (cl ((m + 1 : Nat) : Int)) by grobner, shL_succ, show ((m + 1 : Nat) : Int) + 1 = ((m + 1 + 1 : Nat) : Int) by omega, wrap_in _ (by omega) (by omega)]
    exact split_l1 ci n hc hn d k' (m + 1) (by omega) hk'
theorem split_l0 (secret : Int) (seed : ByteArray) (hs : seed.size ≤ 1000) (t n : Nat) (ht : t ≤ 64) (hn : n ≤ 64) : ∀ (d k i : Nat), 1 ≤ i → i + d = t → d + 300 * n + 300 ≤ k → share_Split.l0 k (t : Int) (n : Int) seed (csI secret seed i) (i : Int) = some (shL (csF secret seed t) n, true)
  | d, 0, i, _, _, h => by omega
  | 0, k + 1, i, h1, h, hk => by
    rw [share_Split.l0, if_neg (by omega), if_pos (by omega), if_pos (by omega), show i = t by omega]
    exact split_l1 (csI secret seed t) n (by rw [csI_length _ _ _ (by omega)]; omega) hn n k 0 (by omega) (by omega)
  | d + 1, k + 1, i, h1, h, hk => by
    have b1 := textB_size seed
    have b2 := numB_size (i : Int)
    rw [share_Split.l0, if_pos (by omega), text_at _ (by omega), Option.bind_some, num_at _ (by omega) (by omega), Option.bind_some, if_pos (by omega), sum_Sha.f, if_pos (by rw [ByteArray.size_append]; omega), Option.bind_some, NumS.num_at _ k (by omega), Option.bind_some, csI_length _ _ _ h1, if_pos (by omega),
      show (i : Int) + 1 = ((i + 1 : Nat) : Int) by omega, wrap_in _ (by omega) (by omega)]
    show share_Split.l0 k (t : Int) (n : Int) seed (csI secret seed i ++ [coef seed i]) _ = _
    rw [csI_succ _ _ _ h1]
    exact split_l0 secret seed hs t n ht hn d k (i + 1) (by omega) (by omega) (by omega)
theorem split_ok (secret : Int) (t n : Nat) (seed : ByteArray) (hs : seed.size ≤ 1000) (h1 : 1 ≤ t) (h2 : t ≤ n) (h3 : n ≤ 64) (h4 : 0 ≤ secret) (h5 : secret < 2305843009213693951) (k : Nat) (hk : 21000 ≤ k) : share_Split.f k secret (t : Int) (n : Int) seed = some (shL (csF secret seed t) n, true) := by
  obtain ⟨k, rfl⟩ : ∃ k', k = k' + 1 := ⟨k - 1, by omega⟩
  rw [share_Split.f, if_neg (by omega), if_neg (by omega), if_neg (by omega), if_neg (by omega), decide_eq_false (by omega), share_Split.j0, if_neg (by decide)]
  exact split_l0 secret seed hs t n (by omega) h3 (t - 1) k 1 (Nat.le_refl _) (by omega) (by omega)
theorem split_j0 (k : Nat) (a b c : Int) (s : ByteArray) (hk : 1 ≤ k) : share_Split.j0 k a b c s true = some ([], false) := by
  obtain ⟨k, rfl⟩ : ∃ k', k = k' + 1 := ⟨k - 1, by omega⟩
  rw [share_Split.j0, if_pos rfl]
theorem split_no (secret t n : Int) (seed : ByteArray) (h : ¬ (1 ≤ t ∧ t ≤ n ∧ n ≤ 64 ∧ 0 ≤ secret ∧ secret < 2305843009213693951)) (k : Nat) (hk : 1 ≤ k) : share_Split.f k secret t n seed = some ([], false) := by
  rw [share_Split.f]
  by_cases c1 : t < 1
  · rw [if_pos c1, split_j0 _ _ _ _ _ hk]
  rw [if_neg c1]
  by_cases c2 : t > n
  · rw [if_pos c2, split_j0 _ _ _ _ _ hk]
  rw [if_neg c2]
  by_cases c3 : n > 64
  · rw [if_pos c3, split_j0 _ _ _ _ _ hk]
  rw [if_neg c3]
  by_cases c4 : secret < 0
  · rw [if_pos c4, split_j0 _ _ _ _ _ hk]
  rw [if_neg c4, decide_eq_true (by omega), split_j0 _ _ _ _ _ hk]
theorem shL_X (cs : List F) (n i : Nat) (h : i < n) : X (shL cs n) i = ((i + 1 : Nat) : Int) := by rw [X, shL_at cs n i h]
theorem shL_Y (cs : List F) (n i : Nat) (h : i < n) : Y (shL cs n) i = nm (ev cs (cl ((i + 1 : Nat) : Int))) := by rw [Y, shL_at cs n i h]
theorem shL_valid (cs : List F) (n : Nat) (hn : n ≤ 64) : Valid (shL cs n) := by
  rw [Valid, shL_length]
  refine ⟨fun i hi => ?_, fun i j hj hi => ?_⟩
  · have := nm_lt (ev cs (cl ((i + 1 : Nat) : Int)))
    rw [Fine, shL_X cs n i hi, shL_Y cs n i hi]; omega
  · rw [shL_X cs n i hi, shL_X cs n j (by omega)]; omega
/-- points on a polynomial -/
def On (cs : List F) (l : List S38) : Prop := ∀ i, i < l.length → py l i = ev cs (px l i)
theorem shL_on (cs : List F) (n : Nat) : On cs (shL cs n) := fun i hi => by
  rw [shL_length] at hi
  rw [py, px, shL_X cs n i hi, shL_Y cs n i hi, cl_nm]
theorem csF_length (secret : Int) (seed : ByteArray) (t : Nat) (h : 1 ≤ t) : (csF secret seed t).length = t := by rw [csF, List.length_map, csI_length _ _ _ h]
theorem csF_zero (secret : Int) (seed : ByteArray) (t : Nat) : ev (csF secret seed t) 0 = cl secret := by
  rw [csF, csI, List.map_cons, ev]; grobner
end Go.Proofs.Ytggmjfonhcinhaa.Shr
end ShrS_
section ShrL_
namespace Go.Proofs.Ytggmjfonhcinhaa.Shr
open Go.RowKit Go.Proofs.Ytggmjfonhcinhaa.P Go.Proofs.YtggmjfonhcinhaaW.PrintWords Go.Proofs.YtggmjfonhcinhaaW.PrintLast Go.Proofs.YtggmjfonhcinhaaW.PrintMore
set_option linter.unusedVariables false
theorem w_succ (a : Nat) (h : a < 1000000000000000000) : wrap64 ((a : Int) + 1) = ((a + 1 : Nat) : Int) := by rw [wrap_in _ (by omega) (by omega)]; omega
/-- every share of r is one of l -/
def From (l r : List S38) : Prop := ∀ i, i < r.length → ∃ q, q < l.length ∧ X r i = X l q ∧ Y r i = Y l q
def Dist (l : List S38) : Prop := ∀ i j, j < i → i < l.length → X l i ≠ X l j
theorem From.valid {l r : List S38} (h : From l r) (hl : Valid l) (hd : Dist r) : Valid r := by
  refine ⟨fun i hi => ?_, hd⟩
  obtain ⟨q, hq, e1, e2⟩ := h i hi
  have := hl.1 q hq
  unfold Fine at this ⊢
  rw [e1, e2]; exact this
theorem From.on {l r : List S38} (h : From l r) {cs : List F} (hl : On cs l) : On cs r := by
  intro i hi
  obtain ⟨q, hq, e1, e2⟩ := h i hi
  have := hl q hq
  unfold py px at this ⊢
  rw [e1, e2]; exact this
theorem zero_of_on {l : List S38} {cs : List F} (hv : Valid l) (ho : On cs l) (t : Nat) (ht : cs.length ≤ t) : Zero l t := by
  have := (on_poly l.length cs (px l) (py l) hv.apart ho).1
  exact fun i hi hn => this i (by omega) hn
theorem valid_take {l : List S38} (hv : Valid l) (t : Nat) : Valid (l.take t) := by
  have hlen : (l.take t).length ≤ t := by rw [List.length_take]; omega
  have hlen2 : (l.take t).length ≤ l.length := by rw [List.length_take]; omega
  refine ⟨fun i hi => ?_, fun i j hj hi => ?_⟩
  · have := hv.1 i (by omega)
    unfold Fine at this ⊢
    rw [X_take l t i (by omega), Y_take l t i (by omega)]; exact this
  · rw [X_take l t i (by omega), X_take l t j (by omega)]; exact hv.2 i j hj (by omega)
theorem ip_take (l : List S38) (t : Nat) (x : F) : ip t (px (l.take t)) (py (l.take t)) x = ip t (px l) (py l) x :=
  ip_congr t _ _ _ _ x (fun i hi => by unfold px; rw [X_take l t i hi]) (fun i hi => by unfold py; rw [Y_take l t i hi])
/-- Join of enough shares on a polynomial of t coefficients -/
theorem ip_on {l : List S38} {cs : List F} (hv : Valid l) (ho : On cs l) (t : Nat) (ht : cs.length ≤ t) (hl : t ≤ l.length) (x : F) : ip t (px l) (py l) x = ev cs x :=
  (on_poly t cs (px l) (py l) (hv.apart.le hl) (fun i hi => ho i (by omega))).2 ht x
theorem fits_true (k : Nat) (l : List S38) (t : Nat) (hb : l.length ≤ 1000) (hk : 6000 * l.length + 2000 ≤ k) (h1 : 1 ≤ t) (hv : Valid l) (hz : Zero l t) : share_Fits.f k l (t : Int) = some true := by
  obtain ⟨b, h2, h3⟩ := fits_at k l t hb hk
  have : b = true := h3.2 ⟨by omega, hv, by rw [Int.toNat_natCast]; exact hz⟩
  rw [h2, this]
theorem X_append (l r : List S38) (i : Nat) : X (l ++ r) i = if i < l.length then X l i else X r (i - l.length) := by
  unfold X
  rw [List.getD_eq_getElem?_getD, List.getD_eq_getElem?_getD, List.getD_eq_getElem?_getD, List.getElem?_append]
  split <;> rfl
theorem Y_append (l r : List S38) (i : Nat) : Y (l ++ r) i = if i < l.length then Y l i else Y r (i - l.length) := by
  unfold Y
  rw [List.getD_eq_getElem?_getD, List.getD_eq_getElem?_getD, List.getD_eq_getElem?_getD, List.getElem?_append]
  split <;> rfl
end Go.Proofs.Ytggmjfonhcinhaa.Shr
end ShrL_
