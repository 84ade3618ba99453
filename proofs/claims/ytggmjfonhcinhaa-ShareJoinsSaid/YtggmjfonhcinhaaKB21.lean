/- Texts of this claim, merged: what the functions that the law reaches compute, and what that says. -/
import Derived.Test.YtggmjfonhcinhaaKB6
import Derived.Test.YtggmjfonhcinhaaKB12
import Derived.Test.YtggmjfonhcinhaaKB20
section ShrC_
namespace Go.Proofs.Ytggmjfonhcinhaa.Shr
open Go.RowKit Go.Proofs.Ytggmjfonhcinhaa.P Go.Proofs.YtggmjfonhcinhaaW.PrintWords Go.Proofs.YtggmjfonhcinhaaW.PrintLast Go.Proofs.YtggmjfonhcinhaaW.PrintMore
set_option linter.unusedVariables false
set_option linter.unusedSimpArgs false
theorem wrap_in (n : Int) (h0 : -9223372036854775808 ≤ n) (h : n < 9223372036854775808) : wrap64 n = n := by unfold wrap64; omega
/-- a class as a number -/
def nm (a : F) : Int := (a.val : Int)
theorem nm_lt (a : F) : 0 ≤ nm a ∧ nm a < 2305843009213693951 := by have := a.isLt; unfold nm; omega
theorem cl_nm (a : F) : cl (nm a) = a := cl_of a
theorem nm_cl (x : Int) : nm (cl x) = x % 2305843009213693951 := cl_val x
theorem nm_cl_in {x : Int} (h0 : 0 ≤ x) (h : x < 2305843009213693951) : nm (cl x) = x := by rw [nm_cl]; omega
theorem nm_inj {a b : F} (h : nm a = nm b) : a = b := Fin.ext (by unfold nm at h; omega)
theorem cl_inj {x y : Int} (hx0 : 0 ≤ x) (hx : x < 2305843009213693951) (hy0 : 0 ≤ y) (hy : y < 2305843009213693951) (h : cl x = cl y) : x = y := by
  rw [← nm_cl_in hx0 hx, ← nm_cl_in hy0 hy, h]
theorem nm_add (a b : F) : nm (a + b) = (nm a + nm b) % 2305843009213693951 := by
  show (((a.val + b.val) % 2305843009213693951 : Nat) : Int) = _
  unfold nm; omega
theorem nm_mul (a b : F) : nm (a * b) = nm a * nm b % 2305843009213693951 := by
  show ((a.val * b.val % 2305843009213693951 : Nat) : Int) = _
  unfold nm
  rw [Int.natCast_emod, Int.natCast_mul]; rfl
theorem nm_sub (a b : F) : nm (a - b) = (nm a - nm b) % 2305843009213693951 := by
  show (((2305843009213693951 - b.val + a.val) % 2305843009213693951 : Nat) : Int) = _
  have := b.isLt
  unfold nm; omega
theorem nm_zero (a : F) : nm a = 0 ↔ a = 0 := by
  constructor
  · intro h; exact nm_inj h
  · intro h; rw [h]; rfl
theorem cl_add (x y : Int) : cl (x + y) = cl x + cl y := nm_inj (by rw [nm_add, nm_cl, nm_cl, nm_cl, ← Int.add_emod])
theorem cl_mul (x y : Int) : cl (x * y) = cl x * cl y := nm_inj (by rw [nm_mul, nm_cl, nm_cl, nm_cl, ← Int.mul_emod])
theorem cl_sub (x y : Int) : cl (x - y) = cl x - cl y := nm_inj (by rw [nm_sub, nm_cl, nm_cl, nm_cl, ← Int.sub_emod])
theorem g_add (a b : Int) : group_Add.f a b = some (nm (cl a + cl b)) := by rw [Grp.add_eq, ← cl_add, nm_cl]
theorem g_sub (a b : Int) : group_Sub.f a b = some (nm (cl a - cl b)) := by rw [Grp.sub_eq, ← cl_sub, nm_cl]
theorem g_mul {k : Nat} (hk : 74 ≤ k) (a b : Int) : group_Mul.f k a b = some (nm (cl a * cl b)) := by rw [Grp.mul_at hk, ← cl_mul, nm_cl]
theorem g_inv {k : Nat} (hk : 74 ≤ k) {a : F} (h : a ≠ 0) : group_Inv.f k (nm a) = some (nm (inv a), true) := by
  have hb := nm_lt a
  have h0 : nm a % 2305843009213693951 ≠ 0 := by
    intro e
    exact h ((nm_zero a).1 (by omega))
  rw [Grp.inv_at hk, if_neg h0]
  have hl := Grp.inv_law h0
  have hp := Grp.pw_bounds (nm a) 2305843009213693949
  generalize Grp.pw (nm a) 2305843009213693949 = z at hl hp
  congr 2
  have e : a * cl z = 1 := by
    refine nm_inj ?_
    rw [nm_mul, nm_cl_in hp.1 hp.2, hl]; rfl
  rw [← cancel h (e.trans (inv_mul h).symm), nm_cl_in hp.1 hp.2]
def X (l : List S38) (i : Nat) : Int := (l.getD i z38).f0
def Y (l : List S38) (i : Nat) : Int := (l.getD i z38).f1
def px (l : List S38) (i : Nat) : F := cl (X l i)
def py (l : List S38) (i : Nat) : F := cl (Y l i)
theorem rdX (l : List S38) (i : Nat) : (rd_T38 l (i : Int)).f0 = X l i := by rw [rd_T38, Int.toNat_natCast]; rfl
theorem rdY (l : List S38) (i : Nat) : (rd_T38 l (i : Int)).f1 = Y l i := by rw [rd_T38, Int.toNat_natCast]; rfl
/-- the shares from the beginning that are points -/
def Fine (l : List S38) (i : Nat) : Prop := 1 ≤ X l i ∧ X l i < 2305843009213693951 ∧ 0 ≤ Y l i ∧ Y l i < 2305843009213693951
def Valid (l : List S38) : Prop := (∀ i, i < l.length → Fine l i) ∧ ∀ i j, j < i → i < l.length → X l i ≠ X l j
theorem Valid.apart {l : List S38} (h : Valid l) : Apart (px l) l.length := by
  intro i j hi hj e
  have a := h.1 i hi
  have b := h.1 j hj
  have ex : X l i = X l j := cl_inj (by unfold Fine at a; omega) a.2.1 (by unfold Fine at b; omega) b.2.1 e
  rcases Nat.lt_trichotomy i j with hl | hl | hl
  · exact absurd ex.symm (h.2 j i hl hj)
  · exact hl
  · exact absurd ex (h.2 i j hl hi)
theorem valid_l0 (l : List S38) (hb : l.length ≤ 100000) : ∀ (m k i : Nat) (S : List Int), i + m = l.length → m < k → (∀ x : Int, S.contains x = true ↔ ∃ j, j < i ∧ X l j = x) → (∀ j, j < i → Fine l j) → (∀ a b, b < a → a < i → X l a ≠ X l b) →
    ∃ b, share_valid.l0 k l S (l.length : Int) (i : Int) = some b ∧ (b = true ↔ Valid l)
  | m, 0, i, S, _, h, _, _, _ => by omega
  | 0, k + 1, i, S, h, _, hS, h1, h2 => by
    refine ⟨true, by rw [share_valid.l0, if_neg (by omega)], ?_⟩
    exact ⟨fun _ => ⟨fun j hj => h1 j (by omega), fun a b hab ha => h2 a b hab (by omega)⟩, fun _ => rfl⟩
  | m + 1, k + 1, i, S, h, hk, hS, h1, h2 => by
    have hi : i < l.length := by omega
    rw [share_valid.l0, if_pos (by omega), if_pos (by omega), if_pos (by omega), rdX, rdY]
    have no : ¬ Fine l i → (false = true ↔ Valid l) := fun hf => ⟨(fun e => by cases e), fun hv => absurd (hv.1 i hi) hf⟩
    by_cases c1 : X l i < 1
    · exact ⟨false, by rw [if_pos c1], no (fun hf => by unfold Fine at hf; omega)⟩
    rw [if_neg c1]
    by_cases c2 : X l i ≥ 2305843009213693951
    · exact ⟨false, by rw [if_pos c2], no (fun hf => by unfold Fine at hf; omega)⟩
    rw [if_neg c2]
    by_cases c3 : Y l i < 0
    · exact ⟨false, by rw [if_pos c3], no (fun hf => by unfold Fine at hf; omega)⟩
    rw [if_neg c3]
    by_cases c4 : Y l i ≥ 2305843009213693951
    · exact ⟨false, by rw [if_pos c4], no (fun hf => by unfold Fine at hf; omega)⟩
    rw [if_neg c4]
    by_cases c5 : S.contains (X l i) = true
    · obtain ⟨j, hj, e⟩ := (hS _).1 c5
      exact ⟨false, by rw [if_pos c5], ⟨(fun e => by cases e), fun hv => absurd e.symm (hv.2 i j hj hi)⟩⟩
    rw [if_neg c5, show (i : Int) + 1 = ((i + 1 : Nat) : Int) by omega, wrap_in _ (by omega) (by omega)]
    refine valid_l0 l hb m k (i + 1) (X l i :: S) (by omega) (by omega) (fun x => ?_) (fun j hj => ?_) (fun a b hab ha => ?_)
    · rw [List.contains_cons, Bool.or_eq_true, hS]
      constructor
      · rintro (e | ⟨j, hj, e⟩)
        · exact ⟨i, by omega, (by simpa using e : x = X l i).symm⟩
        · exact ⟨j, by omega, e⟩
      · rintro ⟨j, hj, e⟩
        rcases Nat.lt_or_ge j i with hl | hl
        · exact .inr ⟨j, hl, e⟩
        · exact .inl (by rw [← e, show j = i by omega]; simp)
    · rcases Nat.lt_or_ge j i with hl | hl
      · exact h1 j hl
      · rw [show j = i by omega]; exact ⟨by omega, by omega, by omega, by omega⟩
    · rcases Nat.lt_or_ge a i with hl | hl
      · exact h2 a b hab hl
      · rw [show a = i by omega] at hab ⊢
        intro e
        exact c5 ((hS _).2 ⟨b, hab, e.symm⟩)
theorem valid_at (k : Nat) (l : List S38) (hb : l.length ≤ 100000) (hk : l.length < k) : ∃ b, share_valid.f k l = some b ∧ (b = true ↔ Valid l) := by
  obtain ⟨b, h1, h2⟩ := valid_l0 l hb l.length k 0 [] (by omega) hk (fun x => by simp) (fun j hj => by omega) (fun a b _ ha => by omega)
  exact ⟨b, h1, h2⟩
/-- a row of classes as numbers -/
def toL (n : Nat) (f : Nat → F) : List Int := (List.range n).map fun m => nm (f m)
theorem toL_length (n : Nat) (f : Nat → F) : (toL n f).length = n := by simp [toL]
theorem toL_rd (n : Nat) (f : Nat → F) (i : Nat) (h : i < n) : rd (toL n f) (i : Int) = nm (f i) := by
  rw [rd, Int.toNat_natCast, List.getD_eq_getElem?_getD, toL, List.getElem?_map, List.getElem?_range h]; rfl
theorem toL_congr (n : Nat) (f g : Nat → F) (h : ∀ i, i < n → f i = g i) : toL n f = toL n g := by
  unfold toL
  exact List.map_congr_left fun i hi => by rw [h i (List.mem_range.1 hi)]
theorem toL_set (n : Nat) (f : Nat → F) (i : Nat) (v : F) (h : i < n) : (toL n f).set i (nm v) = toL n (fun m => if m = i then v else f m) := by
  apply List.ext_getElem
  · rw [List.length_set, toL_length, toL_length]
  · intro j h1 h2
    rw [List.getElem_set]
    simp only [toL, List.getElem_map, List.getElem_range]
    by_cases e : i = j
    · rw [if_pos e, if_pos e.symm]
    · rw [if_neg e, if_neg (fun h => e h.symm)]
/-- the row behind stage j, with the places above i done -/
noncomputable def stage (px py : Nat → F) (j i : Nat) (m : Nat) : F := if m < j then dd px py m m else if i < m then dd px py m j else dd px py m (j - 1)
theorem newton_l2 (l : List S38) (hv : Valid l) (hb : l.length ≤ 1000) (j : Nat) (hj1 : 1 ≤ j) (hj : j < l.length) (Res : List Int) : ∀ (d k i : Nat), i + 1 = j + d → i < l.length → d + 5000 * (l.length - j - 1) + 200 ≤ k →
    (∀ k', 5000 * (l.length - j - 1) + 150 ≤ k' → share_newton.l1 k' l (toL l.length (stage (px l) (py l) j (j - 1))) ((j + 1 : Nat) : Int) = some Res) →
    share_newton.l2 k l (toL l.length (stage (px l) (py l) j i)) (j : Int) (i : Int) = some Res
  | d, 0, i, _, _, h, _ => by omega
  | 0, k + 1, i, h, hi, hk, hR => by
    rw [share_newton.l2, if_neg (by omega), show (j : Int) + 1 = ((j + 1 : Nat) : Int) by omega, wrap_in _ (by omega) (by omega), show i = j - 1 by omega]
    exact hR k (by omega)
  | d + 1, k + 1, i, h, hi, hk, hR => by
    have hap := hv.apart
    have hne := hap.ne hi (show i - j < l.length by omega) (by omega)
    have e1 : wrap64 ((i : Int) - (j : Int)) = ((i - j : Nat) : Int) := by rw [wrap_in _ (by omega) (by omega)]; omega
    have e2 : wrap64 ((i : Int) - 1) = ((i - 1 : Nat) : Int) := by rw [wrap_in _ (by omega) (by omega)]; omega
    have s1 : stage (px l) (py l) j i i = dd (px l) (py l) i (j - 1) := by unfold stage; rw [if_neg (by omega), if_neg (by omega)]
    have s2 : stage (px l) (py l) j i (i - 1) = dd (px l) (py l) (i - 1) (j - 1) := by
      unfold stage
      by_cases c : i - 1 < j
      · rw [if_pos c, show i - 1 = j - 1 by omega]
      · rw [if_neg c, if_neg (by omega)]
    have s3 : dd (px l) (py l) i j = (dd (px l) (py l) i (j - 1) - dd (px l) (py l) (i - 1) (j - 1)) * inv (px l i - px l (i - j)) := by
      obtain ⟨j, rfl⟩ : ∃ j', j = j' + 1 := ⟨j - 1, by omega⟩
      rw [dd]; rfl
    rw [share_newton.l2, if_pos (by omega), if_pos (by omega), if_pos (by omega), e1, if_pos (by omega), if_pos (by omega), rdX, rdX, g_sub, Option.bind_some]
    show (group_Inv.f k (nm (px l i - px l (i - j)))).bind _ = _
    rw [g_inv (by omega) hne, Option.bind_some, toL_length, if_pos (by omega), e2, if_pos (by omega), if_pos (by omega), toL_rd _ _ _ hi, toL_rd _ _ _ (by omega), s1, s2, g_sub, Option.bind_some, cl_nm, cl_nm]
    dsimp only
    rw [g_mul (by omega), Option.bind_some, cl_nm, cl_nm, ← s3, Int.toNat_natCast, toL_set _ _ _ _ hi]
    rw [toL_congr l.length _ (stage (px l) (py l) j (i - 1)) (fun m hm => by
      unfold stage
      by_cases c : m = i
      · subst c
        rw [if_pos rfl, if_neg (by omega), if_pos (by omega)]
      · rw [if_neg c]
        by_cases c2 : m < j
        · rw [if_pos c2, if_pos c2]
        · rw [if_neg c2, if_neg c2]
          by_cases c3 : i < m
          · rw [if_pos c3, if_pos (by omega)]
          · rw [if_neg c3, if_neg (by omega)])]
    exact newton_l2 l hv hb j hj1 hj Res d k (i - 1) (by omega) (by omega) (by omega) hR
theorem newton_l1 (l : List S38) (hv : Valid l) (hb : l.length ≤ 1000) : ∀ (d k j : Nat), 1 ≤ j → j + d = max j l.length → 5000 * d + 100 ≤ k →
    share_newton.l1 k l (toL l.length (stage (px l) (py l) (j - 1) (j - 2))) (j : Int) = some (toL l.length fun i => cN i (px l) (py l))
  | d, 0, j, _, _, h => by omega
  | 0, k + 1, j, h1, h, hk => by
    rw [share_newton.l1, toL_length, if_neg (by omega)]
    congr 1
    refine toL_congr _ _ _ fun m hm => ?_
    have hap := hv.apart.le (show m + 1 ≤ l.length by omega)
    rw [← dd_cN m _ _ hap]
    unfold stage
    by_cases c : m < j - 1
    · rw [if_pos c]
    · rw [if_neg c]
      by_cases c2 : j - 2 < m
      · rw [if_pos c2, show j - 1 = m by omega]
      · rw [if_neg c2, show m = 0 by omega, show j - 1 - 1 = 0 by omega]
  | d + 1, k + 1, j, h1, h, hk => by
    have hj : j < l.length := by omega
    have e2 : wrap64 ((l.length : Int) - 1) = ((l.length - 1 : Nat) : Int) := by rw [wrap_in _ (by omega) (by omega)]; omega
    rw [share_newton.l1, toL_length, if_pos (by omega), e2]
    rw [toL_congr l.length _ (stage (px l) (py l) j (l.length - 1)) (fun m hm => by
      unfold stage
      by_cases c : m < j - 1
      · rw [if_pos c, if_pos (by omega)]
      · rw [if_neg c]
        by_cases c2 : j - 2 < m
        · rw [if_pos c2]
          by_cases c3 : m < j
          · rw [if_pos c3, show j - 1 = m by omega]
          · rw [if_neg c3, if_neg (by omega)]
        · rw [if_neg c2, if_pos (by omega), show m = 0 by omega, show j - 1 - 1 = 0 by omega])]
    refine newton_l2 l hv hb j h1 hj _ (l.length - j) k (l.length - 1) (by omega) (by omega) (by omega) (fun k' hk' => ?_)
    have := newton_l1 l hv hb d k' (j + 1) (by omega) (by omega) (by omega)
    rwa [show j + 1 - 1 = j by omega, show j + 1 - 2 = j - 1 by omega] at this
theorem newton_l0 (l : List S38) (hv : Valid l) (hb : l.length ≤ 1000) : ∀ (m k i : Nat) (x3 : List Int), i + m = l.length → m + 5000 * l.length + 200 ≤ k → x3.length = l.length → (∀ q, q < i → x3.getD q 0 = Y l q) →
    share_newton.l0 k l x3 l (l.length : Int) (i : Int) = some (toL l.length fun i => cN i (px l) (py l))
  | m, 0, i, x3, _, h, _, _ => by omega
  | 0, k + 1, i, x3, h, hk, hl, hq => by
    rw [share_newton.l0, if_neg (by omega), if_pos (by omega), Int.toNat_natCast, if_pos (by omega)]
    have e : cpI x3 (List.replicate l.length 0) = toL l.length (stage (px l) (py l) (1 - 1) (1 - 2)) := by
      unfold cpI
      rw [List.length_replicate, hl, Nat.min_self, List.take_of_length_le (by omega), List.drop_eq_nil_of_le (by simp), List.append_nil]
      apply List.ext_getElem
      · rw [hl, toL_length]
      · intro q h1 h2
        have h3 := hq q (by omega)
        rw [List.getD_eq_getElem?_getD, List.getElem?_eq_getElem h1] at h3
        have h4 := hv.1 q (by omega)
        have h5 : stage (px l) (py l) 0 0 q = py l q := by
          unfold stage
          rw [if_neg (by omega)]
          split <;> rfl
        simp only [toL, List.getElem_map, List.getElem_range]
        show x3[q] = nm (stage (px l) (py l) 0 0 q)
        rw [h5, py, nm_cl_in h4.2.2.1 h4.2.2.2]
        exact h3
    rw [e]
    have := newton_l1 l hv hb (l.length - 1) k 1 (Nat.le_refl _) (by omega) (by omega)
    exact this
  | m + 1, k + 1, i, x3, h, hk, hl, hq => by
    rw [share_newton.l0, if_pos (by omega), if_pos (by omega), if_pos (by omega), if_pos (by omega), rdY, Int.toNat_natCast, show (i : Int) + 1 = ((i + 1 : Nat) : Int) by omega, wrap_in _ (by omega) (by omega)]
    refine newton_l0 l hv hb m k (i + 1) _ (by omega) (by omega) (by rw [List.length_set]; exact hl) (fun q hq' => ?_)
    rw [List.getD_eq_getElem?_getD, List.getElem?_set]
    by_cases e : i = q
    · subst e; rw [if_pos rfl, if_pos (by omega)]; rfl
    · rw [if_neg e, ← List.getD_eq_getElem?_getD]; exact hq q (by omega)
theorem newton_at (k : Nat) (l : List S38) (hv : Valid l) (hb : l.length ≤ 1000) (hk : 6000 * l.length + 300 ≤ k) : share_newton.f k l = some (toL l.length fun i => cN i (px l) (py l)) := by
  rw [share_newton.f, if_pos (by omega), Int.toNat_natCast, if_pos (by omega)]
  exact newton_l0 l hv hb l.length k 0 _ (by omega) (by omega) (by simp) (fun q hq => by omega)
theorem X_take (l : List S38) (t i : Nat) (h : i < t) : X (l.take t) i = X l i := by unfold X; rw [List.getD_eq_getElem?_getD, List.getD_eq_getElem?_getD, List.getElem?_take_of_lt h]
theorem Y_take (l : List S38) (t i : Nat) (h : i < t) : Y (l.take t) i = Y l i := by unfold Y; rw [List.getD_eq_getElem?_getD, List.getD_eq_getElem?_getD, List.getElem?_take_of_lt h]
theorem nv_shift (px c : Nat → F) (x : F) : ∀ (m i : Nat), nv (m + 1) (fun q => px (i + q)) (fun q => c (i + q)) x = c i + (x - px i) * nv m (fun q => px (i + 1 + q)) (fun q => c (i + 1 + q)) x := by
  intro m i
  rw [nv]
  have e1 : up1 (fun q => px (i + q)) = fun q => px (i + 1 + q) := by funext q; show px (i + (q + 1)) = px (i + 1 + q); rw [show i + (q + 1) = i + 1 + q by omega]
  have e2 : up1 (fun q => c (i + q)) = fun q => c (i + 1 + q) := by funext q; show c (i + (q + 1)) = c (i + 1 + q); rw [show i + (q + 1) = i + 1 + q by omega]
  rw [e1, e2]; rfl
theorem join_l0 (l : List S38) (hb : l.length ≤ 1000) (t : Nat) (ht : t ≤ l.length) (hf : ∀ i, i < t → Fine l i) (c : Nat → F) : ∀ (i k : Nat), i ≤ t → i + 100 ≤ k →
    share_Join.l0 k l (toL t c) (nm (nv (t - i) (fun q => px l (i + q)) (fun q => c (i + q)) 0)) ((i : Int) - 1) = some (nm (nv t (px l) c 0), true)
  | i, 0, _, h => by omega
  | 0, k + 1, _, hk => by
    rw [share_Join.l0, if_neg (by omega), Nat.sub_zero]
    have e1 : (fun q => px l (0 + q)) = px l := by funext q; rw [Nat.zero_add]
    have e2 : (fun q => c (0 + q)) = c := by funext q; rw [Nat.zero_add]
    rw [e1, e2]
  | i + 1, k + 1, hi, hk => by
    have hx := hf i (by omega)
    unfold Fine at hx
    have e0 : ((i + 1 : Nat) : Int) - 1 = (i : Int) := by omega
    have e1 : wrap64 (-(X l i)) = -(X l i) := wrap_in _ (by omega) (by omega)
    have e2 : wrap64 ((i : Int) - 1) = (i : Int) - 1 := wrap_in _ (by omega) (by omega)
    have e3 : cl (-(X l i)) = 0 - px l i := by rw [show -(X l i) = 0 - X l i by omega, cl_sub]; rfl
    have e4 := nv_shift (px l) c 0 (t - (i + 1)) i
    rw [show t - (i + 1) + 1 = t - i by omega] at e4
    rw [e0, share_Join.l0, if_pos (by omega), if_pos (by omega), if_pos (by omega), rdX, e1, g_mul (by omega), Option.bind_some, toL_length, if_pos (by omega), toL_rd _ _ _ (by omega), g_add, Option.bind_some, cl_nm, cl_nm, cl_nm, e2, e3]
    have e5 : nv (t - (i + 1)) (fun q => px l (i + 1 + q)) (fun q => c (i + 1 + q)) 0 * (0 - px l i) + c i = nv (t - i) (fun q => px l (i + q)) (fun q => c (i + q)) 0 := by
      rw [e4]; grobner
    rw [e5]
    exact join_l0 l hb t ht hf c i k (by omega) (by omega)
/-- what Join says of t shares that are points -/
theorem join_ok (k : Nat) (l : List S38) (t : Nat) (hb : l.length ≤ 1000) (h1 : 1 ≤ t) (ht : t ≤ l.length) (hv : Valid (l.take t)) (hk : 6000 * l.length + 2000 ≤ k) : share_Join.f k l (t : Int) = some (nm (ip t (px l) (py l) 0), true) := by
  have hlt : (l.take t).length = t := by rw [List.length_take]; omega
  obtain ⟨b, hb1, hb2⟩ := valid_at k (l.take t) (by omega) (by omega)
  have hbt : b = true := hb2.2 hv
  subst hbt
  rw [share_Join.f, if_neg (by omega), if_neg (by omega), if_pos (by omega), if_pos (by omega), Int.toNat_natCast, hb1, Option.bind_some]
  obtain ⟨k, rfl⟩ : ∃ k', k = k' + 1 := ⟨k - 1, by omega⟩
  rw [Bool.not_true, share_Join.j0, if_neg (by decide), if_pos (by omega), if_pos (by omega), Int.toNat_natCast, newton_at k (l.take t) hv (by omega) (by omega), Option.bind_some, hlt, wrap_in _ (by omega) (by omega)]
  have hc : toL t (fun i => cN i (px (l.take t)) (py (l.take t))) = toL t (fun i => cN i (px l) (py l)) := toL_congr _ _ _ fun i hi => cN_congr i _ _ _ _ (fun q hq => by unfold px; rw [X_take l t q (by omega)]) (fun q hq => by unfold py; rw [Y_take l t q (by omega)])
  have hf : ∀ i, i < t → Fine l i := fun i hi => by
    have := hv.1 i (by omega)
    unfold Fine at this ⊢
    rwa [X_take l t i hi, Y_take l t i hi] at this
  rw [hc]
  have := join_l0 l hb t ht hf (fun i => cN i (px l) (py l)) t k (Nat.le_refl _) (by omega)
  rw [Nat.sub_self] at this
  exact this
theorem join_j0 (k : Nat) (l : List S38) (t : Int) (hk : 1 ≤ k) : share_Join.j0 k l t true = some (0, false) := by
  obtain ⟨k, rfl⟩ : ∃ k', k = k' + 1 := ⟨k - 1, by omega⟩
  rw [share_Join.j0, if_pos rfl]
theorem join_no (k : Nat) (l : List S38) (t : Int) (hb : l.length ≤ 1000) (h : ¬ (1 ≤ t ∧ t ≤ (l.length : Int) ∧ Valid (l.take t.toNat))) (hk : 2000 ≤ k) : share_Join.f k l t = some (0, false) := by
  rw [share_Join.f]
  by_cases c1 : t < 1
  · rw [if_pos c1, join_j0 _ _ _ (by omega)]
  rw [if_neg c1]
  by_cases c2 : t > (l.length : Int)
  · rw [if_pos c2, join_j0 _ _ _ (by omega)]
  rw [if_neg c2, if_pos (by omega), if_pos (by omega)]
  obtain ⟨b, hb1, hb2⟩ := valid_at k (l.take t.toNat) (by rw [List.length_take]; omega) (by rw [List.length_take]; omega)
  rw [hb1, Option.bind_some]
  cases b
  · rw [Bool.not_false, join_j0 _ _ _ (by omega)]
  · exact absurd ⟨by omega, by omega, hb2.1 rfl⟩ h
/-- all later coefficients are 0 -/
def Zero (l : List S38) (t : Nat) : Prop := ∀ i, t ≤ i → i < l.length → cN i (px l) (py l) = 0
theorem fits_l0 (l : List S38) (hb : l.length ≤ 1000) (t : Nat) : ∀ (m k i : Nat), i + m = l.length → m < k → (∀ q, q < i → t ≤ q → cN q (px l) (py l) = 0) →
    ∃ b, share_Fits.l0 k (t : Int) (toL l.length fun i => cN i (px l) (py l)) (l.length : Int) (i : Int) = some b ∧ (b = true ↔ Zero l t)
  | m, 0, i, _, h, _ => by omega
  | 0, k + 1, i, h, _, hz => ⟨true, by rw [share_Fits.l0, if_neg (by omega)], ⟨fun _ q h1 h2 => hz q (by omega) h1, fun _ => rfl⟩⟩
  | m + 1, k + 1, i, h, hk, hz => by
    have hi : i < l.length := by omega
    rw [share_Fits.l0, if_pos (by omega), if_pos (by omega), toL_length, if_pos (by omega), toL_rd _ _ _ hi, show (i : Int) + 1 = ((i + 1 : Nat) : Int) by omega, wrap_in _ (by omega) (by omega)]
    by_cases c : t ≤ i
    · rw [if_pos (by omega)]
      by_cases c2 : cN i (px l) (py l) = 0
      · rw [if_pos ((nm_zero _).2 c2)]
        exact fits_l0 l hb t m k (i + 1) (by omega) (by omega) (fun q hq h1 => by
          rcases Nat.lt_or_ge q i with hl | hl
          · exact hz q hl h1
          · rw [show q = i by omega]; exact c2)
      · rw [if_neg (fun e => c2 ((nm_zero _).1 e))]
        exact ⟨false, rfl, ⟨(fun e => by cases e), fun hZ => absurd (hZ i c hi) c2⟩⟩
    · rw [if_neg (by omega)]
      exact fits_l0 l hb t m k (i + 1) (by omega) (by omega) (fun q hq h1 => hz q (by omega) h1)
theorem fits_j0 (k : Nat) (l : List S38) (t : Int) (hk : 1 ≤ k) : share_Fits.j0 k l t true = some false := by
  obtain ⟨k, rfl⟩ : ∃ k', k = k' + 1 := ⟨k - 1, by omega⟩
  rw [share_Fits.j0, if_pos rfl]
theorem fits_at (k : Nat) (l : List S38) (t : Int) (hb : l.length ≤ 1000) (hk : 6000 * l.length + 2000 ≤ k) : ∃ b, share_Fits.f k l t = some b ∧ (b = true ↔ (1 ≤ t ∧ Valid l ∧ Zero l t.toNat)) := by
  rw [share_Fits.f]
  by_cases c1 : t < 1
  · exact ⟨false, by rw [if_pos c1, fits_j0 _ _ _ (by omega)], ⟨(fun e => by cases e), fun h => by omega⟩⟩
  obtain ⟨t, rfl⟩ := Int.eq_ofNat_of_zero_le (show 0 ≤ t by omega)
  obtain ⟨b, hb1, hb2⟩ := valid_at k l (by omega) (by omega)
  rw [if_neg c1, hb1, Option.bind_some]
  cases b
  · exact ⟨false, by rw [Bool.not_false, fits_j0 _ _ _ (by omega)], ⟨(fun e => by cases e), fun h => absurd (hb2.2 h.2.1) (by decide)⟩⟩
  · have hv := hb2.1 rfl
    obtain ⟨k, rfl⟩ : ∃ k', k = k' + 1 := ⟨k - 1, by omega⟩
    rw [Bool.not_true, share_Fits.j0, if_neg (by decide), newton_at k l hv hb (by omega), Option.bind_some, toL_length]
    obtain ⟨b, h1, h2⟩ := fits_l0 l hb t l.length k 0 (by omega) (by omega) (fun q hq => by omega)
    refine ⟨b, h1, ?_⟩
    rw [h2, Int.toNat_natCast]
    exact ⟨fun h => ⟨by omega, hv, h⟩, fun h => h.2.2⟩
end Go.Proofs.Ytggmjfonhcinhaa.Shr
end ShrC_
