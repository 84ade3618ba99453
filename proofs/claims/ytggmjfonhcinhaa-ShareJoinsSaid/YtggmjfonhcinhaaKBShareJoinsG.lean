/- Texts of this claim, merged: what the functions that the law reaches compute, and what that says. -/
import Derived.Test.YtggmjfonhcinhaaKB5
import Derived.Test.YtggmjfonhcinhaaKB6
import Derived.Test.YtggmjfonhcinhaaKB13
import Derived.Test.YtggmjfonhcinhaaKB18
import Derived.Test.YtggmjfonhcinhaaKB19
import Derived.Test.YtggmjfonhcinhaaKBShareJoinsF
import Derived.Test.YtggmjfonhcinhaaKB22
section PureShareJoins_
namespace Go.Proofs.Ytggmjfonhcinhaa.Pure
open Go.RowKit Go.Proofs.Ytggmjfonhcinhaa.P Go.Proofs.Ytggmjfonhcinhaa.Shr Go.Proofs.YtggmjfonhcinhaaW.PrintWords Go.Proofs.YtggmjfonhcinhaaW.PrintLast Go.Proofs.YtggmjfonhcinhaaW.PrintMore
set_option linter.unusedVariables false
/-- what 'chosen' keeps -/
def Kept (L r : List S38) (i : Nat) : Prop := From L r ∧ Dist r ∧ r.length ≤ i
theorem chosen_l0 (L : List S38) (o : List Int) (hL : L.length ≤ 100) (ho : o.length ≤ 140737488351232) : ∀ (m k i : Nat) (r : List S38), i + m = 24 → i ≤ o.length → 100 * m + 100 ≤ k → Kept L r i → ∃ r', agoralaw07_chosen.l0 k L o r (i : Int) = some r' ∧ Kept L r' 24
  | m, k, i, r, h, hio, hk, hr => by
    obtain ⟨k, rfl⟩ : ∃ k', k = k' + 2 := ⟨k - 2, by omega⟩
    have stop : agoralaw07_chosen.j1 (k + 1) L o r (i : Int) false = some r := by rw [agoralaw07_chosen.j1, if_neg (by decide)]
    have done : ∃ r', agoralaw07_chosen.j1 (k + 1) L o r (i : Int) false = some r' ∧ Kept L r' 24 := ⟨r, stop, hr.1, hr.2.1, by have := hr.2.2; omega⟩
    rw [agoralaw07_chosen.l0]
    by_cases c : i < o.length
    · rw [if_pos (by omega)]
      match m, h, hk with
      | 0, h, hk => rw [decide_eq_false (by omega)]; exact done
      | m + 1, h, hk =>
        obtain ⟨k, rfl⟩ : ∃ k', k = k' + 1 := ⟨k - 1, by omega⟩
        have next : ∀ (k' : Nat) (r2 : List S38), 100 * m + 100 ≤ k' → Kept L r2 (i + 1) → ∃ r', agoralaw07_chosen.l0 k' L o r2 (wrap64 ((i : Int) + 1)) = some r' ∧ Kept L r' 24 := fun k' r2 h1 h2 => by
          rw [w_succ i (by omega)]; exact chosen_l0 L o hL ho m k' (i + 1) r2 (by omega) (by omega) h1 h2
        have keep : Kept L r (i + 1) := ⟨hr.1, hr.2.1, by have := hr.2.2; omega⟩
        rw [decide_eq_true (by omega), agoralaw07_chosen.j1, if_pos rfl, if_pos (by omega), if_pos (by omega)]
        have skip : ∃ r', agoralaw07_chosen.j2 (k + 1) L o r (i : Int) false = some r' ∧ Kept L r' 24 := by
          rw [agoralaw07_chosen.j2, if_neg (by decide)]
          exact next k r (by omega) keep
        generalize hv : rd o (i : Int) = v
        by_cases c1 : v ≥ 0
        · rw [if_pos c1]
          by_cases c2 : v < (L.length : Int)
          · rw [decide_eq_true c2, agoralaw07_chosen.j2, if_pos rfl]
            obtain ⟨q, rfl⟩ := Int.eq_ofNat_of_zero_le c1
            -- the search for the X
            have loop : ∀ (d k2 j : Nat) (b : Bool), j + d = r.length → d + 100 * m + 150 ≤ k2 → (b = false → ∀ z, z < j → X r z ≠ X L q) → ∃ r', agoralaw07_chosen.l1 k2 L o r (i : Int) b (j : Int) = some r' ∧ Kept L r' 24 := by
              intro d
              induction d with
              | zero =>
                intro k2 j b hj hk2 hb
                obtain ⟨k2, rfl⟩ : ∃ k', k2 = k' + 1 := ⟨k2 - 1, by omega⟩
                rw [agoralaw07_chosen.l1, if_neg (by omega)]
                cases b
                · rw [if_neg (by decide), if_pos (by omega), if_pos (by omega), hv, if_pos (by omega), if_pos c2, if_pos (by have := hr.2.2; omega), rdX, rdY]
                  refine next k2 _ (by omega) ⟨fun z hz => ?_, fun z1 z2 hz2 hz1 => ?_, by rw [List.length_append, List.length_singleton]; have := hr.2.2; omega⟩
                  · rw [List.length_append, List.length_singleton] at hz
                    rw [X_append, Y_append]
                    by_cases e : z < r.length
                    · rw [if_pos e, if_pos e]; exact hr.1 z e
                    · rw [if_neg e, if_neg e, show z - r.length = 0 by omega]; exact ⟨q, by omega, rfl, rfl⟩
                  · rw [List.length_append, List.length_singleton] at hz1
                    rw [X_append, X_append]
                    have e2 : z2 < r.length := by omega
                    rw [if_pos e2]
                    by_cases e : z1 < r.length
                    · rw [if_pos e]; exact hr.2.1 z1 z2 hz2 e
                    · rw [if_neg e, show z1 - r.length = 0 by omega]
                      exact fun e3 => hb rfl z2 (by omega) e3.symm
                · rw [if_pos rfl]
                  exact next k2 r (by omega) keep
              | succ d ih =>
                intro k2 j b hj hk2 hb
                obtain ⟨k2, rfl⟩ : ∃ k', k2 = k' + 1 := ⟨k2 - 1, by omega⟩
                rw [agoralaw07_chosen.l1, if_pos (by omega), w_succ j (by have := hr.2.2; omega)]
                cases b
                · rw [if_neg (by decide), if_pos (by omega), if_pos (by omega), if_pos (by omega), hv, if_pos (by omega), if_pos c2, rdX, rdX]
                  refine ih k2 (j + 1) _ (by omega) (by omega) (fun hbf z hz => ?_)
                  rcases Nat.lt_or_ge z j with h1 | h1
                  · exact hb rfl z h1
                  · rw [show z = j by omega]; exact beq_eq_false_iff_ne.mp hbf
                · rw [if_pos rfl]
                  exact ih k2 (j + 1) true (by omega) (by omega) (fun h => by cases h)
            have h4 := hr.2.2
            exact loop r.length k 0 false (by omega) (by omega) (fun _ z hz => by omega)
          · rw [decide_eq_false c2]; exact skip
        · rw [if_neg c1]; exact skip
    · rw [if_neg (by omega)]; exact done
theorem chosen_at (k : Nat) (L : List S38) (o : List Int) (hL : L.length ≤ 100) (ho : o.length ≤ 140737488351232) (hk : 3000 ≤ k) : ∃ r, agoralaw07_chosen.f k L o = some r ∧ Kept L r 24 :=
  chosen_l0 L o hL ho 24 k 0 [] rfl (Nat.zero_le _) (by omega) ⟨fun i hi => by simp at hi, fun i j _ hi => by simp at hi, by simp⟩
theorem joins_out (k : Nat) (a b c : Int) (s : ByteArray) (o : List Int) (r : List S38) (hk : 1 ≤ k) : agoralaw07_ShareJoins.j0 k a b c s o r true true = some true := by
  obtain ⟨k, rfl⟩ : ∃ k', k = k' + 1 := ⟨k - 1, by omega⟩
  rw [agoralaw07_ShareJoins.j0, if_pos rfl]
theorem joins_j1 (k : Nat) (secret : Int) (t n : Nat) (o : List Int) (rest L : List S38) (cs : List F) (h4 : 0 ≤ secret) (h5 : secret < 2305843009213693951) (h1 : 1 ≤ t) (hn : n ≤ 64) (hlr : rest.length ≤ 24) (hor : o.length ≤ 140737488351232) (hv : Valid L) (ho : On cs L) (hl : L.length = n) (hc : cs.length = t) (hc0 : ev cs 0 = cl secret) (hk : 600000 ≤ k) :
    agoralaw07_ShareJoins.j1 k secret (t : Int) (n : Int) o rest true L true false = some true := by
  obtain ⟨k, rfl⟩ : ∃ k', k = k' + 1 := ⟨k - 1, by omega⟩
  obtain ⟨r, hr1, fr, dr, lr⟩ := chosen_at k L o (by omega) hor (by omega)
  have vr := fr.valid hv dr
  have or_ := fr.on ho
  rw [agoralaw07_ShareJoins.j1, if_neg (by decide), if_pos rfl, if_pos (by omega), hr1, Option.bind_some, fits_true k r t (by omega) (by omega) h1 vr (zero_of_on vr or_ t (by omega)), Option.bind_some, if_pos rfl]
  by_cases c : r.length < t
  · rw [join_no k r t (by omega) (by omega) (by omega), Option.bind_some, if_pos (by omega), if_pos rfl]; rfl
  · have hip : nm (ip t (px r) (py r) 0) = secret := by rw [ip_on vr or_ t (by omega) (by omega), hc0, nm_cl_in h4 h5]
    have lt_ : (r.take t).length = t := by rw [List.length_take]; omega
    have tk : (r.take t ++ rest).take t = r.take t := List.take_left' lt_
    have j2 := join_ok k (r.take t ++ rest) t (by rw [List.length_append]; omega) h1 (by rw [List.length_append]; omega) (by rw [tk]; exact valid_take vr t) (by rw [List.length_append]; omega)
    have hip2 : ip t (px (r.take t ++ rest)) (py (r.take t ++ rest)) 0 = ip t (px r) (py r) 0 := by
      rw [← ip_take (r.take t ++ rest) t, tk, ip_take]
    rw [join_ok k r t (by omega) h1 (by omega) (valid_take vr t) (by omega), Option.bind_some, if_neg (by omega), Option.bind_some, if_pos (by omega), if_pos (by omega), Option.bind_some, Int.toNat_natCast, if_pos (by simp only [List.length_nil]; omega), Option.bind_some, List.nil_append, if_pos (by omega), j2, Option.bind_some, hip2]
    dsimp only
    rw [if_pos rfl, if_pos rfl, if_pos hip, if_pos rfl, hip, beq_self_eq_true]
theorem joins_j0 (k : Nat) (secret t n : Int) (seed : ByteArray) (o : List Int) (rest : List S38) (hs : seed.size ≤ 1000) (hlr : rest.length ≤ 24) (hor : o.length ≤ 140737488351232) (hk : 600010 ≤ k) : agoralaw07_ShareJoins.j0 k secret t n seed o rest true false = some true := by
  obtain ⟨k, rfl⟩ : ∃ k', k = k' + 1 := ⟨k - 1, by omega⟩
  have no : ∀ b, agoralaw07_ShareJoins.j1 k secret t n o rest true [] false (false != false) = some b ↔ some true = some b := fun b => by
    obtain ⟨k, rfl⟩ : ∃ k', k = k' + 1 := ⟨k - 1, by omega⟩
    rw [bne_self_eq_false, agoralaw07_ShareJoins.j1, if_neg (by decide), if_neg (by decide), if_pos rfl]
    simp
  rw [agoralaw07_ShareJoins.j0, if_neg (by decide)]
  by_cases h : 1 ≤ t ∧ t ≤ n ∧ n ≤ 64 ∧ 0 ≤ secret ∧ secret < 2305843009213693951
  · obtain ⟨h1, h2, h3, h4, h5⟩ := h
    obtain ⟨t, rfl⟩ := Int.eq_ofNat_of_zero_le (show 0 ≤ t by omega)
    obtain ⟨n, rfl⟩ := Int.eq_ofNat_of_zero_le (show 0 ≤ n by omega)
    rw [split_ok secret t n seed hs (by omega) (by omega) (by omega) h4 h5 k (by omega), Option.bind_some, if_pos (by omega), if_pos (by omega), if_pos (by omega), if_pos (by omega)]
    dsimp only
    rw [decide_eq_true h5, bne_self_eq_false]
    exact joins_j1 k secret t n o rest _ (csF secret seed t) h4 h5 (by omega) (by omega) hlr hor (shL_valid _ n (by omega)) (shL_on _ n) (shL_length _ n) (csF_length secret seed t (by omega)) (csF_zero secret seed t) (by omega)
  · rw [split_no _ _ _ _ h k (by omega), Option.bind_some]
    dsimp only
    by_cases c1 : t ≥ 1
    · rw [if_pos c1]
      by_cases c2 : t ≤ n
      · rw [if_pos c2]
        by_cases c3 : n ≤ 64
        · rw [if_pos c3]
          by_cases c4 : secret ≥ 0
          · rw [if_pos c4, decide_eq_false (by omega)]; exact (no true).2 rfl
          · rw [if_neg c4]; exact (no true).2 rfl
        · rw [if_neg c3]; exact (no true).2 rfl
      · rw [if_neg c2]; exact (no true).2 rfl
    · rw [if_neg c1]; exact (no true).2 rfl
theorem ShareJoins (secret t n : Int) (seed : ByteArray) (o : List Int) (rest : List S38) (hor : o.length ≤ 140737488351232) : agoralaw07_ShareJoins.f 700000 secret t n seed o rest = some true := by
  rw [agoralaw07_ShareJoins.f, small_at _ (by decide), Option.bind_some]
  by_cases c1 : (seed.size : Int) > 1000
  · rw [if_pos c1, joins_out _ _ _ _ _ _ _ (by decide)]
  rw [if_neg c1]
  by_cases c2 : (rest.length : Int) > 24
  · rw [decide_eq_true c2, joins_out _ _ _ _ _ _ _ (by decide)]
  rw [decide_eq_false c2]
  exact joins_j0 _ _ _ _ _ _ _ (by omega) (by omega) hor (by decide)
end Go.Proofs.Ytggmjfonhcinhaa.Pure
end PureShareJoins_
