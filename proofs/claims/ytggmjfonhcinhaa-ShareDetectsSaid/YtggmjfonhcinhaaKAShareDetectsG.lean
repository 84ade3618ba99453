/- Texts of this claim, merged: what the functions that the law reaches compute, and what that says. -/
import Derived.Test.YtggmjfonhcinhaaKA5
import Derived.Test.YtggmjfonhcinhaaKA6
import Derived.Test.YtggmjfonhcinhaaKA18
import Derived.Test.YtggmjfonhcinhaaKA19
import Derived.Test.YtggmjfonhcinhaaKAShareDetectsF
import Derived.Test.YtggmjfonhcinhaaKA22
section PureShareDetects_
namespace Go.Proofs.Ytggmjfonhcinhaa.Pure
open Go.RowKit Go.Proofs.Ytggmjfonhcinhaa.P Go.Proofs.Ytggmjfonhcinhaa.Shr Go.Proofs.YtggmjfonhcinhaaW.PrintWords Go.Proofs.YtggmjfonhcinhaaW.PrintLast Go.Proofs.YtggmjfonhcinhaaW.PrintMore
set_option linter.unusedVariables false
theorem det_out (k : Nat) (a b c : Int) (s : ByteArray) (d e : Int) (hk : 1 ≤ k) : agoralaw07_ShareDetects.j0 k a b c s d e true true = some true := by
  obtain ⟨k, rfl⟩ : ∃ k', k = k' + 1 := ⟨k - 1, by omega⟩
  rw [agoralaw07_ShareDetects.j0, if_pos rfl]
theorem det_j0 (k : Nat) (secret t n : Int) (seed : ByteArray) (a y : Int) (hs : seed.size ≤ 1000) (hn : n ≤ 24) (ht : t < n) (ha0 : 0 ≤ a) (ha : a < n) (hy0 : 0 ≤ y) (hy : y < 2305843009213693951) (hk : 600000 ≤ k) :
    agoralaw07_ShareDetects.j0 k secret t n seed a y true false = some true := by
  obtain ⟨k, rfl⟩ : ∃ k', k = k' + 1 := ⟨k - 1, by omega⟩
  rw [agoralaw07_ShareDetects.j0, if_neg (by decide)]
  by_cases h : 1 ≤ t ∧ t ≤ n ∧ n ≤ 64 ∧ 0 ≤ secret ∧ secret < 2305843009213693951
  · obtain ⟨h1, h2, h3, h4, h5⟩ := h
    obtain ⟨t, rfl⟩ := Int.eq_ofNat_of_zero_le (show 0 ≤ t by omega)
    obtain ⟨n, rfl⟩ := Int.eq_ofNat_of_zero_le (show 0 ≤ n by omega)
    obtain ⟨a, rfl⟩ := Int.eq_ofNat_of_zero_le ha0
    rw [split_ok secret t n seed hs (by omega) (by omega) (by omega) h4 h5 k (by omega), Option.bind_some]
    have hv := shL_valid (csF secret seed t) n (by omega)
    have ho := shL_on (csF secret seed t) n
    have hc := csF_length secret seed t (by omega)
    have hl := shL_length (csF secret seed t) n
    generalize shL (csF secret seed t) n = L at hv ho hl ⊢
    generalize csF secret seed t = cs at ho hc ⊢
    dsimp only
    have hal : a < L.length := by omega
    obtain ⟨v2, z2⟩ := bent hv ho t (by omega) (by omega) a hal y hy0 hy
    obtain ⟨fr, dr⟩ := skip_ok L a hal hv
    have vr := fr.valid hv dr
    have zr := zero_of_on vr (fr.on ho) t (by omega)
    have lr := skip_length L a hal
    have f2 := fits_true k _ t (by omega) (by omega) (by omega) vr zr
    obtain ⟨b, f1, f3⟩ := fits_at k (L.set a ⟨X L a, y⟩) (t : Int) (by rw [List.length_set]; omega) (by rw [List.length_set]; omega)
    have hb : b = (Y L a == y) := by
      rw [Bool.eq_iff_iff, f3, beq_iff_eq, Int.toNat_natCast, z2]
      exact ⟨fun h => h.2.2, fun h => ⟨by omega, v2, h⟩⟩
    rw [if_pos rfl, if_pos (by omega), if_pos (by omega), if_pos (by omega), Option.bind_some, if_pos (by omega), Option.bind_some, Int.toNat_natCast, if_pos (by simp only [List.length_nil, List.length_take]; omega), Option.bind_some, w_succ a (by omega), if_pos (by omega), if_pos (by omega), Option.bind_some, Int.toNat_natCast, List.nil_append,
      if_pos (by simp only [List.length_drop, List.length_take]; omega), if_pos rfl, rdX, rdY, f1, Option.bind_some, hb, beq_self_eq_true, if_pos rfl, f2]
    rfl
  · rw [split_no _ _ _ _ h k (by omega), Option.bind_some]
    dsimp only
    rw [if_neg (by decide)]
theorem ShareDetects (secret t n : Int) (seed : ByteArray) (a y : Int) : agoralaw07_ShareDetects.f 700000 secret t n seed a y = some true := by
  rw [agoralaw07_ShareDetects.f, small_at _ (by decide), Option.bind_some]
  by_cases c1 : (seed.size : Int) > 1000
  · rw [if_pos c1, det_out _ _ _ _ _ _ _ (by decide)]
  rw [if_neg c1]
  by_cases c2 : n > 24
  · rw [if_pos c2, det_out _ _ _ _ _ _ _ (by decide)]
  rw [if_neg c2]
  by_cases c3 : t ≥ n
  · rw [if_pos c3, det_out _ _ _ _ _ _ _ (by decide)]
  rw [if_neg c3]
  by_cases c4 : a < 0
  · rw [if_pos c4, det_out _ _ _ _ _ _ _ (by decide)]
  rw [if_neg c4]
  by_cases c5 : a ≥ n
  · rw [if_pos c5, det_out _ _ _ _ _ _ _ (by decide)]
  rw [if_neg c5]
  by_cases c6 : y < 0
  · rw [if_pos c6, det_out _ _ _ _ _ _ _ (by decide)]
  rw [if_neg c6]
  by_cases c7 : y ≥ 2305843009213693951
  · rw [decide_eq_true c7, det_out _ _ _ _ _ _ _ (by decide)]
  rw [decide_eq_false c7]
  exact det_j0 _ _ _ _ _ _ _ (by omega) (by omega) (by omega) (by omega) (by omega) (by omega) (by omega) (by decide)
end Go.Proofs.Ytggmjfonhcinhaa.Pure
end PureShareDetects_
