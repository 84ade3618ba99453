/- Texts of this claim, merged: what the functions that the law reaches compute, and what that says. -/
import Derived.Lib.Join
import Derived.Test.YtdpocgimajhlbaaK1
import Derived.Test.YtdpocgimajhlbaaK12
section Join_
namespace Go.Proofs.Ytdpocgimajhlbaa.P
open Go.RowKit Go.Proofs.YtdpocgimajhlbaaW.PrintWords
set_option linter.unusedVariables false
/-- strings one behind the other -/
def catB (l : List ByteArray) : ByteArray := ⟨(l.flatMap (·.data.toList)).toArray⟩
theorem join_empty (l : List (List UInt8)) : Lib.join l [] = l.flatten := by
  cases l with
  | nil => rfl
  | cons x r =>
    rw [Lib.join_cons]
    simp [Lib.joinTail]
theorem join_cat (l : List ByteArray) : (⟨(Lib.join (l.map (·.data.toList)) (ByteArray.mk #[]).data.toList).toArray⟩ : ByteArray) = catB l := by
  rw [show (ByteArray.mk #[]).data.toList = ([] : List UInt8) from rfl, join_empty, catB, List.flatMap]
theorem join_calls (A0 : Option Addr) (c0 : Nat) (l0 : List ByteArray) (w : World) (hr0 : Kd.C Kd.string w A0 l0.length l0) (hc0 : l0.length ≤ c0) (hn : l0.length ≤ 1000) (hs : (catB l0).size ≤ 1099511627776) :
    Calls Try.prog 52 #[.slice A0 l0.length c0, .string ⟨#[]⟩] w fun e w' => e = .returned (.string (catB l0)) ∧ Below w.heap.size w w' := by
  rcases Nat.eq_zero_or_pos l0.length with h0 | h0
  · have hl : l0 = [] := List.eq_nil_of_length_eq_zero h0
    subst hl
    refine (Try.strings_Join_none A0 c0 ⟨#[]⟩ w).mono ?_
    rintro e w' ⟨rfl, rfl⟩
    exact ⟨rfl, Below.refl _ _⟩
  · obtain ⟨ad, rfl, hc⟩ := hr0.2.2 h0
    have cell (j : Nat) (x : ByteArray) (hj : l0[j]? = some x) : w.cell? (ad.add j) = some (.string x) := by
      obtain ⟨c, _, hk, hcell⟩ := hc j x hj
      obtain rfl : c = [Value.string x] := hk
      have := hcell 0 _ rfl
      simpa [Kd.string, Kd.scalar] using this
    obtain ⟨bk, o, sp⟩ := ad
    have c0' := cell 0 l0[0] (List.getElem?_eq_getElem h0)
    rw [show (⟨bk, o, sp⟩ : Addr).add 0 = ⟨bk, o, sp⟩ from rfl] at c0'
    have hsp : sp = none := by
      cases sp with
      | none => rfl
      | some x =>
        simp only [World.cell?] at c0'
        split at c0'
        · simp at c0'
        · cases c0'
    subst hsp
    have hbk : bk < w.heap.size := by
      rcases Nat.lt_or_ge bk w.heap.size with h | h
      · exact h
      · simp [World.cell?, Array.getElem?_eq_none h] at c0'
    have hlen : (Lib.join (l0.map (·.data.toList)) (ByteArray.mk #[]).data.toList).length = (catB l0).size := by
      rw [← join_cat]; simp only [ByteArray.size, List.size_toArray]
    refine (Try.strings_Join bk o c0 l0 ⟨#[]⟩ w (fun j x hj => ?_) hbk (by omega) hc0 (by omega)).mono ?_
    · have := cell j x hj
      rw [show (⟨bk, o, none⟩ : Addr).add j = ⟨bk, o + j, none⟩ by simp [Addr.add]] at this
      exact this
    · rintro e w' ⟨rfl, hb⟩
      exact ⟨by rw [join_cat], hb⟩
end Go.Proofs.Ytdpocgimajhlbaa.P
end Join_
