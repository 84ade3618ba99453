/- The product of two residues, as the program calculates it (bits.Mul64 and bits.Rem64), is the residue of the product: for the moduli 2^61 - 1 and 2^61 - 2. -/
import Derived.Test.YtdpocgimajhlbaaP3
import Derived.Test.YtdpocgimajhlbaaP4
import Derived.Laws.BitsAllLaws
namespace Go.Proofs.Ytdpocgimajhlbaa.Grp
set_option linter.unusedVariables false
open Go.RowKit Go.Proofs.Ytdpocgimajhlbaa.P Go.Proofs.YtdpocgimajhlbaaW.PrintWords Go.Proofs.YtdpocgimajhlbaaW.PrintLast Go.Proofs.YtdpocgimajhlbaaW.PrintMore

theorem wu (n : Int) : IntKind.u64.wrap n = n % 18446744073709551616 := IntKind.wrap_u64 n
theorem wu_in (n : Int) (h0 : 0 ≤ n) (h : n < 18446744073709551616) : IntKind.u64.wrap n = n := by rw [wu]; exact Int.emod_eq_of_lt h0 h

theorem ex_snd {a b c : Int} (h : b = c) : ∃ x, (some (a, b) : Option (Int × Int)) = some (x, c) := ⟨a, by rw [h]⟩

/-- the divisor is one of the two, shifted to the left by three bits -/
def Two (D y0 : Int) : Prop := (D = 18446744073709551608 ∧ y0 = 4294967288) ∨ (D = 18446744073709551600 ∧ y0 = 4294967280)

theorem rest_eq {D y0 u x q : Int} (hD : Two D y0) (h1 : q * D ≤ u * 4294967296 + x) (h2 : u * 4294967296 + x < q * D + D) :
    IntKind.u64.wrap ((IntKind.u64.wrap ((IntKind.u64.wrap (u * 4294967296)) + x)) - (IntKind.u64.wrap (q * D))) = (u * 4294967296 + x) % D := by
  simp only [wu]
  rcases hD with ⟨rfl, rfl⟩ | ⟨rfl, rfl⟩ <;> omega

/-- the lower digit, where the loop ends in this round -/
theorem l1_end {D y0 : Int} (hD : Two D y0) (k : Nat) (x15 : Int) {u x r q : Int} (hu0 : 0 ≤ u) (hu : u < D) (hx0 : 0 ≤ x) (hx : x < 4294967296) (hq : q * 4294967295 + r = u) (hq0 : 0 ≤ q)
    (hr1 : 1 ≤ r) (hr : r < 4294967296) (ho : r * 4294967296 + x - q * y0 < D) :
    ∃ a, bits_Div64.l1 (k + 2) D 3 4294967295 y0 x x15 r u q = some (a, (u * 4294967296 + x) % D / 8) := by
  rw [show k + 2 = (k + 1) + 1 from rfl]
  unfold bits_Div64.l1
  by_cases c1 : q ≥ 4294967296
  · rw [if_pos c1]
    unfold bits_Div64.j4
    have hw : IntKind.u64.wrap (r + 4294967295) = r + 4294967295 := wu_in _ (by omega) (by omega)
    have hw2 : IntKind.u64.wrap (q - 1) = q - 1 := wu_in _ (by omega) (by rcases hD with ⟨rfl, rfl⟩ | ⟨rfl, rfl⟩ <;> omega)
    rw [if_pos rfl, hw, if_pos (by omega), if_pos (by omega), hw2]
    exact ex_snd (by rw [rest_eq hD (by rcases hD with ⟨rfl, rfl⟩ | ⟨rfl, rfl⟩ <;> omega) (by rcases hD with ⟨rfl, rfl⟩ | ⟨rfl, rfl⟩ <;> omega)]; rfl)
  · rw [if_neg c1]
    unfold bits_Div64.j4
    have hw : IntKind.u64.wrap (r + 4294967295) = r + 4294967295 := wu_in _ (by omega) (by omega)
    have ha : IntKind.u64.wrap (q * y0) = q * y0 := wu_in _ (by rcases hD with ⟨rfl, rfl⟩ | ⟨rfl, rfl⟩ <;> omega) (by rcases hD with ⟨rfl, rfl⟩ | ⟨rfl, rfl⟩ <;> omega)
    have hb : IntKind.u64.wrap ((IntKind.u64.wrap (4294967296 * r)) + x) = 4294967296 * r + x := by
      rw [wu_in (4294967296 * r) (by omega) (by omega)]; exact wu_in _ (by omega) (by omega)
    rw [ha, hb]
    by_cases c2 : q * y0 > 4294967296 * r + x
    · have hq1 : 1 ≤ q := by
        rcases hD with ⟨rfl, rfl⟩ | ⟨rfl, rfl⟩ <;> omega
      have hw2 : IntKind.u64.wrap (q - 1) = q - 1 := wu_in _ (by omega) (by omega)
      rw [decide_eq_true c2, if_pos rfl, hw, if_pos (by omega), if_pos (by omega), hw2]
      exact ex_snd (by rw [rest_eq hD (by rcases hD with ⟨rfl, rfl⟩ | ⟨rfl, rfl⟩ <;> omega) (by rcases hD with ⟨rfl, rfl⟩ | ⟨rfl, rfl⟩ <;> omega)]; rfl)
    · rw [decide_eq_false c2, if_neg (by simp), if_pos (by omega)]
      exact ex_snd (by rw [rest_eq hD (by rcases hD with ⟨rfl, rfl⟩ | ⟨rfl, rfl⟩ <;> omega) (by rcases hD with ⟨rfl, rfl⟩ | ⟨rfl, rfl⟩ <;> omega)]; rfl)

/-- the lower digit -/
theorem l1_ok {D y0 : Int} (hD : Two D y0) (k : Nat) (x15 : Int) {u x r q : Int} (hu0 : 0 ≤ u) (hu : u < D) (hx0 : 0 ≤ x) (hx : x < 4294967296) (hq : q * 4294967295 + r = u) (hq0 : 0 ≤ q)
    (hr0 : 0 ≤ r) (hr : r < 4294967295) :
    ∃ a, bits_Div64.l1 (k + 4) D 3 4294967295 y0 x x15 r u q = some (a, (u * 4294967296 + x) % D / 8) := by
  have ho : r * 4294967296 + x - q * y0 < D := by
    rcases hD with ⟨rfl, rfl⟩ | ⟨rfl, rfl⟩ <;> omega
  by_cases h1 : 1 ≤ r
  · exact l1_end hD (k + 2) x15 hu0 hu hx0 hx hq hq0 h1 (by omega) ho
  · obtain rfl : r = 0 := by omega
    have fin : ∀ q', q' = q - 1 → q * y0 > x → 1 ≤ q → ∃ a, bits_Div64.l1 (k + 2) D 3 4294967295 y0 x x15 4294967295 u q' = some (a, (u * 4294967296 + x) % D / 8) := by
      rintro q' rfl hgt hq1
      exact l1_end hD k x15 hu0 hu hx0 hx (by omega) (by omega) (by omega) (by omega) (by rcases hD with ⟨rfl, rfl⟩ | ⟨rfl, rfl⟩ <;> omega)
    have hw : IntKind.u64.wrap (0 + 4294967295) = 4294967295 := by rw [wu]; decide
    rw [show k + 4 = (k + 2 + 1) + 1 from rfl]
    unfold bits_Div64.l1
    by_cases c1 : q ≥ 4294967296
    · rw [if_pos c1]
      unfold bits_Div64.j4
      have hw2 : IntKind.u64.wrap (q - 1) = q - 1 := wu_in _ (by omega) (by rcases hD with ⟨rfl, rfl⟩ | ⟨rfl, rfl⟩ <;> omega)
      rw [if_pos rfl, hw, if_neg (by omega), hw2]
      exact fin _ rfl (by rcases hD with ⟨rfl, rfl⟩ | ⟨rfl, rfl⟩ <;> omega) (by omega)
    · rw [if_neg c1]
      unfold bits_Div64.j4
      have ha : IntKind.u64.wrap (q * y0) = q * y0 := wu_in _ (by rcases hD with ⟨rfl, rfl⟩ | ⟨rfl, rfl⟩ <;> omega) (by rcases hD with ⟨rfl, rfl⟩ | ⟨rfl, rfl⟩ <;> omega)
      have hb : IntKind.u64.wrap ((IntKind.u64.wrap (4294967296 * 0)) + x) = x := by
        rw [wu_in (4294967296 * 0) (by omega) (by omega), wu_in _ (by omega) (by omega)]; omega
      rw [ha, hb]
      by_cases c2 : q * y0 > x
      · have hq1 : 1 ≤ q := by
          rcases hD with ⟨rfl, rfl⟩ | ⟨rfl, rfl⟩ <;> omega
        have hw2 : IntKind.u64.wrap (q - 1) = q - 1 := wu_in _ (by omega) (by omega)
        rw [decide_eq_true c2, if_pos rfl, hw, if_neg (by omega), hw2]
        exact fin _ rfl c2 hq1
      · rw [decide_eq_false c2, if_neg (by simp), if_pos (by omega)]
        exact ex_snd (by rw [rest_eq hD (by rcases hD with ⟨rfl, rfl⟩ | ⟨rfl, rfl⟩ <;> omega) (by rcases hD with ⟨rfl, rfl⟩ | ⟨rfl, rfl⟩ <;> omega)]; rfl)

/-- between the digits -/
theorem j2_ok {D y0 : Int} (hD : Two D y0) (k : Nat) {u x x14 q : Int} (hu0 : 0 ≤ u) (hu : u < D) (hx0 : 0 ≤ x) (hx : x < 4294967296) (h140 : 0 ≤ x14) (h14 : x14 < 4294967296)
    (h1 : q * D ≤ u * 4294967296 + x) (h2 : u * 4294967296 + x < q * D + D) :
    ∃ a, bits_Div64.j2 (k + 5) D 3 4294967295 y0 u x x14 q = some (a, ((u * 4294967296 + x) % D * 4294967296 + x14) % D / 8) := by
  rw [show k + 5 = (k + 4) + 1 from rfl, bits_Div64.j2]
  rw [if_neg (by decide), rest_eq hD h1 h2]
  have hv0 : 0 ≤ (u * 4294967296 + x) % D := by rcases hD with ⟨rfl, rfl⟩ | ⟨rfl, rfl⟩ <;> omega
  have hv : (u * 4294967296 + x) % D < D := by rcases hD with ⟨rfl, rfl⟩ | ⟨rfl, rfl⟩ <;> omega
  have hD64 : D < 18446744073709551616 := by rcases hD with ⟨rfl, rfl⟩ | ⟨rfl, rfl⟩ <;> omega
  generalize (u * 4294967296 + x) % D = v at hv0 hv ⊢
  rw [Int.tdiv_eq_ediv_of_nonneg hv0, wu_in (v / 4294967295) (by omega) (by omega), wu_in (v / 4294967295 * 4294967295) (by omega) (by omega), wu_in (v - v / 4294967295 * 4294967295) (by omega) (by omega)]
  exact l1_ok hD k _ hv0 hv h140 h14 (by omega) (by omega) (by omega) (by omega)

theorem l0_end {D y0 : Int} (hD : Two D y0) (k : Nat) {u x x14 r q : Int} (hu0 : 0 ≤ u) (hu : u < D) (hx0 : 0 ≤ x) (hx : x < 4294967296) (h140 : 0 ≤ x14) (h14 : x14 < 4294967296) (hq : q * 4294967295 + r = u) (hq0 : 0 ≤ q)
    (hr1 : 1 ≤ r) (hr : r < 4294967296) (ho : r * 4294967296 + x - q * y0 < D) :
    ∃ a, bits_Div64.l0 (k + 7) D 3 4294967295 y0 u x x14 q r = some (a, ((u * 4294967296 + x) % D * 4294967296 + x14) % D / 8) := by
  rw [show k + 7 = (k + 5 + 1) + 1 from rfl]
  unfold bits_Div64.l0
  have hw : IntKind.u64.wrap (r + 4294967295) = r + 4294967295 := wu_in _ (by omega) (by omega)
  by_cases c1 : q ≥ 4294967296
  · rw [if_pos c1]
    unfold bits_Div64.j1
    have hw2 : IntKind.u64.wrap (q - 1) = q - 1 := wu_in _ (by omega) (by rcases hD with ⟨rfl, rfl⟩ | ⟨rfl, rfl⟩ <;> omega)
    rw [if_pos rfl, hw, if_pos (by omega), hw2]
    exact j2_ok hD k hu0 hu hx0 hx h140 h14 (by rcases hD with ⟨rfl, rfl⟩ | ⟨rfl, rfl⟩ <;> omega) (by rcases hD with ⟨rfl, rfl⟩ | ⟨rfl, rfl⟩ <;> omega)
  · rw [if_neg c1]
    unfold bits_Div64.j1
    have ha : IntKind.u64.wrap (q * y0) = q * y0 := wu_in _ (by rcases hD with ⟨rfl, rfl⟩ | ⟨rfl, rfl⟩ <;> omega) (by rcases hD with ⟨rfl, rfl⟩ | ⟨rfl, rfl⟩ <;> omega)
    have hb : IntKind.u64.wrap ((IntKind.u64.wrap (4294967296 * r)) + x) = 4294967296 * r + x := by
      rw [wu_in (4294967296 * r) (by omega) (by omega)]; exact wu_in _ (by omega) (by omega)
    rw [ha, hb]
    by_cases c2 : q * y0 > 4294967296 * r + x
    · have hq1 : 1 ≤ q := by
        rcases hD with ⟨rfl, rfl⟩ | ⟨rfl, rfl⟩ <;> omega
      have hw2 : IntKind.u64.wrap (q - 1) = q - 1 := wu_in _ (by omega) (by omega)
      rw [decide_eq_true c2, if_pos rfl, hw, if_pos (by omega), hw2]
      exact j2_ok hD k hu0 hu hx0 hx h140 h14 (by rcases hD with ⟨rfl, rfl⟩ | ⟨rfl, rfl⟩ <;> omega) (by rcases hD with ⟨rfl, rfl⟩ | ⟨rfl, rfl⟩ <;> omega)
    · rw [decide_eq_false c2, if_neg (by simp)]
      exact j2_ok hD k hu0 hu hx0 hx h140 h14 (by rcases hD with ⟨rfl, rfl⟩ | ⟨rfl, rfl⟩ <;> omega) (by rcases hD with ⟨rfl, rfl⟩ | ⟨rfl, rfl⟩ <;> omega)

theorem l0_ok {D y0 : Int} (hD : Two D y0) (k : Nat) {u x x14 r q : Int} (hu0 : 0 ≤ u) (hu : u < D) (hx0 : 0 ≤ x) (hx : x < 4294967296) (h140 : 0 ≤ x14) (h14 : x14 < 4294967296) (hq : q * 4294967295 + r = u) (hq0 : 0 ≤ q)
    (hr0 : 0 ≤ r) (hr : r < 4294967295) :
    ∃ a, bits_Div64.l0 (k + 9) D 3 4294967295 y0 u x x14 q r = some (a, ((u * 4294967296 + x) % D * 4294967296 + x14) % D / 8) := by
  have ho : r * 4294967296 + x - q * y0 < D := by
    rcases hD with ⟨rfl, rfl⟩ | ⟨rfl, rfl⟩ <;> omega
  by_cases h1 : 1 ≤ r
  · exact l0_end hD (k + 2) hu0 hu hx0 hx h140 h14 hq hq0 h1 (by omega) ho
  · obtain rfl : r = 0 := by omega
    have fin : ∀ q', q' = q - 1 → q * y0 > x → 1 ≤ q → ∃ a, bits_Div64.l0 (k + 7) D 3 4294967295 y0 u x x14 q' 4294967295 = some (a, ((u * 4294967296 + x) % D * 4294967296 + x14) % D / 8) := by
      rintro q' rfl hgt hq1
      exact l0_end hD k hu0 hu hx0 hx h140 h14 (by omega) (by omega) (by omega) (by omega) (by rcases hD with ⟨rfl, rfl⟩ | ⟨rfl, rfl⟩ <;> omega)
    have hw : IntKind.u64.wrap (0 + 4294967295) = 4294967295 := by rw [wu]; decide
    rw [show k + 9 = (k + 7 + 1) + 1 from rfl]
    unfold bits_Div64.l0
    by_cases c1 : q ≥ 4294967296
    · rw [if_pos c1]
      unfold bits_Div64.j1
      have hw2 : IntKind.u64.wrap (q - 1) = q - 1 := wu_in _ (by omega) (by rcases hD with ⟨rfl, rfl⟩ | ⟨rfl, rfl⟩ <;> omega)
      rw [if_pos rfl, hw, if_neg (by omega), hw2]
      exact fin _ rfl (by rcases hD with ⟨rfl, rfl⟩ | ⟨rfl, rfl⟩ <;> omega) (by omega)
    · rw [if_neg c1]
      unfold bits_Div64.j1
      have ha : IntKind.u64.wrap (q * y0) = q * y0 := wu_in _ (by rcases hD with ⟨rfl, rfl⟩ | ⟨rfl, rfl⟩ <;> omega) (by rcases hD with ⟨rfl, rfl⟩ | ⟨rfl, rfl⟩ <;> omega)
      have hb : IntKind.u64.wrap ((IntKind.u64.wrap (4294967296 * 0)) + x) = x := by
        rw [wu_in (4294967296 * 0) (by omega) (by omega), wu_in _ (by omega) (by omega)]; omega
      rw [ha, hb]
      by_cases c2 : q * y0 > x
      · have hq1 : 1 ≤ q := by
          rcases hD with ⟨rfl, rfl⟩ | ⟨rfl, rfl⟩ <;> omega
        have hw2 : IntKind.u64.wrap (q - 1) = q - 1 := wu_in _ (by omega) (by omega)
        rw [decide_eq_true c2, if_pos rfl, hw, if_neg (by omega), hw2]
        exact fin _ rfl c2 hq1
      · rw [decide_eq_false c2, if_neg (by simp)]
        exact j2_ok hD (k + 2) hu0 hu hx0 hx h140 h14 (by rcases hD with ⟨rfl, rfl⟩ | ⟨rfl, rfl⟩ <;> omega) (by rcases hD with ⟨rfl, rfl⟩ | ⟨rfl, rfl⟩ <;> omega)
end Go.Proofs.Ytdpocgimajhlbaa.Grp
