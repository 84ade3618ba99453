/- The law SumHexes, plain. -/
import Derived.Test.YtloieoneckjjeaaP9
import Derived.Test.YtloieoneckjjeaaCrcF
import Derived.Test.YtloieoneckjjeaaHexL
namespace Go.Proofs.Ytloieoneckjjeaa.Pure
open Go.RowKit Go.Proofs.Ytloieoneckjjeaa.P Go.Proofs.Ytloieoneckjjeaa.ShaL Go.Proofs.Ytloieoneckjjeaa.HexL Go.Proofs.YtloieoneckjjeaaW.PrintWords Go.Proofs.YtloieoneckjjeaaW.PrintLast
set_option linter.unusedVariables false

theorem hexes_l0 (x1 h : ByteArray) (r : Option Bool) (hh : ∀ n ∈ bts h, (48 ≤ n ∧ n ≤ 57) ∨ (97 ≤ n ∧ n ≤ 102)) (hs : h.size ≤ 8000) (K : Nat)
    (hend : ∀ k, K ≤ k → agoralaw03_SumHexes.l0 k x1 true h (h.size : Int) = r) (m : Nat) : ∀ k i, i + m = h.size → K + m ≤ k → agoralaw03_SumHexes.l0 k x1 true h (i : Int) = r := by
  induction m with
  | zero => intro k i hi hk; obtain rfl : i = h.size := by omega
            exact hend k hk
  | succ m ih =>
    intro k i hi hk
    obtain ⟨k, rfl⟩ : ∃ k', k = k' + 1 := ⟨k - 1, by omega⟩
    have hl : i < (bts h).length := by rw [bts_length]; omega
    have hb := hh ((bts h).getD i 0) (by rw [List.getD_eq_getElem?_getD, List.getElem?_eq_getElem hl]; exact List.getElem_mem hl)
    have := ih k (i + 1) (by omega) (by omega)
    rw [agoralaw03_SumHexes.l0, if_pos (by omega), if_pos (by omega), bt_nat h i (by omega), show wrap64 ((i : Int) + 1) = ((i + 1 : Nat) : Int) by rw [wrap64]; omega]
    generalize (bts h).getD i 0 = b at hb
    rcases hb with hb | hb
    · rw [if_pos (by omega), if_pos (by omega)]; exact this
    · rw [if_pos (by omega), if_neg (by omega), if_pos (by omega), if_pos (by omega)]; exact this
theorem bts_inj2 {a b : ByteArray} (h : bts a = bts b) : a = b := by
  apply ByteArray.ext
  apply Array.toList_inj.1
  exact List.map_inj_right (fun x y e => UInt8.toNat_inj.1 e) |>.1 h
theorem SumHexes : agoralaw03_SumHexes.Pure := by
  intro s t hs ht
  have skip (k : Nat) : agoralaw03_SumHexes.j0 (k + 1) s t true true = some true := by
    rw [agoralaw03_SumHexes.j0, if_pos rfl]
  refine ⟨100000, ?_⟩
  unfold agoralaw03_SumHexes.f
  rw [smallR _ (by decide), Option.bind_some]
  by_cases h1 : (s.size : Int) > 4000
  · rw [if_pos h1]; exact skip 99999
  rw [if_neg h1]
  by_cases h2 : (t.size : Int) > 4000
  · rw [decide_eq_true h2]; exact skip 99999
  have lt := hexL_lt (bts s) (bts_lt s)
  have hb := bts_nums _ lt
  have ok := hexL_ok (bts s) (bts_lt s)
  have len := hexL_length (bts s)
  rw [bts_length] at len
  have unh := unhex_hex (bts s) [] (bts_lt s)
  have unh2 := unhex_hex (bts s) [65, 48] (bts_lt s)
  rw [List.append_nil] at unh
  obtain ⟨h, hh⟩ : ∃ h, strOfNums ((hexL (bts s)).map fun n : Nat => (n : Int)) = h := ⟨_, rfl⟩
  rw [hh] at hb
  have hsz : h.size = 2 * s.size := by rw [← bts_length, hb, len]
  have hun : unhexA (bts h) = (s, true) := by
    unfold unhexA
    rw [hb, unh]
    simp only [unhexL, Option.map_some, List.append_nil]
    rw [Prod.mk.injEq]
    exact ⟨bts_inj2 (bts_nums _ (bts_lt s)), rfl⟩
  have un_h : sum_Unhex.f 99999 h = some (s, true) := by rw [unhex_at h (by omega) _ (by omega), if_pos (by omega), hun]
  rw [decide_eq_false h2, show 100000 = 99999 + 1 from rfl, agoralaw03_SumHexes.j0, if_neg (by decide), hex_at s (by omega) _ (by omega), Option.bind_some, hh, un_h, Option.bind_some, if_pos rfl, if_pos rfl]
  have e1 : ((h.size : Int) != (wrap64 (2 * (s.size : Int)))) = false := by
    rw [bne_eq_false_iff_eq, wrap64]; omega
  rw [e1, show 99999 = 99998 + 1 from rfl, agoralaw03_SumHexes.j1, if_neg (by decide)]
  refine hexes_l0 t h (some true) (by rw [hb]; exact ok) (by omega) 20000 ?_ h.size 99998 0 (by omega) (by omega)
  intro k hk
  obtain ⟨k, rfl⟩ : ∃ k', k = k' + 1 := ⟨k - 1, by omega⟩
  rw [agoralaw03_SumHexes.l0, if_neg (by omega), unhex_at t (by omega) _ (by omega), Option.bind_some]
  have fin (k : Nat) (hk : 15000 ≤ k) : agoralaw03_SumHexes.j3 k true h false = some true := by
    obtain ⟨k, rfl⟩ : ∃ k', k = k' + 1 := ⟨k - 1, by omega⟩
    have z1 : (h ++ (⟨#[48]⟩ : ByteArray)).size = h.size + 1 := by rw [ByteArray.size_append]; rfl
    have z2 : (h ++ (⟨#[65, 48]⟩ : ByteArray)).size = h.size + 2 := by rw [ByteArray.size_append]; rfl
    have b2 : bts (h ++ (⟨#[65, 48]⟩ : ByteArray)) = hexL (bts s) ++ [65, 48] := by rw [bts_append, hb]; rfl
    have n2 : unhexA (bts (h ++ (⟨#[65, 48]⟩ : ByteArray))) = (⟨#[]⟩, false) := by
      unfold unhexA
      rw [b2, unh2, show unhexL [65, 48] = none by decide]
      rfl
    have un1 : sum_Unhex.f k (h ++ (⟨#[48]⟩ : ByteArray)) = some (⟨#[]⟩, false) := by rw [unhex_at _ (by rw [z1]; omega) _ (by rw [z1]; omega), if_neg (by rw [z1]; omega)]
    have un2 : sum_Unhex.f k (h ++ (⟨#[65, 48]⟩ : ByteArray)) = some (⟨#[]⟩, false) := by rw [unhex_at _ (by rw [z2]; omega) _ (by rw [z2]; omega), if_pos (by rw [z2]; omega), n2]
    rw [agoralaw03_SumHexes.j3, if_neg (by decide), if_pos (by omega), un1, Option.bind_some, if_pos (by omega), un2, Option.bind_some, if_pos rfl, if_neg (by decide)]
    rfl
  have nil0 : ((⟨#[]⟩ : ByteArray).toList != ([] : List UInt8)) = false := by decide +kernel
  by_cases ev : t.size % 2 = 0
  · rw [if_pos ev]
    unfold unhexA
    cases hu : unhexL (bts t) with
    | none =>
      simp only
      rw [if_neg (by decide), nil0]
      exact fin k (by omega)
    | some r =>
      obtain ⟨q1, q2⟩ := hex_unhex _ _ hu
      have hr := bts_nums r q2
      have hl := hexL_length r
      rw [q1, bts_length] at hl
      have hrs : (strOfNums (r.map fun n : Nat => (n : Int))).size = r.length := by rw [strOfNums_size, List.length_map]
      simp only
      rw [if_pos trivial, hex_at _ (by rw [hrs]; omega) _ (by rw [hrs]; omega), Option.bind_some, hr, q1, bts_inj2 (bts_nums _ (bts_lt t)), if_pos rfl]
      exact fin k (by omega)
  · rw [if_neg ev, if_neg (by decide)]
    simp only
    rw [nil0]
    exact fin k (by omega)
end Go.Proofs.Ytloieoneckjjeaa.Pure
