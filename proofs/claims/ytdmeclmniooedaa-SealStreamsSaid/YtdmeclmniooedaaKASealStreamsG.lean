/- Texts of this claim, merged: what the functions that the law reaches compute, and what that says. -/
import Derived.Laws.BitsAllLaws
import Derived.Test.YtdmeclmniooedaaKA4
import Derived.Test.YtdmeclmniooedaaKA19
import Derived.Test.YtdmeclmniooedaaKA20
import Derived.Test.YtdmeclmniooedaaKASealStreamsF
import Derived.Test.YtdmeclmniooedaaKA24
section PureSealStreams_
namespace Go.Proofs.Ytdmeclmniooedaa.Pure
open Go.RowKit Go.Proofs.Ytdmeclmniooedaa.P Go.Proofs.Ytdmeclmniooedaa.ShaL Go.Proofs.Ytdmeclmniooedaa.Grp Go.Proofs.Ytdmeclmniooedaa.Rng Go.Proofs.Ytdmeclmniooedaa.Sl Go.Proofs.YtdmeclmniooedaaW.PrintWords Go.Proofs.YtdmeclmniooedaaW.PrintLast
set_option linter.unusedVariables false
theorem xor8_at (a b : Nat) (ha : a < 256) (hb : b < 256) : Go.bits .xor .u8 (a : Int) (b : Int) = ((a ^^^ b : Nat) : Int) := u8_xor_nat a b ha hb
theorem xor_out (a b c : Nat) : (a ^^^ c) ^^^ (b ^^^ c) = a ^^^ b := by
  rw [Nat.xor_comm b c, ← Nat.xor_assoc, Nat.xor_assoc a c c, Nat.xor_self, Nat.xor_zero]
theorem extract_get (s : ByteArray) (n j : Nat) (h : j < n) (hn : n ≤ s.size) : (bts (s.extract 0 n)).getD j 0 = (bts s).getD j 0 := by
  rw [bts_extract, List.drop_zero, Nat.sub_zero, List.getD_eq_getElem?_getD, List.getD_eq_getElem?_getD, List.getElem?_take, if_pos h]
theorem mix_pre (key nonce s : ByteArray) (n : Nat) (hn : n ≤ s.size) : mixB key nonce (s.extract 0 n) = (mixB key nonce s).extract 0 n := by
  apply bts_ext (by rw [mixB_size, ByteArray.size_extract, ByteArray.size_extract, mixB_size])
  intro j hj
  rw [ByteArray.size_extract, mixB_size] at hj
  rw [mix_get _ _ _ _ (by rw [ByteArray.size_extract]; exact hj), extract_get _ _ _ (by omega) hn, extract_get _ _ _ (by omega) (by rw [mixB_size]; exact hn), mix_get _ _ _ _ (by omega)]
theorem loop (key nonce s t : ByteArray) (n : Nat) (hs : n ≤ s.size) (ht : n ≤ t.size) (h : n ≤ 100000) (m : Nat) : ∀ (k i : Nat), i + m = n → m + 1 ≤ k →
    agoralaw06_SealStreams.l0 k s t true (mixB key nonce s) (mixB key nonce t) (n : Int) (i : Int) = some true := by
  induction m with
  | zero =>
    intro k i hi hk
    obtain ⟨k, rfl⟩ : ∃ k', k = k' + 1 := ⟨k - 1, by omega⟩
    rw [agoralaw06_SealStreams.l0, if_neg (by omega)]
  | succ m ih =>
    intro k i hi hk
    obtain ⟨k, rfl⟩ : ∃ k', k = k' + 1 := ⟨k - 1, by omega⟩
    have m1 := mixB_size key nonce s
    have m2 := mixB_size key nonce t
    have hx : Go.bits .xor .u8 (bt (mixB key nonce s) (i : Int)) (bt (mixB key nonce t) (i : Int)) = Go.bits .xor .u8 (bt s (i : Int)) (bt t (i : Int)) := by
      rw [bt_nat _ _ (by omega), bt_nat _ _ (by omega), bt_nat _ _ (by omega), bt_nat _ _ (by omega), xor8_at _ _ (getD_lt _ _) (getD_lt _ _), xor8_at _ _ (getD_lt _ _) (getD_lt _ _),
        mix_get _ _ _ _ (by omega), mix_get _ _ _ _ (by omega), xor_out]
    rw [agoralaw06_SealStreams.l0, if_pos (by omega), if_pos (by omega), if_pos (by omega), if_pos (by omega), if_pos (by omega), if_pos (by omega), if_pos hx, w64_in _ (by omega) (by omega),
      show (i : Int) + 1 = ((i + 1 : Nat) : Int) by omega]
    exact ih k (i + 1) (by omega) (by omega)
theorem SealStreams : agoralaw06_SealStreams.Pure := by
  intro key nonce s t h0 h1 h2 h3
  refine ⟨3000, ?_⟩
  have hz := szs4 key nonce s t
  unfold agoralaw06_SealStreams.f
  rw [smallR _ (by decide), Option.bind_some, few_at _ (by simp) (by decide) (by omega), Option.bind_some]
  by_cases hf : (szs [key, nonce, s, t] : Int) ≤ 2000
  rotate_left
  · rw [decide_eq_false hf, if_neg (by decide)]
  rw [decide_eq_true hf, if_pos rfl, seal_at key nonce s (by omega) (by omega) (by omega), Option.bind_some, seal_at key nonce t (by omega) (by omega) (by omega), Option.bind_some]
  obtain ⟨n, hn, hs, ht⟩ : ∃ n : Nat, mn (s.size : Int) (t.size : Int) = (n : Int) ∧ n ≤ s.size ∧ n ≤ t.size := by
    refine ⟨(mn (s.size : Int) (t.size : Int)).toNat, ?_, ?_, ?_⟩ <;> unfold mn <;> split <;> omega
  have m1 := mixB_size key nonce s
  have m2 := mixB_size key nonce t
  have e1 : (s.extract 0 n).size = n := by rw [ByteArray.size_extract]; omega
  simp only [hn, Int.toNat_natCast]
  rw [if_pos (by omega), if_pos (by omega), if_pos (by omega), if_pos (by omega), seal_at key nonce (s.extract 0 n) (by omega) (by omega) (by omega), Option.bind_some, if_pos (by omega)]
  simp only [mix_pre key nonce s n hs]
  rw [bne_self_eq_false, agoralaw06_SealStreams.j0, if_neg (by decide)]
  exact loop key nonce s t n hs ht (by omega) n _ 0 (by omega) (by omega)
end Go.Proofs.Ytdmeclmniooedaa.Pure
end PureSealStreams_
