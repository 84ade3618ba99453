/- Texts of this claim, merged: what the functions that the law reaches compute, and what that says. -/
import Derived.Laws.BitsAllLaws
import Derived.Test.YtdmeclmniooedaaKC20
import Derived.Test.YtdmeclmniooedaaKC21
import Derived.Test.YtdmeclmniooedaaKC24
import Derived.Test.YtdmeclmniooedaaKC25
import Derived.Test.YtdmeclmniooedaaKC26
section Sl_
namespace Go.Proofs.Ytdmeclmniooedaa.Sl
open Go.RowKit Go.Proofs.Ytdmeclmniooedaa.P Go.Proofs.Ytdmeclmniooedaa.ShaL Go.Proofs.Ytdmeclmniooedaa.Grp Go.Proofs.Ytdmeclmniooedaa.NumL Go.Proofs.Ytdmeclmniooedaa.Rng Go.Proofs.YtdmeclmniooedaaW.PrintWords Go.Proofs.YtdmeclmniooedaaW.PrintLast
set_option linter.unusedVariables false
theorem bytes_inj {a b : ByteArray} (h : a.toList = b.toList) : a = b := by
  rw [Go.ByteArray.toList_eq, Go.ByteArray.toList_eq] at h
  exact ByteArray.ext (Array.toList_inj.1 h)
theorem few_l0 (l : List ByteArray) (hl : l.length ≤ 1000) (h : szs l < 9223372036854775808) (m : Nat) : ∀ (k i : Nat), i + m = l.length → m + 1 ≤ k →
    agoralaw06_few.l0 k l ((szs (l.take i) : Nat) : Int) (i : Int) = some (decide ((szs l : Int) ≤ 2000)) := by
  induction m with
  | zero =>
    intro k i hi hk
    obtain ⟨k, rfl⟩ : ∃ k', k = k' + 1 := ⟨k - 1, by omega⟩
    rw [agoralaw06_few.l0, if_neg (by omega), List.take_of_length_le (by omega)]
  | succ m ih =>
    intro k i hi hk
    obtain ⟨k, rfl⟩ : ∃ k', k = k' + 1 := ⟨k - 1, by omega⟩
    have hg : l[i]? = some (l[i]'(by omega)) := List.getElem?_eq_getElem (by omega)
    have e : szs (l.take (i + 1)) = szs (l.take i) + (rdOf ByteArray.empty l (i : Int)).size := by
      rw [List.take_add_one, hg, rdOf, Int.toNat_natCast, List.getD_eq_getElem?_getD, hg]
      simp only [szs, List.map_append, List.sum_append, Option.toList_some, List.map_cons, List.map_nil, List.sum_cons, List.sum_nil, Nat.add_zero, Option.getD_some]
    have hle := szs_take l (i + 1)
    rw [agoralaw06_few.l0, if_pos (by omega), if_pos (by omega), w64_in _ (by omega) (by omega), w64_in ((i : Int) + 1) (by omega) (by omega),
      show ((szs (l.take i) : Nat) : Int) + ((rdOf ByteArray.empty l (i : Int)).size : Int) = ((szs (l.take (i + 1)) : Nat) : Int) by omega, show (i : Int) + 1 = ((i + 1 : Nat) : Int) by omega]
    exact ih k (i + 1) (by omega) (by omega)
theorem few_at {k : Nat} (l : List ByteArray) (hl : l.length ≤ 50) (hk : 60 ≤ k) (h : szs l < 9223372036854775808) : agoralaw06_few.f k l = some (decide ((szs l : Int) ≤ 2000)) :=
  few_l0 l (by omega) h l.length k 0 (by omega) (by omega)
def hB (l : List ByteArray) : ByteArray := Sch.shaB (listB l)
theorem hB_size (l : List ByteArray) : (hB l).size = 32 := shaB_size _
theorem list_at (l : List ByteArray) (h : l.length ≤ 1000) (hs : szs l ≤ 1000000000) : code_List.f l = some (listB l) := by
  unfold code_List.f
  rw [if_pos ⟨h, by omega⟩]
theorem sha_at (l : List ByteArray) (h : l.length ≤ 1000) (hs : szs l ≤ 1000000000) : sum_Sha.f (listB l) = some (hB l) := by
  have := listB_size l
  unfold sum_Sha.f
  rw [if_pos (by omega)]; rfl
theorem h_at (l : List ByteArray) (h : l.length ≤ 1000) (hs : szs l ≤ 1000000000) : seal_h.f l = some (hB l) := by
  unfold seal_h.f
  rw [list_at l h hs, Option.bind_some, sha_at l h hs, Option.bind_some]
def tagB (key nonce data : ByteArray) : ByteArray := (hB [⟨#[116, 97, 103]⟩, key, nonce, data]).extract 0 16
theorem szs4 (a b c d : ByteArray) : szs [a, b, c, d] = a.size + (b.size + (c.size + (d.size + 0))) := rfl
theorem szs3 (a b c : ByteArray) : szs [a, b, c] = a.size + (b.size + (c.size + 0)) := rfl
theorem szs2 (a b : ByteArray) : szs [a, b] = a.size + (b.size + 0) := rfl
theorem tag_at (key nonce data : ByteArray) (h1 : key.size ≤ 100000) (h2 : nonce.size ≤ 100000) (h3 : data.size ≤ 100000) : seal_tag.f key nonce data = some (tagB key nonce data) := by
  have s5 : (ByteArray.mk #[116, 97, 103]).size = 3 := rfl
  unfold seal_tag.f
  rw [h_at _ (by simp) (by rw [szs4]; omega), Option.bind_some, if_pos (by decide), if_pos (by rw [hB_size]; decide)]; rfl
theorem mix_at (key nonce data : ByteArray) (h1 : key.size ≤ 100000) (h2 : nonce.size ≤ 100000) (h3 : data.size ≤ 100000) : seal_mix.f key nonce data = some (mixB key nonce data) := by
  unfold seal_mix.f
  rw [if_pos ⟨by omega, by omega, by omega⟩]
theorem bts_nums (l : List Nat) (h : ∀ n ∈ l, n < 256) : bts (strOfNums (l.map fun n : Nat => (n : Int))) = l := by
  simp only [bts, strOfNums, List.map_map]
  conv => rhs; rw [← List.map_id l]
  refine List.map_congr_left fun n hn => ?_
  have := h n hn
  simp only [Function.comp_apply, id, Int.toNat_natCast]
  rw [UInt8.toNat_ofNat']; omega
theorem strm_lt (key nonce : ByteArray) (j : Nat) : strm key nonce j < 256 := getD_lt _ _
theorem mixTo_lt (key nonce s : ByteArray) (k : Nat) : ∀ n ∈ mixTo key nonce s k, n < 256 := by
  intro n hn
  rw [mixTo, List.mem_map] at hn
  obtain ⟨j, _, rfl⟩ := hn
  exact Nat.xor_lt_two_pow (n := 8) (getD_lt s j) (strm_lt key nonce j)
theorem bts_mix (key nonce s : ByteArray) : bts (mixB key nonce s) = mixTo key nonce s s.size := bts_nums _ (mixTo_lt key nonce s s.size)
theorem mixB_size (key nonce s : ByteArray) : (mixB key nonce s).size = s.size := by rw [← bts_length, bts_mix, mixTo_length]
theorem seal_at (key nonce s : ByteArray) (h1 : key.size ≤ 100000) (h2 : nonce.size ≤ 100000) (h3 : s.size ≤ 100000) : seal_Seal.f key nonce s = some (nonce, mixB key nonce s, tagB key nonce (mixB key nonce s)) := by
  unfold seal_Seal.f
  rw [mix_at _ _ _ h1 h2 h3, Option.bind_some, tag_at _ _ _ h1 h2 (by rw [mixB_size]; exact h3), Option.bind_some]
theorem open_in (key n d t : ByteArray) (h1 : key.size ≤ 100000) (h2 : n.size ≤ 100000) (h3 : d.size ≤ 100000) (h : t = tagB key n d) : seal_Open.f key n d t = some (mixB key n d, true) := by
  unfold seal_Open.f
  rw [tag_at _ _ _ h1 h2 h3, Option.bind_some, if_pos (by rw [h]), mix_at _ _ _ h1 h2 h3, Option.bind_some]
theorem open_out (key n d t : ByteArray) (h1 : key.size ≤ 100000) (h2 : n.size ≤ 100000) (h3 : d.size ≤ 100000) (h : ¬ t = tagB key n d) : seal_Open.f key n d t = some (⟨#[]⟩, false) := by
  unfold seal_Open.f
  rw [tag_at _ _ _ h1 h2 h3, Option.bind_some, if_neg (fun e => h (bytes_inj e))]
theorem public_at (n : Int) : seal_isPublic.f n = some (decide (1 ≤ n ∧ n < 2305843009213693951)) := by
  unfold seal_isPublic.f
  by_cases h : n ≥ 1
  · rw [if_pos h]; congr 1; exact decide_eq_decide.2 ⟨fun h2 => ⟨h, h2⟩, fun h2 => h2.2⟩
  · rw [if_neg h]; congr 1; exact (decide_eq_false (fun h2 => h h2.1)).symm
def keyB (tt eph sh : Int) : ByteArray := hB [⟨#[119, 114, 97, 112]⟩, numB tt, numB eph, numB sh]
theorem wrapping_at (tt eph sh : Int) (a0 : 0 ≤ tt) (a1 : tt < 9223372036854775808) (b0 : 0 ≤ eph) (b1 : eph < 9223372036854775808) (c0 : 0 ≤ sh) (c1 : sh < 9223372036854775808) :
    seal_wrapping.f tt eph sh = some (keyB tt eph sh) := by
  have s5 : (ByteArray.mk #[119, 114, 97, 112]).size = 4 := rfl
  have n1 := numB_size tt
  have n2 := numB_size eph
  have n3 := numB_size sh
  unfold seal_wrapping.f
  rw [P.num_at _ a0 a1, Option.bind_some, P.num_at _ b0 b1, Option.bind_some, P.num_at _ c0 c1, Option.bind_some, h_at _ (by simp) (by rw [szs4]; omega), Option.bind_some]; rfl
def expE (pub : Int) (seed : ByteArray) : Int := 1 + (numN (bts (hB [⟨#[101, 112, 104]⟩, seed, numB pub])) : Int) % 2305843009213693949
theorem expE_range (pub : Int) (seed : ByteArray) : 1 ≤ expE pub seed ∧ expE pub seed < 2305843009213693950 := by unfold expE; omega
theorem pwb (a : Int) (e : Nat) : 0 ≤ pw a e ∧ pw a e < 2305843009213693951 := pw_bounds a e
theorem pw37_pos (e : Nat) : 1 ≤ pw 37 e := by
  have := pw_ne (a := 37) (by decide) e
  have := pw_bounds 37 e
  omega
theorem exp_in {k : Nat} (hk : 74 ≤ k) (a e : Int) (h0 : 0 ≤ e) (h1 : e < 9223372036854775808) : group_Exp.f k a e = some (pw a e.toNat) := by
  rw [exp_at hk a e h1]
  unfold ex; rw [if_neg (by omega)]
def ephE (pub : Int) (seed : ByteArray) : Int := pw 37 (expE pub seed).toNat
def wkey (pub : Int) (seed : ByteArray) : ByteArray := keyB pub (ephE pub seed) (pw pub (expE pub seed).toNat)
def wnonce (pub : Int) (seed : ByteArray) : ByteArray := hB [⟨#[110, 111, 110, 99, 101]⟩, wkey pub seed]
def wdata (pub : Int) (seed plain : ByteArray) : ByteArray := mixB (wkey pub seed) (wnonce pub seed) plain
def wtag (pub : Int) (seed plain : ByteArray) : ByteArray := tagB (wkey pub seed) (wnonce pub seed) (wdata pub seed plain)
theorem wkey_size (pub : Int) (seed : ByteArray) : (wkey pub seed).size = 32 := hB_size _
theorem wnonce_size (pub : Int) (seed : ByteArray) : (wnonce pub seed).size = 32 := hB_size _
theorem eph_list (pub : Int) (seed : ByteArray) (hs : seed.size ≤ 100000) : szs [⟨#[101, 112, 104]⟩, seed, numB pub] ≤ 1000000000 := by
  have s5 : (ByteArray.mk #[101, 112, 104]).size = 3 := rfl
  have n1 := numB_size pub
  rw [szs3]; omega
theorem e_w64 (n : Nat) : wrap64 (1 + Int.tmod (n : Int) 2305843009213693949) = 1 + (n : Int) % 2305843009213693949 := by
  rw [Int.tmod_eq_emod_of_nonneg (by omega), w64_in _ (by omega) (by omega)]
theorem wrap_in {k : Nat} (hk : 74 ≤ k) (pub : Int) (seed plain : ByteArray) (h1 : 1 ≤ pub) (h2 : pub < 2305843009213693951) (hs : seed.size ≤ 100000) (hp : plain.size ≤ 100000) :
    seal_Wrap.f k pub seed plain = some (pub, ephE pub seed, wnonce pub seed, wdata pub seed plain, wtag pub seed plain, true) := by
  have hr := expE_range pub seed
  have b1 := pwb 37 (expE pub seed).toNat
  have b2 := pwb pub (expE pub seed).toNat
  have s5 : (ByteArray.mk #[110, 111, 110, 99, 101]).size = 5 := rfl
  have hk1 : seal_wrapping.f pub (pw 37 (expE pub seed).toNat) (pw pub (expE pub seed).toNat) = some (wkey pub seed) := wrapping_at _ _ _ (by omega) (by omega) (by omega) (by omega) (by omega) (by omega)
  have hk2 := wkey_size pub seed
  have hk3 : seal_h.f [⟨#[110, 111, 110, 99, 101]⟩, wkey pub seed] = some (wnonce pub seed) := h_at _ (by simp) (by rw [szs2]; omega)
  have he : wrap64 (1 + Int.tmod ((numN (bts (hB [⟨#[101, 112, 104]⟩, seed, numB pub])) : Nat) : Int) 2305843009213693949) = expE pub seed := e_w64 _
  unfold seal_Wrap.f
  rw [public_at, decide_eq_true ⟨h1, h2⟩, Option.bind_some, if_pos rfl, P.num_at pub (by omega) (by omega), Option.bind_some, h_at _ (by simp) (eph_list pub seed hs), Option.bind_some, NumL.num_at _ _ (by omega), Option.bind_some, he,
    exp_in hk _ _ (by omega) (by omega), Option.bind_some, exp_in hk _ _ (by omega) (by omega), Option.bind_some, hk1, Option.bind_some, hk3, Option.bind_some, seal_at _ _ _ (by omega) (by rw [wnonce_size]; omega) hp, Option.bind_some]
  rfl
theorem wrap_out (k : Nat) (pub : Int) (seed plain : ByteArray) (h : ¬ (1 ≤ pub ∧ pub < 2305843009213693951)) : seal_Wrap.f k pub seed plain = some (0, 0, ⟨#[]⟩, ⟨#[]⟩, ⟨#[]⟩, false) := by
  unfold seal_Wrap.f
  rw [public_at, decide_eq_false h, Option.bind_some, if_neg (by decide)]
def Fits (x tt eph : Int) : Prop := 1 ≤ x ∧ x < 2305843009213693950 ∧ tt = pw 37 x.toNat ∧ 1 ≤ eph ∧ eph < 2305843009213693951
theorem j0_skip {k : Nat} (hk : 1 ≤ k) (x tt eph : Int) (n d t : ByteArray) : seal_Unwrap.j0 k x true tt eph n d t = some (⟨#[]⟩, false) := by
  obtain ⟨k, rfl⟩ : ∃ k', k = k' + 1 := ⟨k - 1, by omega⟩
  rw [seal_Unwrap.j0, if_pos rfl]
theorem unwrap_in {k : Nat} (hk : 80 ≤ k) (x tt eph : Int) (n d t : ByteArray) (h : Fits x tt eph) : seal_Unwrap.f k x tt eph n d t = seal_Open.f (keyB tt eph (pw eph x.toNat)) n d t := by
  obtain ⟨h1, h2, h3, h4, h5⟩ := h
  have b1 := pwb 37 x.toNat
  have b2 := pwb eph x.toNat
  have p1 := pw37_pos x.toNat
  obtain ⟨k, rfl⟩ : ∃ k', k = k' + 1 := ⟨k - 1, by omega⟩
  unfold seal_Unwrap.f
  rw [if_neg (by omega), if_neg (by omega), exp_in (by omega) _ _ (by omega) (by omega), Option.bind_some, if_pos h3, public_at, decide_eq_true ⟨h4, h5⟩, Option.bind_some, seal_Unwrap.j0, if_neg (by decide),
    exp_in (by omega) _ _ (by omega) (by omega), Option.bind_some, wrapping_at _ _ _ (by omega) (by omega) (by omega) (by omega) (by omega) (by omega), Option.bind_some]
  cases seal_Open.f (keyB tt eph (pw eph x.toNat)) n d t <;> rfl
theorem unwrap_out {k : Nat} (hk : 80 ≤ k) (x tt eph : Int) (n d t : ByteArray) (h : ¬ Fits x tt eph) : seal_Unwrap.f k x tt eph n d t = some (⟨#[]⟩, false) := by
  unfold seal_Unwrap.f
  by_cases h1 : x < 1
  · rw [if_pos h1]; exact j0_skip (by omega) ..
  rw [if_neg h1]
  by_cases h2 : x ≥ 2305843009213693950
  · rw [if_pos h2]; exact j0_skip (by omega) ..
  rw [if_neg h2, exp_in (by omega) _ _ (by omega) (by omega), Option.bind_some]
  by_cases h3 : tt = pw 37 x.toNat
  · rw [if_pos h3, public_at, decide_eq_false (fun h4 => h ⟨by omega, by omega, h3, h4.1, h4.2⟩), Option.bind_some]; exact j0_skip (by omega) ..
  · rw [if_neg h3]; exact j0_skip (by omega) ..
end Go.Proofs.Ytdmeclmniooedaa.Sl
end Sl_
section SlSmall_
namespace Go.Proofs.Ytdmeclmniooedaa.Sl
open Go.RowKit Go.Proofs.Ytdmeclmniooedaa.P Go.Proofs.YtdmeclmniooedaaW.PrintWords Go.Proofs.YtdmeclmniooedaaW.PrintLast
theorem small_ok : agoralaw06_small.f 200 = some true := by decide +kernel
theorem smallR (k : Nat) (hk : 200 ≤ k) : agoralaw06_small.f k = some true := at_rounds agoralaw06_small.mono hk small_ok
end Go.Proofs.Ytdmeclmniooedaa.Sl
end SlSmall_
section RefC_
namespace Go.Proofs.Ytdmeclmniooedaa.Grp
open Go.RowKit Go.Proofs.Ytdmeclmniooedaa.P
set_option linter.unusedVariables false
set_option linter.unusedSimpArgs false
theorem rmod_eq (a m : Int) (hm : 0 < m) (h2 : m ≤ 2305843009213693952) : agoraref04_Mod.f a m = some (a % m) := by
  unfold agoraref04_Mod.f
  rw [if_neg (by omega)]; exact tmod_fix a m hm h2
theorem and_mask31 (x : Int) (h0 : 0 ≤ x) (h : x < 18446744073709551616) : Go.bits .and .u64 x 2147483647 = x % 2147483648 := by
  rw [u64_and x 2147483647 h0 h (by omega) (by omega)]
  obtain ⟨n, rfl⟩ := Int.eq_ofNat_of_zero_le h0
  rw [Int.toNat_natCast, show (2147483647 : Int).toNat = 2 ^ 31 - 1 from rfl, Nat.and_two_pow_sub_one_eq_mod]
  omega
theorem and_mask30 (x : Int) (h0 : 0 ≤ x) (h : x < 18446744073709551616) : Go.bits .and .u64 x 1073741823 = x % 1073741824 := by
  rw [u64_and x 1073741823 h0 h (by omega) (by omega)]
  obtain ⟨n, rfl⟩ := Int.eq_ofNat_of_zero_le h0
  rw [Int.toNat_natCast, show (1073741823 : Int).toNat = 2 ^ 30 - 1 from rfl, Nat.and_two_pow_sub_one_eq_mod]
  omega
theorem parts_eq (a b : Int) (ha : 0 ≤ a) (ha' : a < 2305843009213693952) (hb : 0 ≤ b) (hb' : b < 2305843009213693952) :
    ∃ h m l, agoraref04_parts.f a b = some (h, m, l) ∧ a * b = h * 4611686018427387904 + m * 2147483648 + l ∧ 0 ≤ h ∧ h < 1152921504606846976 ∧ 0 ≤ m ∧ m < 4611686018427387904 ∧ 0 ≤ l ∧ l < 4611686018427387904 := by
  unfold agoraref04_parts.f
  rw [wu_in a ha (by omega), wu_in b hb (by omega), and_mask31 a ha (by omega), and_mask31 b hb (by omega)]
  have ea : a = a / 2147483648 * 2147483648 + a % 2147483648 := by omega
  have eb : b = b / 2147483648 * 2147483648 + b % 2147483648 := by omega
  have a1 : 0 ≤ a / 2147483648 := by omega
  have a1' : a / 2147483648 ≤ 1073741823 := by omega
  have b1 : 0 ≤ b / 2147483648 := by omega
  have b1' : b / 2147483648 ≤ 1073741823 := by omega
  have a0 : 0 ≤ a % 2147483648 := by omega
  have a0' : a % 2147483648 ≤ 2147483647 := by omega
  have b0 : 0 ≤ b % 2147483648 := by omega
  have b0' : b % 2147483648 ≤ 2147483647 := by omega
  generalize a / 2147483648 = x1 at *
  generalize b / 2147483648 = y1 at *
  generalize a % 2147483648 = x0 at *
  generalize b % 2147483648 = y0 at *
  have m (x y X Y : Int) (hx : 0 ≤ x) (hx' : x ≤ X) (hy : 0 ≤ y) (hy' : y ≤ Y) : 0 ≤ x * y ∧ x * y ≤ X * Y :=
    ⟨Int.mul_nonneg hx hy, Int.le_trans (Int.mul_le_mul_of_nonneg_right hx' hy) (Int.mul_le_mul_of_nonneg_left hy' (by omega))⟩
  have p11 := m x1 y1 _ _ a1 a1' b1 b1'
  have p10 := m x1 y0 _ _ a1 a1' b0 b0'
  have p01 := m x0 y1 _ _ a0 a0' b1 b1'
  have p00 := m x0 y0 _ _ a0 a0' b0 b0'
  have e : a * b = x1 * y1 * 4611686018427387904 + (x1 * y0 + x0 * y1) * 2147483648 + x0 * y0 := by
    rw [ea, eb]
    simp only [Int.add_mul, Int.mul_add]
    have t1 : x1 * 2147483648 * (y1 * 2147483648) = x1 * y1 * 4611686018427387904 := by
      rw [Int.mul_assoc, Int.mul_comm 2147483648 (y1 * _), Int.mul_assoc y1, ← Int.mul_assoc]; rfl
    have t2 : x1 * 2147483648 * y0 = x1 * y0 * 2147483648 := by rw [Int.mul_right_comm]
    have t3 : x0 * (y1 * 2147483648) = x0 * y1 * 2147483648 := by rw [Int.mul_assoc]
    rw [t1, t2, t3]; omega
  refine ⟨x1 * y1, x1 * y0 + x0 * y1, x0 * y0, ?_, e, ?_⟩
  · clear e ea eb
    generalize x1 * y1 = q11 at *
    generalize x1 * y0 = q10 at *
    generalize x0 * y1 = q01 at *
    generalize x0 * y0 = q00 at *
    rw [wu_in q11 (by omega) (by omega), wu_in q00 (by omega) (by omega), wu_in q10 (by omega) (by omega), wu_in q01 (by omega) (by omega), wu_in (q10 + q01) (by omega) (by omega)]
  · clear e ea eb
    generalize x1 * y1 = q11 at *
    generalize x1 * y0 = q10 at *
    generalize x0 * y1 = q01 at *
    generalize x0 * y0 = q00 at *
    omega
theorem rmul_eq (a b : Int) : agoraref04_Mul.f a b = some (a * b % 2305843009213693951) := by
  unfold agoraref04_Mul.f
  rw [rmod_eq a _ (by omega) (by omega), rmod_eq b _ (by omega) (by omega)]
  simp only [Option.bind_some]
  obtain ⟨h, m, l, e1, e2, h0, h1, m0, m1, l0, l1⟩ := parts_eq (a % 2305843009213693951) (b % 2305843009213693951) (by omega) (by omega) (by omega) (by omega)
  rw [e1]; simp only [Option.bind_some]
  rw [Int.mul_emod, e2]
  clear e1 e2
  rw [and_mask30 m m0 (by omega), wu_in (2 * h) (by omega) (by omega), wu_in (2 * h + m / 1073741824) (by omega) (by omega), wu_in (m % 1073741824 * 2147483648) (by omega) (by omega),
    wu_in (2 * h + m / 1073741824 + m % 1073741824 * 2147483648) (by omega) (by omega), wu_in _ (by omega) (by omega), Int.tmod_eq_emod_of_nonneg (by omega), w64_in _ (by omega) (by omega)]
  congr 1; omega
theorem rexp_l0 (d : Nat) : ∀ (k e : Nat) (x b : Int), e < 2 ^ d → e < 9223372036854775808 → 0 ≤ x → x < 2305843009213693951 →
    agoraref04_Exp.l0 (k + d + 1) e x b = some (x * b ^ e % 2305843009213693951) := by
  induction d with
  | zero =>
    intro k e x b he _ hx0 hx
    obtain rfl : e = 0 := by simpa using he
    rw [agoraref04_Exp.l0, if_neg (by omega), Int.pow_zero, Int.mul_one, Int.emod_eq_of_lt hx0 hx]
  | succ d ih =>
    intro k e x b he he2 hx0 hx
    rw [agoraref04_Exp.l0]
    by_cases h0 : e = 0
    · subst h0
      rw [if_neg (by omega), Int.pow_zero, Int.mul_one, Int.emod_eq_of_lt hx0 hx]
    · have hh : e / 2 < 2 ^ d := by rw [Nat.pow_succ] at he; omega
      have hd : wrap64 (Int.tdiv (e : Int) 2) = ((e / 2 : Nat) : Int) := by
        rw [Int.tdiv_eq_ediv_of_nonneg (by omega), w64_in _ (by omega) (by omega)]; omega
      have hs : ∀ y : Int, y * (b * b % 2305843009213693951) ^ (e / 2) % 2305843009213693951 = y * b ^ (2 * (e / 2)) % 2305843009213693951 := by
        intro y
        have h1 := pw_mod (b * b) (e / 2)
        unfold pw at h1
        rw [Int.mul_emod, h1, ← Int.mul_emod, Int.pow_mul]; congr 2
        rw [Int.pow_succ, Int.pow_succ, Int.pow_zero, Int.one_mul]
      rw [if_pos (by omega), hd, Int.tmod_eq_emod_of_nonneg (by omega), show k + (d + 1) = (k + d + 1) from rfl]
      by_cases h1 : e % 2 = 1
      · rw [if_pos (by omega), rmul_eq, Option.bind_some, rmul_eq, Option.bind_some, ih k (e / 2) _ _ hh (by omega) (by omega) (by omega), hs]
        rw [Int.mul_emod, Int.emod_emod, ← Int.mul_emod]
        have : x * b * b ^ (2 * (e / 2)) = x * b ^ e := by
          conv => rhs; rw [show e = 2 * (e / 2) + 1 by omega, Int.pow_succ]
          rw [Int.mul_assoc, Int.mul_comm b]
        rw [this]
      · rw [if_neg (by omega), rmul_eq, Option.bind_some, ih k (e / 2) _ _ hh (by omega) hx0 hx, hs, show 2 * (e / 2) = e by omega]
theorem rexp_nat {k : Nat} (hk : 66 ≤ k) (a : Int) (n : Nat) (hn : n < 9223372036854775808) : agoraref04_Exp.j0 k a n = some (pw a n) := by
  obtain ⟨j, rfl⟩ : ∃ j, k = (j + 63 + 1) + 1 := ⟨k - 65, by omega⟩
  rw [agoraref04_Exp.j0, rmod_eq a _ (by omega) (by omega), Option.bind_some, rexp_l0 63 j n 1 _ hn hn (by omega) (by omega), Int.one_mul]
  exact congrArg some (pw_mod a n)
theorem rexp_at {k : Nat} (hk : 74 ≤ k) (a e : Int) (he : e < 9223372036854775808) : agoraref04_Exp.f k a e = some (pw a (ex e)) := by
  unfold agoraref04_Exp.f ex
  by_cases h : e < 0
  · rw [if_pos h, if_pos h, rmod_eq e _ (by omega) (by omega), Option.bind_some]
    have := rexp_nat (show 66 ≤ k by omega) a (e % 2305843009213693950).toNat (by omega)
    rw [Int.toNat_of_nonneg (by omega)] at this
    exact this
  · rw [if_neg h, if_neg h]
    have := rexp_nat (show 66 ≤ k by omega) a e.toNat (by omega)
    rw [Int.toNat_of_nonneg (by omega)] at this
    exact this
end Go.Proofs.Ytdmeclmniooedaa.Grp
end RefC_
section SlRef_
namespace Go.Proofs.Ytdmeclmniooedaa.Sl
open Go.RowKit Go.Proofs.Ytdmeclmniooedaa.P Go.Proofs.Ytdmeclmniooedaa.ShaL Go.Proofs.Ytdmeclmniooedaa.Grp Go.Proofs.Ytdmeclmniooedaa.NumL Go.Proofs.Ytdmeclmniooedaa.Rng Go.Proofs.YtdmeclmniooedaaW.PrintWords Go.Proofs.YtdmeclmniooedaaW.PrintLast
set_option linter.unusedVariables false
theorem strOf_cons (a : Int) (l : List Int) : strOfNums [a] ++ strOfNums l = strOfNums (a :: l) := by
  apply ByteArray.ext
  simp [strOfNums, ByteArray.data_append]
theorem refnum_nat (j : Nat) : ∀ (k n : Nat), n < 128 ^ (j + 1) → (n : Int) < 9223372036854775808 → j + 1 ≤ k → j ≤ 9 → agoraref02_Num.f k (n : Int) = some (strOfNums ((numF j n).map fun n : Nat => (n : Int))) := by
  induction j with
  | zero =>
    intro k n hn h2 hk _
    obtain ⟨k, rfl⟩ : ∃ k', k = k' + 1 := ⟨k - 1, by omega⟩
    rw [agoraref02_Num.f, if_neg (by omega), if_pos (by omega), numF]
    simp
  | succ j ih =>
    intro k n hn h2 hk hj
    obtain ⟨k, rfl⟩ : ∃ k', k = k' + 1 := ⟨k - 1, by omega⟩
    have hd : n / 128 < 128 ^ (j + 1) := (Nat.div_lt_iff_lt_mul (by decide)).2 (by rw [← Nat.pow_succ]; exact hn)
    clear hn
    by_cases h : n < 128
    · rw [agoraref02_Num.f, if_neg (by omega), if_pos (by omega), numF, if_pos h]
      congr 1
      simp only [List.map_cons, List.map_nil]
      congr 2
      omega
    · have w1 : (wrap64 (128 + (Int.tmod (n : Int) 128))) % 256 = ((n % 128 + 128 : Nat) : Int) := by
        rw [Int.tmod_eq_emod_of_nonneg (by omega), wrap64]; omega
      have w2 : wrap64 (Int.tdiv (n : Int) 128) = ((n / 128 : Nat) : Int) := by
        rw [Int.tdiv_eq_ediv_of_nonneg (by omega), wrap64]; omega
      have := numF_length j (n / 128)
      rw [agoraref02_Num.f, if_neg (by omega), if_neg (by omega), w1, w2, Option.bind_some, ih k (n / 128) hd (by omega) (by omega) (by omega), Option.bind_some, if_pos (by rw [sz_of, sz_of, List.length_map]; simp only [List.length_cons, List.length_nil]; omega), strOf_cons, numF, if_neg h]
      rfl
theorem rnum_at {k : Nat} (hk : 10 ≤ k) (n : Int) (h0 : 0 ≤ n) (h : n < 9223372036854775808) : agoraref02_Num.f k n = some (numB n) := by
  have := refnum_nat 9 k n.toNat (Nat.lt_of_lt_of_le (show n.toNat < 9223372036854775808 by omega) (by decide)) (by omega) (by omega) (by omega)
  rw [Int.toNat_of_nonneg h0] at this
  exact this
theorem rtext_at {k : Nat} (hk : 10 ≤ k) (s : ByteArray) (h : s.size ≤ 1000000000) : agoraref02_Text.f k s = some (textB s) := by
  have := numB_size (s.size : Int)
  unfold agoraref02_Text.f
  rw [rnum_at hk _ (by omega) (by omega), Option.bind_some, if_pos (by omega)]; rfl
def listK (n : Nat) (l : List ByteArray) : ByteArray := ⟨((numB (n : Int)).data.toList ++ listTo l).toArray⟩
theorem listK_size (n : Nat) (l : List ByteArray) : (listK n l).size ≤ 10 + 10 * l.length + szs l := by
  have h1 := listTo_length l
  have h2 := numB_size (n : Int)
  have h3 : (numB (n : Int)).data.toList.length = (numB (n : Int)).size := by rw [Array.length_toList]; rfl
  have h4 : (listK n l).size = (numB (n : Int)).data.toList.length + (listTo l).length := by
    simp only [listK, ByteArray.size, List.size_toArray, List.length_append]
  omega
theorem listK_app (n : Nat) (l : List ByteArray) (j : Nat) (x : ByteArray) (h : l[j]? = some x) : listK n (l.take j) ++ textB x = listK n (l.take (j + 1)) := by
  apply ByteArray.ext
  rw [ByteArray.data_append]
  apply Array.toList_inj.1
  rw [Array.toList_append]
  show ((numB (n : Int)).data.toList ++ listTo (l.take j)) ++ (textB x).data.toList = (numB (n : Int)).data.toList ++ listTo (l.take (j + 1))
  rw [listTo_take l j x h, List.append_assoc]
theorem rlist_l0 (l : List ByteArray) (hl : l.length ≤ 1000) (hs : szs l ≤ 1000000000) (m : Nat) : ∀ (k i : Nat), i + m = l.length → m + 11 ≤ k →
    agoraref02_List.l0 k l (listK l.length (l.take i)) (i : Int) = some (listB l) := by
  induction m with
  | zero =>
    intro k i hi hk
    obtain ⟨k, rfl⟩ : ∃ k', k = k' + 1 := ⟨k - 1, by omega⟩
    rw [agoraref02_List.l0, if_neg (by omega), List.take_of_length_le (by omega)]; rfl
  | succ m ih =>
    intro k i hi hk
    obtain ⟨k, rfl⟩ : ∃ k', k = k' + 1 := ⟨k - 1, by omega⟩
    have hg : l[i]? = some (l[i]'(by omega)) := List.getElem?_eq_getElem (by omega)
    have hr : rdOf ByteArray.empty l (i : Int) = l[i]'(by omega) := by
      rw [rdOf, Int.toNat_natCast, List.getD_eq_getElem?_getD, hg]; rfl
    have hx := szs_get l i _ hg
    have h1 := listK_size l.length (l.take i)
    have h2 := szs_take l i
    have h3 : (l.take i).length ≤ 1000 := by rw [List.length_take]; omega
    have h4 := textB_size (l[i]'(by omega))
    rw [agoraref02_List.l0, if_pos (by omega), if_pos (by omega), hr, rtext_at (by omega) _ (by omega), Option.bind_some, if_pos (by omega), listK_app _ _ _ _ hg, w64_in ((i : Int) + 1) (by omega) (by omega),
      show (i : Int) + 1 = ((i + 1 : Nat) : Int) by omega]
    exact ih k (i + 1) (by omega) (by omega)
theorem rlist_at {k : Nat} (l : List ByteArray) (hl : l.length ≤ 1000) (hk : l.length + 12 ≤ k) (hs : szs l ≤ 1000000000) : agoraref02_List.f k l = some (listB l) := by
  unfold agoraref02_List.f
  rw [rnum_at (by omega) _ (by omega) (by omega), Option.bind_some]
  have h0 : numB (l.length : Int) = listK l.length (l.take 0) := by
    apply ByteArray.ext
    simp [listK, listTo]
  rw [h0]
  exact rlist_l0 l hl hs l.length k 0 (by omega) (by omega)
theorem rh_at {k : Nat} (l : List ByteArray) (hl : l.length ≤ 1000) (hk : l.length + 12 ≤ k) (hs : szs l ≤ 1000000000) : agoraref06_H.f k l = some (hB l) := by
  have := listB_size l
  unfold agoraref06_H.f
  rw [rlist_at l hl hk hs, Option.bind_some, agoraref03_Sha.f, if_pos (by omega), Option.bind_some]; rfl
theorem rtag_at {k : Nat} (hk : 20 ≤ k) (key nonce data : ByteArray) (h1 : key.size ≤ 100000) (h2 : nonce.size ≤ 100000) (h3 : data.size ≤ 100000) : agoraref06_tag.f k key nonce data = some (tagB key nonce data) := by
  have s5 : (ByteArray.mk #[116, 97, 103]).size = 3 := rfl
  unfold agoraref06_tag.f
  rw [rh_at _ (by simp) (by simp; omega) (by rw [szs4]; omega), Option.bind_some, if_pos (by decide), if_pos (by rw [hB_size]; decide)]; rfl
theorem u8_xor_at (a b : Nat) (ha : a < 256) (hb : b < 256) : Go.bits .xor .u8 (a : Int) (b : Int) = ((a ^^^ b : Nat) : Int) := u8_xor_nat a b ha hb
theorem strm_at (key nonce : ByteArray) (i : Nat) : bt (blockB key nonce (i / 32)) ((i % 32 : Nat) : Int) = ((strm key nonce i : Nat) : Int) := by
  have hz : (blockB key nonce (i / 32)).size = 32 := shaB_size _
  rw [bt_nat _ _ (by omega)]; rfl
theorem block_at {k : Nat} (hk : 20 ≤ k) (key nonce : ByteArray) (n : Nat) (h1 : key.size ≤ 100000) (h2 : nonce.size ≤ 100000) : agoraref06_H.f k [⟨#[115, 116, 114, 101, 97, 109]⟩, key, nonce, numB (n : Int)] = some (blockB key nonce n) := by
  have s5 : (ByteArray.mk #[115, 116, 114, 101, 97, 109]).size = 6 := rfl
  have s6 := numB_size (n : Int)
  rw [rh_at _ (by simp) (by simp; omega) (by rw [szs4]; omega)]; rfl
def blk (key nonce : ByteArray) (i : Nat) (b : ByteArray) : Prop := i % 32 ≠ 0 → b = blockB key nonce (i / 32)
theorem tmod32 (i : Nat) : Int.tmod (i : Int) 32 = ((i % 32 : Nat) : Int) := by rw [Int.tmod_eq_emod_of_nonneg (by omega)]; omega
theorem tdiv32 (i : Nat) (h : i ≤ 100000) : wrap64 (Int.tdiv (i : Int) 32) = ((i / 32 : Nat) : Int) := by rw [Int.tdiv_eq_ediv_of_nonneg (by omega), wrap64]; omega
theorem w_succ (i : Nat) (h : i ≤ 100000) : wrap64 ((i : Int) + 1) = ((i + 1 : Nat) : Int) := by rw [wrap64]; omega
theorem rmix_l0 (key nonce s : ByteArray) (h1 : key.size ≤ 100000) (h2 : nonce.size ≤ 100000) (h3 : s.size ≤ 100000) (m : Nat) : ∀ (k i : Nat) (b : ByteArray), i + m = s.size → m + 21 ≤ k → blk key nonce i b →
    agoraref06_mix.l0 k key nonce s ((mixTo key nonce s i).map fun n : Nat => (n : Int)) b (i : Int) = some (mixB key nonce s) := by
  induction m with
  | zero =>
    intro k i b hi hk hb
    obtain ⟨k, rfl⟩ : ∃ k', k = k' + 1 := ⟨k - 1, by omega⟩
    obtain rfl : i = s.size := by omega
    rw [agoraref06_mix.l0, if_neg (by omega)]; rfl
  | succ m ih =>
    intro k i b hi hk hb
    obtain ⟨k, rfl⟩ : ∃ k', k = k' + 1 := ⟨k - 1, by omega⟩
    have hlen : ((mixTo key nonce s i).map fun n : Nat => (n : Int)).length = i := by rw [List.length_map, mixTo_length]
    obtain ⟨B, q, hB, hz, hone, happ⟩ : ∃ (B : ByteArray) (q : Nat), blockB key nonce (i / 32) = B ∧ B.size = 32 ∧ Go.bits .xor .u8 (bt s (i : Int)) (bt B ((i % 32 : Nat) : Int)) = (q : Int) ∧
        ((mixTo key nonce s i).map fun n : Nat => (n : Int)) ++ [(q : Int)] = (mixTo key nonce s (i + 1)).map fun n : Nat => (n : Int) := by
      refine ⟨_, (bts s).getD i 0 ^^^ strm key nonce i, rfl, shaB_size _, ?_, ?_⟩
      · rw [bt_nat s i (by omega), strm_at, u8_xor_at _ _ (getD_lt s i) (strm_lt key nonce i)]
      · rw [mixTo_succ, List.map_append]; rfl
    have hnext : blk key nonce (i + 1) B := by
      intro hne
      rw [show (i + 1) / 32 = i / 32 by omega]; exact hB.symm
    rw [agoraref06_mix.l0, if_pos (by omega), tmod32]
    by_cases h0 : i % 32 = 0
    · rw [if_pos (by omega), tdiv32 i (by omega), rnum_at (by omega) _ (by omega) (by omega), Option.bind_some, block_at (by omega) key nonce _ h1 h2, hB, Option.bind_some, if_pos (by omega), if_pos (by omega), if_pos (by omega), if_pos (by omega), hone, happ, w_succ i (by omega)]
      exact ih k (i + 1) _ (by omega) (by omega) hnext
    · rw [if_neg (by omega), hb h0, hB, if_pos (by omega), if_pos (by omega), if_pos (by omega), if_pos (by omega), hone, happ, w_succ i (by omega)]
      exact ih k (i + 1) _ (by omega) (by omega) hnext
theorem rmix_at {k : Nat} (key nonce s : ByteArray) (hk : s.size + 21 ≤ k) (h1 : key.size ≤ 100000) (h2 : nonce.size ≤ 100000) (h3 : s.size ≤ 100000) : agoraref06_mix.f k key nonce s = some (mixB key nonce s) :=
  rmix_l0 key nonce s h1 h2 h3 s.size k 0 _ (by omega) (by omega) (fun h => absurd rfl h)
theorem rseal_at {k : Nat} (key nonce s : ByteArray) (hk : s.size + 21 ≤ k) (h1 : key.size ≤ 100000) (h2 : nonce.size ≤ 100000) (h3 : s.size ≤ 100000) : agoraref06_Seal.f k key nonce s = some (nonce, mixB key nonce s, tagB key nonce (mixB key nonce s)) := by
  unfold agoraref06_Seal.f
  rw [rmix_at _ _ _ hk h1 h2 h3, Option.bind_some, rtag_at (by omega) _ _ _ h1 h2 (by rw [mixB_size]; exact h3), Option.bind_some]
theorem ropen_eq {k : Nat} (key n d t : ByteArray) (hk : d.size + 21 ≤ k) (h1 : key.size ≤ 100000) (h2 : n.size ≤ 100000) (h3 : d.size ≤ 100000) : agoraref06_Open.f k key n d t = seal_Open.f key n d t := by
  unfold agoraref06_Open.f seal_Open.f
  rw [rtag_at (by omega) _ _ _ h1 h2 h3, Option.bind_some, tag_at _ _ _ h1 h2 h3, Option.bind_some, rmix_at _ _ _ hk h1 h2 h3, mix_at _ _ _ h1 h2 h3]
theorem rexp_in {k : Nat} (hk : 74 ≤ k) (a e : Int) (h0 : 0 ≤ e) (h1 : e < 9223372036854775808) : agoraref04_Exp.f k a e = some (pw a e.toNat) := by
  rw [rexp_at hk a e h1]
  unfold ex; rw [if_neg (by omega)]
theorem rwrapping_at {k : Nat} (hk : 20 ≤ k) (tt eph sh : Int) (a0 : 0 ≤ tt) (a1 : tt < 9223372036854775808) (b0 : 0 ≤ eph) (b1 : eph < 9223372036854775808) (c0 : 0 ≤ sh) (c1 : sh < 9223372036854775808) :
    agoraref06_wrapping.f k tt eph sh = some (keyB tt eph sh) := by
  have s5 : (ByteArray.mk #[119, 114, 97, 112]).size = 4 := rfl
  have n1 := numB_size tt
  have n2 := numB_size eph
  have n3 := numB_size sh
  unfold agoraref06_wrapping.f
  rw [rnum_at (by omega) _ a0 a1, Option.bind_some, rnum_at (by omega) _ b0 b1, Option.bind_some, rnum_at (by omega) _ c0 c1, Option.bind_some, rh_at _ (by simp) (by simp; omega) (by rw [szs4]; omega), Option.bind_some]; rfl
theorem rwrap_in {k : Nat} (pub : Int) (seed plain : ByteArray) (hk : plain.size + 80 ≤ k) (h1 : 1 ≤ pub) (h2 : pub < 2305843009213693951) (hs : seed.size ≤ 100000) (hp : plain.size ≤ 100000) :
    agoraref06_Wrap.f k pub seed plain = some (pub, ephE pub seed, wnonce pub seed, wdata pub seed plain, wtag pub seed plain, true) := by
  have hr := expE_range pub seed
  have b1 := pwb 37 (expE pub seed).toNat
  have b2 := pwb pub (expE pub seed).toNat
  have s5 : (ByteArray.mk #[110, 111, 110, 99, 101]).size = 5 := rfl
  obtain ⟨k, rfl⟩ : ∃ k', k = k' + 1 := ⟨k - 1, by omega⟩
  have hk1 : agoraref06_wrapping.f k pub (pw 37 (expE pub seed).toNat) (pw pub (expE pub seed).toNat) = some (wkey pub seed) := rwrapping_at (by omega) _ _ _ (by omega) (by omega) (by omega) (by omega) (by omega) (by omega)
  have hk2 := wkey_size pub seed
  have hk3 : agoraref06_H.f k [⟨#[110, 111, 110, 99, 101]⟩, wkey pub seed] = some (wnonce pub seed) := rh_at _ (by simp) (by simp; omega) (by rw [szs2]; omega)
  have he : wrap64 (1 + Int.tmod ((numN (bts (hB [⟨#[101, 112, 104]⟩, seed, numB pub])) : Nat) : Int) 2305843009213693949) = expE pub seed := e_w64 _
  unfold agoraref06_Wrap.f
  rw [if_neg (by omega), decide_eq_false (by omega), agoraref06_Wrap.j0, if_neg (by decide), rnum_at (by omega) pub (by omega) (by omega), Option.bind_some, rh_at _ (by simp) (by simp; omega) (eph_list pub seed hs), Option.bind_some, NumL.refnum_at _ _ (by omega), Option.bind_some, he,
    rexp_in (by omega) _ _ (by omega) (by omega), Option.bind_some, rexp_in (by omega) _ _ (by omega) (by omega), Option.bind_some, hk1, Option.bind_some, hk3, Option.bind_some, rseal_at _ _ _ (by omega) (by omega) (by rw [wnonce_size]; omega) hp, Option.bind_some]
  rfl
theorem rwrap_out {k : Nat} (hk : 1 ≤ k) (pub : Int) (seed plain : ByteArray) (h : ¬ (1 ≤ pub ∧ pub < 2305843009213693951)) : agoraref06_Wrap.f k pub seed plain = some (0, 0, ⟨#[]⟩, ⟨#[]⟩, ⟨#[]⟩, false) := by
  obtain ⟨k, rfl⟩ : ∃ k', k = k' + 1 := ⟨k - 1, by omega⟩
  unfold agoraref06_Wrap.f
  by_cases h1 : pub < 1
  · rw [if_pos h1, agoraref06_Wrap.j0, if_pos rfl]
  · rw [if_neg h1, decide_eq_true (by omega), agoraref06_Wrap.j0, if_pos rfl]
theorem runwrap_in {k : Nat} (x tt eph : Int) (n d t : ByteArray) (hk : d.size + 80 ≤ k) (h2 : n.size ≤ 100000) (h3 : d.size ≤ 100000) (h : Fits x tt eph) : agoraref06_Unwrap.f k x tt eph n d t = seal_Open.f (keyB tt eph (pw eph x.toNat)) n d t := by
  obtain ⟨h1, h2', h3', h4, h5⟩ := h
  have b1 := pwb 37 x.toNat
  have b2 := pwb eph x.toNat
  have p1 := pw37_pos x.toNat
  have hks : (keyB tt eph (pw eph x.toNat)).size = 32 := hB_size _
  obtain ⟨k, rfl⟩ : ∃ k', k = k' + 1 := ⟨k - 1, by omega⟩
  unfold agoraref06_Unwrap.f
  rw [if_neg (by omega), if_neg (by omega), if_neg (by omega), decide_eq_false (by omega), agoraref06_Unwrap.j0, if_neg (by decide), rexp_in (by omega) _ _ (by omega) (by omega), Option.bind_some, if_pos h3',
    rexp_in (by omega) _ _ (by omega) (by omega), Option.bind_some, rwrapping_at (by omega) _ _ _ (by omega) (by omega) (by omega) (by omega) (by omega) (by omega), Option.bind_some, ropen_eq _ _ _ _ (by omega) (by omega) h2 h3]
  cases seal_Open.f (keyB tt eph (pw eph x.toNat)) n d t <;> rfl
theorem rj0_skip {k : Nat} (hk : 1 ≤ k) (x tt eph : Int) (n d t : ByteArray) : agoraref06_Unwrap.j0 k x true tt eph n d t = some (⟨#[]⟩, false) := by
  obtain ⟨k, rfl⟩ : ∃ k', k = k' + 1 := ⟨k - 1, by omega⟩
  rw [agoraref06_Unwrap.j0, if_pos rfl]
theorem runwrap_out {k : Nat} (hk : 80 ≤ k) (x tt eph : Int) (n d t : ByteArray) (h : ¬ Fits x tt eph) : agoraref06_Unwrap.f k x tt eph n d t = some (⟨#[]⟩, false) := by
  unfold agoraref06_Unwrap.f
  by_cases h1 : x < 1
  · rw [if_pos h1]; exact rj0_skip (by omega) ..
  rw [if_neg h1]
  by_cases h2 : x ≥ 2305843009213693950
  · rw [if_pos h2]; exact rj0_skip (by omega) ..
  rw [if_neg h2]
  by_cases h4 : eph < 1
  · rw [if_pos h4]; exact rj0_skip (by omega) ..
  rw [if_neg h4]
  by_cases h5 : eph ≥ 2305843009213693951
  · rw [decide_eq_true h5]; exact rj0_skip (by omega) ..
  obtain ⟨k, rfl⟩ : ∃ k', k = k' + 1 := ⟨k - 1, by omega⟩
  rw [decide_eq_false h5, agoraref06_Unwrap.j0, if_neg (by decide), rexp_in (by omega) _ _ (by omega) (by omega), Option.bind_some, if_neg (fun h3 => h ⟨by omega, by omega, h3, by omega, by omega⟩)]
end Go.Proofs.Ytdmeclmniooedaa.Sl
end SlRef_
