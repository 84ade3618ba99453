/- Texts of this claim, merged: what the functions that the law reaches compute, and what that says. -/
import Derived.Test.YtdmeclmniooedaaKA19
import Derived.Test.YtdmeclmniooedaaKA20
import Derived.Test.YtdmeclmniooedaaKA21
import Derived.Test.YtdmeclmniooedaaKA23
section Sl_
namespace Go.Proofs.Ytdmeclmniooedaa.Sl
open Go.RowKit Go.Proofs.Ytdmeclmniooedaa.P Go.Proofs.Ytdmeclmniooedaa.ShaL Go.Proofs.Ytdmeclmniooedaa.Grp Go.Proofs.Ytdmeclmniooedaa.NumL Go.Proofs.Ytdmeclmniooedaa.Rng Go.Proofs.YtdmeclmniooedaaW.PrintWords Go.Proofs.YtdmeclmniooedaaW.PrintLast
set_option linter.unusedVariables false
theorem few_l0 (l : List ByteArray) (hl : l.length ≤ 1000) (h : szs l < 9223372036854775808) (m : Nat) : ∀ (k i : Nat), i + m = l.length → m + 1 ≤ k →
    agoralaw06_few.l0 k l ((szs (l.take i) : Nat) : Int) (i : Int) = some (decide ((szs l : Int) ≤ 2000)) := by
  induction m with
  | zero =>
    intro k i hi hk
    obtain ⟨k, rfl⟩ : ∃ k', k = k' + 1 := ⟨k - 1, by omega⟩
    rw [agoralaw06_few.l0, if_neg (by omega), List.take_of_length_le (by omega)]
  | succ m ih =>
    intro k i hi hk
    obtain ⟨k, rfl⟩ : ∃ k', k = k' + 1 := ⟨k - 1, by omega⟩
    have hg : l[i]? = some (l[i]'(by omega)) := List.getElem?_eq_getElem (by omega)
    have e : szs (l.take (i + 1)) = szs (l.take i) + (rdOf ByteArray.empty l (i : Int)).size := by
      rw [List.take_add_one, hg, rdOf, Int.toNat_natCast, List.getD_eq_getElem?_getD, hg]
      simp only [szs, List.map_append, List.sum_append, Option.toList_some, List.map_cons, List.map_nil, List.sum_cons, List.sum_nil, Nat.add_zero, Option.getD_some]
    have hle := szs_take l (i + 1)
    rw [agoralaw06_few.l0, if_pos (by omega), if_pos (by omega), w64_in _ (by omega) (by omega), w64_in ((i : Int) + 1) (by omega) (by omega),
      show ((szs (l.take i) : Nat) : Int) + ((rdOf ByteArray.empty l (i : Int)).size : Int) = ((szs (l.take (i + 1)) : Nat) : Int) by omega, show (i : Int) + 1 = ((i + 1 : Nat) : Int) by omega]
    exact ih k (i + 1) (by omega) (by omega)
theorem few_at {k : Nat} (l : List ByteArray) (hl : l.length ≤ 50) (hk : 60 ≤ k) (h : szs l < 9223372036854775808) : agoralaw06_few.f k l = some (decide ((szs l : Int) ≤ 2000)) :=
  few_l0 l (by omega) h l.length k 0 (by omega) (by omega)
/-- the digest of a list -/
def hB (l : List ByteArray) : ByteArray := Sch.shaB (listB l)
theorem hB_size (l : List ByteArray) : (hB l).size = 32 := shaB_size _
theorem list_at (l : List ByteArray) (h : l.length ≤ 1000) (hs : szs l ≤ 1000000000) : code_List.f l = some (listB l) := by
  unfold code_List.f
  rw [if_pos ⟨h, by omega⟩]
theorem sha_at (l : List ByteArray) (h : l.length ≤ 1000) (hs : szs l ≤ 1000000000) : sum_Sha.f (listB l) = some (hB l) := by
  have := listB_size l
  unfold sum_Sha.f
  rw [if_pos (by omega)]; rfl
theorem h_at (l : List ByteArray) (h : l.length ≤ 1000) (hs : szs l ≤ 1000000000) : seal_h.f l = some (hB l) := by
  unfold seal_h.f
  rw [list_at l h hs, Option.bind_some, sha_at l h hs, Option.bind_some]
/-- the tag of data -/
def tagB (key nonce data : ByteArray) : ByteArray := (hB [⟨#[116, 97, 103]⟩, key, nonce, data]).extract 0 16
theorem szs4 (a b c d : ByteArray) : szs [a, b, c, d] = a.size + (b.size + (c.size + (d.size + 0))) := rfl
theorem szs3 (a b c : ByteArray) : szs [a, b, c] = a.size + (b.size + (c.size + 0)) := rfl
theorem szs2 (a b : ByteArray) : szs [a, b] = a.size + (b.size + 0) := rfl
theorem tag_at (key nonce data : ByteArray) (h1 : key.size ≤ 100000) (h2 : nonce.size ≤ 100000) (h3 : data.size ≤ 100000) : seal_tag.f key nonce data = some (tagB key nonce data) := by
  have s5 : (ByteArray.mk #[116, 97, 103]).size = 3 := rfl
  unfold seal_tag.f
  rw [h_at _ (by simp) (by rw [szs4]; omega), Option.bind_some, if_pos (by decide), if_pos (by rw [hB_size]; decide)]; rfl
theorem mix_at (key nonce data : ByteArray) (h1 : key.size ≤ 100000) (h2 : nonce.size ≤ 100000) (h3 : data.size ≤ 100000) : seal_mix.f key nonce data = some (mixB key nonce data) := by
  unfold seal_mix.f
  rw [if_pos ⟨by omega, by omega, by omega⟩]
theorem bts_nums (l : List Nat) (h : ∀ n ∈ l, n < 256) : bts (strOfNums (l.map fun n : Nat => (n : Int))) = l := by
  simp only [bts, strOfNums, List.map_map]
  conv => rhs; rw [← List.map_id l]
  refine List.map_congr_left fun n hn => ?_
  have := h n hn
  simp only [Function.comp_apply, id, Int.toNat_natCast]
  rw [UInt8.toNat_ofNat']; omega
theorem map_inj : ∀ a b : List UInt8, a.map UInt8.toNat = b.map UInt8.toNat → a = b
  | [], [], _ => rfl
  | [], _ :: _, h => by simp at h
  | _ :: _, [], h => by simp at h
  | x :: a, y :: b, h => by
    rw [List.map_cons, List.map_cons, List.cons.injEq] at h
    rw [UInt8.toNat_inj.1 h.1, map_inj a b h.2]
theorem bts_inj {a b : ByteArray} (h : bts a = bts b) : a = b := by
  apply ByteArray.ext
  apply Array.toList_inj.1
  exact map_inj _ _ h
theorem strm_lt (key nonce : ByteArray) (j : Nat) : strm key nonce j < 256 := getD_lt _ _
theorem mixTo_lt (key nonce s : ByteArray) (k : Nat) : ∀ n ∈ mixTo key nonce s k, n < 256 := by
  intro n hn
  rw [mixTo, List.mem_map] at hn
  obtain ⟨j, _, rfl⟩ := hn
  exact Nat.xor_lt_two_pow (n := 8) (getD_lt s j) (strm_lt key nonce j)
theorem bts_mix (key nonce s : ByteArray) : bts (mixB key nonce s) = mixTo key nonce s s.size := bts_nums _ (mixTo_lt key nonce s s.size)
theorem mixB_size (key nonce s : ByteArray) : (mixB key nonce s).size = s.size := by rw [← bts_length, bts_mix, mixTo_length]
theorem mixTo_get (key nonce s : ByteArray) (k j : Nat) (h : j < k) : (mixTo key nonce s k).getD j 0 = (bts s).getD j 0 ^^^ strm key nonce j := by
  rw [List.getD_eq_getElem?_getD, mixTo, List.getElem?_map, List.getElem?_range h]; rfl
theorem mix_get (key nonce s : ByteArray) (j : Nat) (h : j < s.size) : (bts (mixB key nonce s)).getD j 0 = (bts s).getD j 0 ^^^ strm key nonce j := by
  rw [bts_mix, mixTo_get _ _ _ _ _ h]
theorem bts_ext {a b : ByteArray} (hs : a.size = b.size) (h : ∀ j, j < b.size → (bts a).getD j 0 = (bts b).getD j 0) : a = b := by
  apply bts_inj
  apply List.ext_getElem?
  intro j
  by_cases hj : j < b.size
  · have h2 := h j hj
    rw [List.getD_eq_getElem?_getD, List.getD_eq_getElem?_getD, List.getElem?_eq_getElem (by rw [bts_length]; omega), List.getElem?_eq_getElem (by rw [bts_length]; omega)] at h2
    rw [List.getElem?_eq_getElem (by rw [bts_length]; omega), List.getElem?_eq_getElem (by rw [bts_length]; omega)]
    exact congrArg some h2
  · rw [List.getElem?_eq_none (by rw [bts_length]; omega), List.getElem?_eq_none (by rw [bts_length]; omega)]
theorem mix_mix (key nonce s : ByteArray) : mixB key nonce (mixB key nonce s) = s := by
  apply bts_ext (by rw [mixB_size, mixB_size])
  intro j hj
  rw [mix_get _ _ _ _ (by rw [mixB_size]; exact hj), mix_get _ _ _ _ hj, Nat.xor_assoc, Nat.xor_self, Nat.xor_zero]
theorem seal_at (key nonce s : ByteArray) (h1 : key.size ≤ 100000) (h2 : nonce.size ≤ 100000) (h3 : s.size ≤ 100000) : seal_Seal.f key nonce s = some (nonce, mixB key nonce s, tagB key nonce (mixB key nonce s)) := by
  unfold seal_Seal.f
  rw [mix_at _ _ _ h1 h2 h3, Option.bind_some, tag_at _ _ _ h1 h2 (by rw [mixB_size]; exact h3), Option.bind_some]
theorem open_in (key n d t : ByteArray) (h1 : key.size ≤ 100000) (h2 : n.size ≤ 100000) (h3 : d.size ≤ 100000) (h : t = tagB key n d) : seal_Open.f key n d t = some (mixB key n d, true) := by
  unfold seal_Open.f
  rw [tag_at _ _ _ h1 h2 h3, Option.bind_some, if_pos (by rw [h]), mix_at _ _ _ h1 h2 h3, Option.bind_some]
theorem public_at (n : Int) : seal_isPublic.f n = some (decide (1 ≤ n ∧ n < 2305843009213693951)) := by
  unfold seal_isPublic.f
  by_cases h : n ≥ 1
  · rw [if_pos h]; congr 1; exact decide_eq_decide.2 ⟨fun h2 => ⟨h, h2⟩, fun h2 => h2.2⟩
  · rw [if_neg h]; congr 1; exact (decide_eq_false (fun h2 => h h2.1)).symm
/-- the wrapping key -/
def keyB (tt eph sh : Int) : ByteArray := hB [⟨#[119, 114, 97, 112]⟩, numB tt, numB eph, numB sh]
theorem wrapping_at (tt eph sh : Int) (a0 : 0 ≤ tt) (a1 : tt < 9223372036854775808) (b0 : 0 ≤ eph) (b1 : eph < 9223372036854775808) (c0 : 0 ≤ sh) (c1 : sh < 9223372036854775808) :
    seal_wrapping.f tt eph sh = some (keyB tt eph sh) := by
  have s5 : (ByteArray.mk #[119, 114, 97, 112]).size = 4 := rfl
  have n1 := numB_size tt
  have n2 := numB_size eph
  have n3 := numB_size sh
  unfold seal_wrapping.f
  rw [P.num_at _ a0 a1, Option.bind_some, P.num_at _ b0 b1, Option.bind_some, P.num_at _ c0 c1, Option.bind_some, h_at _ (by simp) (by rw [szs4]; omega), Option.bind_some]; rfl
/-- the exponent of a seed and a public key -/
def expE (pub : Int) (seed : ByteArray) : Int := 1 + (numN (bts (hB [⟨#[101, 112, 104]⟩, seed, numB pub])) : Int) % 2305843009213693949
theorem expE_range (pub : Int) (seed : ByteArray) : 1 ≤ expE pub seed ∧ expE pub seed < 2305843009213693950 := by unfold expE; omega
theorem pwb (a : Int) (e : Nat) : 0 ≤ pw a e ∧ pw a e < 2305843009213693951 := pw_bounds a e
theorem pw37_pos (e : Nat) : 1 ≤ pw 37 e := by
  have := pw_ne (a := 37) (by decide) e
  have := pw_bounds 37 e
  omega
theorem exp_in {k : Nat} (hk : 74 ≤ k) (a e : Int) (h0 : 0 ≤ e) (h1 : e < 9223372036854775808) : group_Exp.f k a e = some (pw a e.toNat) := by
  rw [exp_at hk a e h1]
  unfold ex; rw [if_neg (by omega)]
/-- what Wrap makes -/
def ephE (pub : Int) (seed : ByteArray) : Int := pw 37 (expE pub seed).toNat
def wkey (pub : Int) (seed : ByteArray) : ByteArray := keyB pub (ephE pub seed) (pw pub (expE pub seed).toNat)
def wnonce (pub : Int) (seed : ByteArray) : ByteArray := hB [⟨#[110, 111, 110, 99, 101]⟩, wkey pub seed]
def wdata (pub : Int) (seed plain : ByteArray) : ByteArray := mixB (wkey pub seed) (wnonce pub seed) plain
def wtag (pub : Int) (seed plain : ByteArray) : ByteArray := tagB (wkey pub seed) (wnonce pub seed) (wdata pub seed plain)
theorem wkey_size (pub : Int) (seed : ByteArray) : (wkey pub seed).size = 32 := hB_size _
theorem wnonce_size (pub : Int) (seed : ByteArray) : (wnonce pub seed).size = 32 := hB_size _
theorem wdata_size (pub : Int) (seed plain : ByteArray) : (wdata pub seed plain).size = plain.size := mixB_size _ _ _
theorem eph_list (pub : Int) (seed : ByteArray) (hs : seed.size ≤ 100000) : szs [⟨#[101, 112, 104]⟩, seed, numB pub] ≤ 1000000000 := by
  have s5 : (ByteArray.mk #[101, 112, 104]).size = 3 := rfl
  have n1 := numB_size pub
  rw [szs3]; omega
theorem e_w64 (n : Nat) : wrap64 (1 + Int.tmod (n : Int) 2305843009213693949) = 1 + (n : Int) % 2305843009213693949 := by
  rw [Int.tmod_eq_emod_of_nonneg (by omega), w64_in _ (by omega) (by omega)]
theorem wrap_in {k : Nat} (hk : 74 ≤ k) (pub : Int) (seed plain : ByteArray) (h1 : 1 ≤ pub) (h2 : pub < 2305843009213693951) (hs : seed.size ≤ 100000) (hp : plain.size ≤ 100000) :
    seal_Wrap.f k pub seed plain = some (pub, ephE pub seed, wnonce pub seed, wdata pub seed plain, wtag pub seed plain, true) := by
  have hr := expE_range pub seed
  have b1 := pwb 37 (expE pub seed).toNat
  have b2 := pwb pub (expE pub seed).toNat
  have s5 : (ByteArray.mk #[110, 111, 110, 99, 101]).size = 5 := rfl
  have hk1 : seal_wrapping.f pub (pw 37 (expE pub seed).toNat) (pw pub (expE pub seed).toNat) = some (wkey pub seed) := wrapping_at _ _ _ (by omega) (by omega) (by omega) (by omega) (by omega) (by omega)
  have hk2 := wkey_size pub seed
  have hk3 : seal_h.f [⟨#[110, 111, 110, 99, 101]⟩, wkey pub seed] = some (wnonce pub seed) := h_at _ (by simp) (by rw [szs2]; omega)
  have he : wrap64 (1 + Int.tmod ((numN (bts (hB [⟨#[101, 112, 104]⟩, seed, numB pub])) : Nat) : Int) 2305843009213693949) = expE pub seed := e_w64 _
  unfold seal_Wrap.f
  rw [public_at, decide_eq_true ⟨h1, h2⟩, Option.bind_some, if_pos rfl, P.num_at pub (by omega) (by omega), Option.bind_some, h_at _ (by simp) (eph_list pub seed hs), Option.bind_some, NumL.num_at _ _ (by omega), Option.bind_some, he,
    exp_in hk _ _ (by omega) (by omega), Option.bind_some, exp_in hk _ _ (by omega) (by omega), Option.bind_some, hk1, Option.bind_some, hk3, Option.bind_some, seal_at _ _ _ (by omega) (by rw [wnonce_size]; omega) hp, Option.bind_some]
  rfl
/-- when Unwrap looks into the box -/
def Fits (x tt eph : Int) : Prop := 1 ≤ x ∧ x < 2305843009213693950 ∧ tt = pw 37 x.toNat ∧ 1 ≤ eph ∧ eph < 2305843009213693951
theorem unwrap_in {k : Nat} (hk : 80 ≤ k) (x tt eph : Int) (n d t : ByteArray) (h : Fits x tt eph) : seal_Unwrap.f k x tt eph n d t = seal_Open.f (keyB tt eph (pw eph x.toNat)) n d t := by
  obtain ⟨h1, h2, h3, h4, h5⟩ := h
  have b1 := pwb 37 x.toNat
  have b2 := pwb eph x.toNat
  have p1 := pw37_pos x.toNat
  obtain ⟨k, rfl⟩ : ∃ k', k = k' + 1 := ⟨k - 1, by omega⟩
  unfold seal_Unwrap.f
  rw [if_neg (by omega), if_neg (by omega), exp_in (by omega) _ _ (by omega) (by omega), Option.bind_some, if_pos h3, public_at, decide_eq_true ⟨h4, h5⟩, Option.bind_some, seal_Unwrap.j0, if_neg (by decide),
    exp_in (by omega) _ _ (by omega) (by omega), Option.bind_some, wrapping_at _ _ _ (by omega) (by omega) (by omega) (by omega) (by omega) (by omega), Option.bind_some]
  cases seal_Open.f (keyB tt eph (pw eph x.toNat)) n d t <;> rfl
end Go.Proofs.Ytdmeclmniooedaa.Sl
end Sl_
section SlSmall_
namespace Go.Proofs.Ytdmeclmniooedaa.Sl
open Go.RowKit Go.Proofs.Ytdmeclmniooedaa.P Go.Proofs.YtdmeclmniooedaaW.PrintWords Go.Proofs.YtdmeclmniooedaaW.PrintLast
theorem small_ok : agoralaw06_small.f 200 = some true := by decide +kernel
theorem smallR (k : Nat) (hk : 200 ≤ k) : agoralaw06_small.f k = some true := at_rounds agoralaw06_small.mono hk small_ok
end Go.Proofs.Ytdmeclmniooedaa.Sl
end SlSmall_
