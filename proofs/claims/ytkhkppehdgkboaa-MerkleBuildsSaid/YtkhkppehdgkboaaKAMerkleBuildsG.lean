/- Texts of this claim, merged: what the functions that the law reaches compute, and what that says. -/
import Derived.Test.YtkhkppehdgkboaaKA4
import Derived.Test.YtkhkppehdgkboaaKA14
import Derived.Test.YtkhkppehdgkboaaKA15
import Derived.Test.YtkhkppehdgkboaaKA18
import Derived.Test.YtkhkppehdgkboaaKAMerkleBuildsF
import Derived.Test.YtkhkppehdgkboaaKA20
section PureMerkleBuilds_
namespace Go.Proofs.Ytkhkppehdgkboaa.Pure
open Go.RowKit Go.Proofs.Ytkhkppehdgkboaa.P Go.Proofs.Ytkhkppehdgkboaa.Mk Go.Proofs.YtkhkppehdgkboaaW.PrintWords Go.Proofs.YtkhkppehdgkboaaW.PrintLast Go.Proofs.YtkhkppehdgkboaaW.PrintMore
set_option linter.unusedVariables false
theorem builds_j3 (l : List ByteArray) (a1 : Int) (q : List ByteArray) (is : Bool) (k : Nat) (hk : 2000 ≤ k) (hd : Dom l) (hq : is = true → 0 ≤ a1 ∧ a1 ≤ (l.length : Int) ∧ q = (if a1.toNat = 0 then [] else linkB l a1.toNat true)) (hn : is = false → q = []) :
    agoralaw08_MerkleBuilds.j3 k l a1 true q is false = some true := by
  obtain ⟨k, rfl⟩ : ∃ k', k = k' + 1 := ⟨k - 1, by omega⟩
  rw [agoralaw08_MerkleBuilds.j3, if_neg (by decide), if_pos rfl]
  cases is
  · rw [if_neg (by decide), hn rfl]; rfl
  · obtain ⟨h0, h1, rfl⟩ := hq rfl
    obtain ⟨i, rfl⟩ := Int.eq_ofNat_of_zero_le h0
    rw [Int.toNat_natCast, if_pos rfl, link_ref k l i hd (by omega) (by omega), Option.bind_some, same_at _ _ (by split; simp; have := linkB_length _ l i true (Nat.le_refl _); have := hd.1; omega) k (by split; simp only [List.length_nil]; omega; have := linkB_length _ l i true (Nat.le_refl _); have := hd.1; omega), Option.bind_some, decide_eq_true rfl, if_pos rfl]
theorem builds_j2 (l : List ByteArray) (a1 : Int) (p : List ByteArray) (ok : Bool) (q : List ByteArray) (is : Bool) (k : Nat) (hk : 3000 ≤ k) (hd : Dom l) (hp : ok = true → 0 ≤ a1 ∧ a1 < (l.length : Int) ∧ p = pathB l a1.toNat) (hp0 : ok = false → p = []) (hq : is = true → 0 ≤ a1 ∧ a1 ≤ (l.length : Int) ∧ q = (if a1.toNat = 0 then [] else linkB l a1.toNat true)) (hn : is = false → q = []) :
    agoralaw08_MerkleBuilds.j2 k l a1 true p ok q is false = some true := by
  obtain ⟨k, rfl⟩ : ∃ k', k = k' + 1 := ⟨k - 1, by omega⟩
  have hb := hd.1
  rw [agoralaw08_MerkleBuilds.j2, if_neg (by decide)]
  cases ok
  · rw [if_neg (by decide), hp0 rfl]
    exact builds_j3 l a1 q is k (by omega) hd hq hn
  · obtain ⟨h0, h1, rfl⟩ := hp rfl
    obtain ⟨i, rfl⟩ := Int.eq_ofNat_of_zero_le h0
    have hl := pathB_length _ l i (Nat.le_refl _)
    rw [Int.toNat_natCast, if_pos rfl, path_ref l.length _ l i (Nat.le_refl _) hd (by omega) (by omega), Option.bind_some, same_at _ _ (by omega) _ (by omega), Option.bind_some, decide_eq_true rfl, if_pos rfl]
    exact builds_j3 l i q is k (by omega) hd hq hn
theorem builds_end (l : List ByteArray) (a1 : Int) (i : Int) (k : Nat) (hk : 4000 ≤ k) (hd : Dom l) : agoralaw08_MerkleBuilds.j1 k l a1 true i false = some true := by
  obtain ⟨k, rfl⟩ : ∃ k', k = k' + 1 := ⟨k - 1, by omega⟩
  have hb := hd.1
  obtain ⟨p, ok, hP, hp1, hp0, ho⟩ : ∃ p ok, merkle_Path.f l a1 = some (p, ok) ∧ (ok = true → 0 ≤ a1 ∧ a1 < (l.length : Int) ∧ p = pathB l a1.toNat) ∧ (ok = false → p = []) ∧ (0 ≤ a1 → ok = decide (a1 < (l.length : Int))) := by
    rw [path_at hd]
    by_cases h : 0 ≤ a1 ∧ a1 < (l.length : Int)
    · rw [if_pos h]; exact ⟨_, _, rfl, fun _ => ⟨h.1, h.2, rfl⟩, (fun e => by cases e), fun _ => (decide_eq_true h.2).symm⟩
    · rw [if_neg h]; exact ⟨_, _, rfl, (fun e => by cases e), fun _ => rfl, fun h0 => (decide_eq_false (by omega)).symm⟩
  obtain ⟨q, is, hQ, hq1, hq0, hi⟩ : ∃ q is, merkle_Link.f l a1 = some (q, is) ∧ (is = true → 0 ≤ a1 ∧ a1 ≤ (l.length : Int) ∧ q = (if a1.toNat = 0 then [] else linkB l a1.toNat true)) ∧ (is = false → q = []) ∧ (0 ≤ a1 → is = decide (a1 ≤ (l.length : Int))) := by
    rw [link_at hd]
    by_cases hz : a1 = 0
    · subst hz; rw [if_pos rfl]; exact ⟨_, _, rfl, fun _ => ⟨by omega, by omega, rfl⟩, (fun e => by cases e), fun _ => (decide_eq_true (by omega)).symm⟩
    rw [if_neg hz]
    by_cases h : 0 ≤ a1 ∧ a1 ≤ (l.length : Int)
    · rw [if_pos h]; exact ⟨_, _, rfl, fun _ => ⟨h.1, h.2, by rw [if_neg (by omega)]⟩, (fun e => by cases e), fun _ => (decide_eq_true h.2).symm⟩
    · rw [if_neg h]; exact ⟨_, _, rfl, (fun e => by cases e), fun _ => rfl, fun h0 => (decide_eq_false (by omega)).symm⟩
  rw [agoralaw08_MerkleBuilds.j1, if_neg (by decide), hP, Option.bind_some, hQ, Option.bind_some, root_at hd, Option.bind_some, root_ref l.length _ l (Nat.le_refl _) hd (by omega), Option.bind_some, if_pos rfl]
  dsimp only
  have j2 := builds_j2 l a1 p ok q is k (by omega) hd hp1 hp0 hq1 hq0
  by_cases h0 : 0 ≤ a1
  · rw [if_pos h0, ← ho h0, ← hi h0, bne_self_eq_false, bne_self_eq_false, if_neg (by decide)]; exact j2
  · have e1 : ok = false := by cases ok with | false => rfl | true => exact absurd (hp1 rfl).1 h0
    have e2 : is = false := by cases is with | false => rfl | true => exact absurd (hq1 rfl).1 h0
    subst e1 e2
    rw [if_neg (show ¬ a1 ≥ 0 by omega), bne_self_eq_false, if_neg (by decide)]; exact j2
theorem builds_l0 (l : List ByteArray) (a1 : Int) (hd : Dom l) (hs : ∀ x ∈ l, x.size ≤ 200) : ∀ (m k i : Nat), i + m = 5 → 4010 + 2 * m ≤ k → i ≤ l.length → agoralaw08_MerkleBuilds.l0 k l a1 true (i : Int) = some true
  | m, k, i, h, hk, hi => by
    obtain ⟨k, rfl⟩ : ∃ k', k = k' + 2 := ⟨k - 2, by omega⟩
    rw [agoralaw08_MerkleBuilds.l0]
    by_cases h1 : i < l.length
    · rw [if_pos (by omega)]
      match m, h, hk with
      | 0, h, hk =>
        rw [decide_eq_false (by omega)]
        exact builds_end l a1 _ _ (by omega) hd
      | m + 1, h, hk =>
        have hg := hs _ (getD_mem l i h1)
        have hb := hd.1
        rw [decide_eq_true (by omega), agoralaw08_MerkleBuilds.j1, if_pos rfl, if_pos (by omega), if_pos (by omega), rd_nat, leaf_at _ (by omega), Option.bind_some, leaf_ref _ (by omega), Option.bind_some, if_pos rfl, show (i : Int) + 1 = ((i + 1 : Nat) : Int) by omega, wrap_nat _ (by omega)]
        exact builds_l0 l a1 hd hs m k (i + 1) (by omega) (by omega) h1
    · rw [if_neg (by omega)]
      exact builds_end l a1 _ _ (by omega) hd
theorem MerkleBuilds (l : List ByteArray) (a1 : Int) : agoralaw08_MerkleBuilds.f 1200000 l a1 = some true := by
  rw [agoralaw08_MerkleBuilds.f, small_at _ (by decide), Option.bind_some, short_at _ _ (by decide), Option.bind_some]
  by_cases h : (decide (l.length ≤ 100) && ok200 l) = true
  · rw [if_pos h]
    rw [Bool.and_eq_true, decide_eq_true_eq] at h
    exact builds_l0 l a1 (dom200 h.1 (ok200_mem h.2)) (ok200_mem h.2) 5 1200000 0 rfl (by decide) (Nat.zero_le _)
  · rw [if_neg h]
end Go.Proofs.Ytkhkppehdgkboaa.Pure
end PureMerkleBuilds_
