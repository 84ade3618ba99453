/- Texts of this claim, merged: what the functions that the law reaches compute, and what that says. -/
import Derived.Test.YtkhkppehdgkboaaKA18
import Derived.Test.YtkhkppehdgkboaaKAMerkleProvesF
import Derived.Test.YtkhkppehdgkboaaKA20
section PureMerkleProves_
namespace Go.Proofs.Ytkhkppehdgkboaa.Pure
open Go.RowKit Go.Proofs.Ytkhkppehdgkboaa.P Go.Proofs.Ytkhkppehdgkboaa.Mk Go.Proofs.YtkhkppehdgkboaaW.PrintWords Go.Proofs.YtkhkppehdgkboaaW.PrintLast Go.Proofs.YtkhkppehdgkboaaW.PrintMore
set_option linter.unusedVariables false
theorem inc_neg (x root : ByteArray) (n : Int) (p : List ByteArray) : incB x (-1) n root p = false := by rw [incB, decide_eq_false (show ¬ (0 : Int) ≤ -1 by omega)]; simp
theorem inc_all (x root : ByteArray) (n : Int) (p : List ByteArray) : incB x n n root p = false := by rw [incB, decide_eq_false (show ¬ n < n by omega)]; simp
theorem inc_path (L : List ByteArray) (i : Nat) (hl : L.length ≤ 100) (h : ∀ y ∈ L, y.size = 32) (hi : i < L.length) : incB (L.getD i ByteArray.empty) (i : Int) (L.length : Int) (rootB L) (pathB L i) = true := by
  obtain ⟨a, b⟩ := path_way L.length L i (Nat.le_refl _) (by omega) hi
  rw [incB, decide_eq_true (by omega), decide_eq_true (by omega), h _ (getD_mem L i hi), all32_of (path32 L.length L i (Nat.le_refl _) h), Int.toNat_natCast, Int.toNat_natCast, a, b]
  simp
theorem ext_link (L : List ByteArray) (m : Nat) (hl : L.length ≤ 100) (h : ∀ y ∈ L, y.size = 32) (hm : m ≤ L.length) : extB m L.length (rootB (L.take m)) (rootB L) (if m = 0 then [] else linkB L m true) = true := by
  have r1 := root_size32 (L.take m) (fun y hy => h y (List.mem_of_mem_take hy))
  have r2 := root_size32 L h
  rw [extB, decide_eq_true hm, r1, r2]
  by_cases h0 : m = 0
  · subst h0
    rw [if_pos rfl, if_pos rfl, List.take_zero, rootB_nil [] rfl]
    simp [all32]
  · rw [if_neg h0, if_neg h0, all32_of (link32 L.length L m true (Nat.le_refl _) h)]
    obtain ⟨s, rest, e1, e2, e3, e4, e5⟩ := link_way L.length L m true (Nat.le_refl _) (by omega) hm
    rw [e1]
    cases hw : (wayL m L.length).2
    · rw [if_neg (by simp), extW_cons, extT, e2, e4, e5]; simp
    · rw [if_pos ⟨rfl, rfl⟩, extW_true, extT, e2, ← e3 hw, e5, e4, ← e3 hw]; simp
theorem proves_j1 (L : List ByteArray) (i m : Nat) (hl : L.length ≤ 40) (h : ∀ y ∈ L, y.size = 32) (hi : i < L.length) (hm : m ≤ L.length) (p : List ByteArray) (hp : p.length ≤ 1000) (k : Nat) (hk : 5000 ≤ k) :
    agoralaw08_MerkleProves.j1 k (i : Int) (m : Int) true L (rootB L) p (if m = 0 then [] else linkB L m true) false = some true := by
  obtain ⟨k, rfl⟩ : ∃ k', k = k' + 1 := ⟨k - 1, by omega⟩
  have hd := dom32 (by omega) h
  have hll : (if m = 0 then ([] : List ByteArray) else linkB L m true).length ≤ 1000 := by
    have := linkB_length _ L m true (Nat.le_refl _)
    split
    · simp
    · omega
  rw [agoralaw08_MerkleProves.j1, if_neg (by decide), if_pos rfl, if_pos (by omega), if_pos (by omega), includes_at _ _ _ _ _ (by omega) hp k (by omega), Option.bind_some, inc_neg, if_neg (by decide), includes_at _ _ _ _ _ (by omega) hp k (by omega), Option.bind_some, inc_all, if_neg (by decide), if_pos (by omega), if_pos (by omega), Int.toNat_natCast, root_at (hd.take m), Option.bind_some,
    extends_at m L.length _ _ _ (by omega) (by omega) hll k (by omega), Option.bind_some, ext_link L m (by omega) h hm]
theorem proves_j0 (L : List ByteArray) (i m : Nat) (hl : L.length ≤ 40) (h : ∀ y ∈ L, y.size = 32) (hi : i < L.length) (hm : m ≤ L.length) (k : Nat) (hk : 5010 ≤ k) : agoralaw08_MerkleProves.j0 k (i : Int) (m : Int) true L false = some true := by
  obtain ⟨k, rfl⟩ : ∃ k', k = k' + 1 := ⟨k - 1, by omega⟩
  have hd := dom32 (by omega) h
  have e3 : (if (m : Int) = 0 then (([] : List ByteArray), true) else if 0 ≤ (m : Int) ∧ (m : Int) ≤ (L.length : Int) then (linkB L (m : Int).toNat true, true) else ([], false)) = (if m = 0 then [] else linkB L m true, true) := by
    by_cases hz : m = 0
    · subst hz; rfl
    · rw [if_neg (by omega), if_neg hz, if_pos (by omega), Int.toNat_natCast]
  have e4 : (if 0 ≤ (i : Int) ∧ (i : Int) < (L.length : Int) then (pathB L (i : Int).toNat, true) else (([] : List ByteArray), false)) = (pathB L i, true) := by rw [if_pos (by omega), Int.toNat_natCast]
  have hpl := pathB_length _ L i (Nat.le_refl _)
  rw [agoralaw08_MerkleProves.j0, if_neg (by decide), root_at hd, Option.bind_some, path_at hd, Option.bind_some, link_at hd, Option.bind_some, e3, e4]
  dsimp only
  rw [if_pos rfl, if_pos rfl, if_pos (by omega), if_pos (by omega), rd_nat, includes_at _ _ _ _ _ (by omega) (by omega) k (by omega), Option.bind_some, inc_path L i (by omega) h hi, Bool.not_true]
  exact proves_j1 L i m hl h hi hm (pathB L i) (by omega) k (by omega)
theorem proves_out (a1 a2 : Int) (L : List ByteArray) (k : Nat) (hk : 1 ≤ k) : agoralaw08_MerkleProves.j0 k a1 a2 true L true = some true := by
  obtain ⟨k, rfl⟩ : ∃ k', k = k' + 1 := ⟨k - 1, by omega⟩
  rw [agoralaw08_MerkleProves.j0, if_pos rfl]
theorem MerkleProves (l : List ByteArray) (a1 a2 : Int) : agoralaw08_MerkleProves.f 1200000 l a1 a2 = some true := by
  rw [agoralaw08_MerkleProves.f, small_at _ (by decide), Option.bind_some, leaves_at _ _ (by decide), Option.bind_some]
  by_cases h : (decide (l.length ≤ 40) && ok200 l) = true
  · rw [if_pos h]
    rw [Bool.and_eq_true, decide_eq_true_eq] at h
    have hL : (l.map leafB).length ≤ 40 := by rw [List.length_map]; exact h.1
    have h32 := leaf32 l
    generalize l.map leafB = L at hL h32 ⊢
    dsimp only
    rw [if_pos rfl]
    by_cases c1 : a1 < 0
    · rw [if_pos c1, proves_out _ _ _ _ (by decide)]
    rw [if_neg c1]
    by_cases c2 : a1 ≥ (L.length : Int)
    · rw [if_pos c2, proves_out _ _ _ _ (by decide)]
    rw [if_neg c2]
    by_cases c3 : a2 < 0
    · rw [if_pos c3, proves_out _ _ _ _ (by decide)]
    rw [if_neg c3]
    by_cases c4 : a2 > (L.length : Int)
    · rw [decide_eq_true c4, proves_out _ _ _ _ (by decide)]
    rw [decide_eq_false c4]
    obtain ⟨i, rfl⟩ := Int.eq_ofNat_of_zero_le (show 0 ≤ a1 by omega)
    obtain ⟨m, rfl⟩ := Int.eq_ofNat_of_zero_le (show 0 ≤ a2 by omega)
    exact proves_j0 L i m hL h32 (by omega) (by omega) _ (by decide)
  · rw [if_neg h]
    dsimp only
    rw [if_neg (by decide), proves_out _ _ _ _ (by decide)]
end Go.Proofs.Ytkhkppehdgkboaa.Pure
end PureMerkleProves_
