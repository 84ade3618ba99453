/- Texts of this claim, merged: what the functions that the law reaches compute, and what that says. -/
import Derived.Laws.BitsAllLaws
import Derived.OwnWalk
import Derived.Test.YtggmjfonhcinhaaKB1
import Derived.Test.YtggmjfonhcinhaaKB2
import Derived.Test.YtggmjfonhcinhaaKB3
import Derived.Test.YtggmjfonhcinhaaKB9
section Num_
namespace Go.Proofs.Ytggmjfonhcinhaa.P
open Go.RowKit Go.Proofs.YtggmjfonhcinhaaW.PrintWords Go.Proofs.YtggmjfonhcinhaaW.PrintLast Go.Proofs.YtggmjfonhcinhaaW.PrintMore
set_option linter.unusedVariables false
/-- the bytes of a number -/
def numF : Nat → Nat → List Nat
  | 0, n => [n % 256]
  | k + 1, n => if n < 128 then [n] else (n % 128 + 128) :: numF k (n / 128)
/-- code.Num, for the print -/
def code_Num.f (a0 : Int) : Option ByteArray := if a0 < 0 then some ⟨#[]⟩ else if a0 < 9223372036854775808 then some (strOfNums ((numF 9 a0.toNat).map fun n : Nat => (n : Int))) else none
theorem numF_small (k n : Nat) (h : n < 128) : numF k n = [n] := by
  cases k with
  | zero => rw [numF]; congr 1; omega
  | succ k => rw [numF, if_pos h]
/-- the bytes ds of n are written, what is left is m -/
def NumAt (n k m : Nat) (ds : List Nat) : Prop := m < 128 ^ (k + 1) ∧ ds.length + k = 9 ∧ ds ++ numF k m = numF 9 n
theorem NumAt.last {n k m : Nat} {ds : List Nat} (h : NumAt n k m ds) (h8 : m < 128) : ds ++ [m] = numF 9 n := by
  rw [← h.2.2, numF_small k m h8]
theorem NumAt.next {n k m : Nat} {ds : List Nat} (h : NumAt n k m ds) (h8 : 128 ≤ m) : 1 ≤ k ∧ NumAt n (k - 1) (m / 128) (ds ++ [m % 128 + 128]) := by
  obtain ⟨h1, h2, h3⟩ := h
  have hk : 1 ≤ k := by
    rcases Nat.eq_zero_or_pos k with h | h
    · subst h; omega
    · exact h
  obtain ⟨k, rfl⟩ : ∃ j, k = j + 1 := ⟨k - 1, by omega⟩
  rw [numF, if_neg (by omega)] at h3
  exact ⟨hk, (Nat.div_lt_iff_lt_mul (by decide)).2 (by rw [← Nat.pow_succ]; exact h1), by rw [List.length_append, List.length_cons, List.length_nil]; omega, by rw [List.append_assoc]; exact h3⟩
theorem or128 (m : Nat) (hm : m < 128) : Go.bits .or .i64 (m : Int) 128 = ((m + 128 : Nat) : Int) := by
  have h : (List.range 128).all (fun m => Go.bits .or .i64 (m : Int) 128 == ((m + 128 : Nat) : Int)) = true := by decide +kernel
  exact beq_iff_eq.1 (List.all_eq_true.1 h m (List.mem_range.2 hm))
set_option maxHeartbeats 4000000 in
set_option maxRecDepth 100000 in
theorem code_Num.calls (a0 : Int) (r : ByteArray) (w : World) (h : code_Num.f a0 = some r) :
    Calls Try.prog 26 #[.int .i64 a0] w fun e w' => e = .returned (.string r) ∧ Below w.heap.size w w' := by
  unfold code_Num.f at h
  split at h
  · rename_i h1
    obtain rfl := Option.some.inj h
    clear h
    go_enter Try.func26, Try.ntmps26
    go_wp2_with fail
    go_ret
    exact ⟨rfl, Below.refl _ _⟩
  · rename_i h1
    split at h
    · rename_i h2
      obtain rfl := Option.some.inj h
      clear h
      obtain ⟨n, rfl⟩ : ∃ n : Nat, a0 = (n : Int) := ⟨a0.toNat, by omega⟩
      rw [Int.toNat_natCast]
      have h3 : (n : Int) < 9223372036854775808 := h2
      have h4 : ¬ (n : Int) < 0 := by omega
      obtain ⟨N9, hN9⟩ : ∃ N9, numF 9 n = N9 := ⟨_, rfl⟩
      have HN9 := Lib.hid hN9
      rw [hN9]
      have hn0 : NumAt n 9 n [] := ⟨by omega, rfl, rfl⟩
      have H9 := Lib.hid hn0
      have H3 := Lib.hid h3
      clear hN9 hn0 h1 h2 h3
      go_enter Try.func26, Try.ntmps26
      obtain ⟨i0, hi0, hz0, hz1, hz2⟩ := info_parts Bld.infoByte
      go_wp2_with (refine wpList_make_own (P := Try.prog) _ rfl _ _ 55 rfl w.heap.size 5 i0 (.int .u8 0) 1 Try.underlying55 hi0 hz0 hz1 .i64 .i64 9 9 rfl rfl rfl (by rw [hz2]; decide) (by decide) (Nat.le_refl _) ?_)
      intro w1 hown hg1
      have hB1 : Below w.heap.size w w1 := (Below.refl _ _).grown hg1 (Nat.le_refl _) (fun k hk => by cases hk)
      go_wp2_with fail
      go_loopg [0, 3] 9 (fun kq v0 v3 wr => ∃ (m : Nat) (ds : List Nat), v0 = .int .i64 (m : Int) ∧ (m : Int) < 9223372036854775808 ∧ NumAt n kq m ds ∧ wr.ownsRow w.heap.size 5 1 v3 ds.length (Bld.cellsOf ds) ∧ Below w.heap.size w wr)
      case atStart => exact ⟨n, [], rfl, H3.out, H9.out, hown, hB1⟩
      case round =>
        obtain ⟨m, ds, rfl, hm2, hnum, ho, hb⟩ := hrel
        have hsz := hb.size
        have HB := Lib.hid hb
        have hdl := hnum.2.1
        have HM := Lib.hid hm2
        clear hb hown hg1 hB1 H9 hm2 h4
        rcases Nat.lt_or_ge m 128 with h8 | h8
        · have HN := Lib.hid (hnum.last h8)
          clear hnum
          have t0 : (m : Int) % 256 = (m : Int) := by omega
          have hc : decide ((128 : Int) ≤ (m : Int)) = false := decide_eq_false (by omega)
          clear h8
          go_wp2_with (at_builtin; refine wpList_append_own _ rfl _ _ 55 rfl w.heap.size 5 i0 (.int .u8 0) 1 1 Try.underlying55 hi0 hz0 hz1 hz2 rfl (by decide) _ _ _ rfl (ho.alloc _) ⟨wr.heap.size, 0, none⟩ 1 1 [.int .u8 (m : Int)] rfl rfl ?c1 ?c2 ?c3 ?c4 ?c5 ?_)
          case c1 =>
            intro k u hk
            rcases k with _ | k
            · rw [show (⟨wr.heap.size, 0, none⟩ : Addr).add 0 = ⟨wr.heap.size, 0, none⟩ from rfl, World.cell?_alloc_new]
              simpa using hk
            · simp at hk
          case c2 => intro u hu; obtain rfl := List.mem_singleton.1 hu; rfl
          case c3 => unfold maxLen; omega
          case c4 => omega
          case c5 => rw [World.size_alloc]; omega
          intro v' w2 hown' hgrow _
          have hblk := ho.lt
          have hb2 : Below w.heap.size w w2 := (HB.out.alloc hsz _).grown hgrow (by rw [World.size_alloc]; omega) (fun k hk => (hblk k hk).1)
          rw [Bld.cellsOf_snoc] at hown'
          have hcv := own_string (P := Try.prog) Try.underlying55 Try.underlying5 Try.underlying9 (xs := (ds ++ [m]).map fun n : Nat => (n : Int)) (by rw [show nums .u8 ((ds ++ [m]).map fun n : Nat => (n : Int)) = Bld.cellsOf (ds ++ [m]) by simp [nums, Bld.cellsOf]]; exact hown')
          go_wp2_with fail
          go_ret
          have HE : ds.map (fun n : Nat => (n : Int)) ++ [(m : Int)] = N9.map fun n : Nat => (n : Int) := by
            rw [← HN9.out, ← HN.out, List.map_append]; rfl
          exact ⟨by rw [HE]; rfl, hb2⟩
        · obtain ⟨hk, hnext⟩ := hnum.next h8
          have HN := Lib.hid hnext
          clear hnum hnext
          have t1 : Int.tmod (m : Int) 128 = ((m % 128 : Nat) : Int) := by rw [Int.tmod_eq_emod_of_nonneg (by omega)]; omega
          have t2 : Int.tdiv (m : Int) 128 = ((m / 128 : Nat) : Int) := by rw [Int.tdiv_eq_ediv_of_nonneg (by omega)]; omega
          have t3 := or128 (m % 128) (Nat.mod_lt _ (by decide))
          have te : ((m % 128 + 128 : Nat) : Int) = (m : Int) % 128 + 128 := by omega
          rw [te, Int.natCast_emod] at t3
          replace t3 : Go.bits .or .i64 ((m : Int) % 128) 128 = (m : Int) % 128 + 128 := t3
          have t4 : ((m : Int) % 128 + 128) % 256 = (m : Int) % 128 + 128 := by omega
          have hc : decide ((128 : Int) ≤ (m : Int)) = true := decide_eq_true (by omega)
          clear h8
          go_wp2_with (at_builtin; refine wpList_append_own _ rfl _ _ 55 rfl w.heap.size 5 i0 (.int .u8 0) 1 1 Try.underlying55 hi0 hz0 hz1 hz2 rfl (by decide) _ _ _ rfl (ho.alloc _) ⟨wr.heap.size, 0, none⟩ 1 1 [.int .u8 ((m : Int) % 128 + 128)] rfl rfl ?c1 ?c2 ?c3 ?c4 ?c5 ?_)
          case c1 =>
            intro k u hk
            rcases k with _ | k
            · rw [show (⟨wr.heap.size, 0, none⟩ : Addr).add 0 = ⟨wr.heap.size, 0, none⟩ from rfl, World.cell?_alloc_new]
              simpa using hk
            · simp at hk
          case c2 => intro u hu; obtain rfl := List.mem_singleton.1 hu; rfl
          case c3 => unfold maxLen; omega
          case c4 => omega
          case c5 => rw [World.size_alloc]; omega
          intro v' w2 hown' hgrow _
          have hblk := ho.lt
          have hb2 : Below w.heap.size w w2 := (HB.out.alloc hsz _).grown hgrow (by rw [World.size_alloc]; omega) (fun k hk => (hblk k hk).1)
          rw [← te, Bld.cellsOf_snoc] at hown'
          go_wp2_with fail
          go_roundg (gk - 1)
          case measure => omega
          case rel => exact ⟨m / 128, ds ++ [m % 128 + 128], congrArg (Value.int .i64) (by rw [wrap64]; have := HM.out; omega), (by have := HM.out; omega), HN.out, (by rw [List.length_append]; exact hown'), hb2⟩
    · cases h
end Go.Proofs.Ytggmjfonhcinhaa.P
end Num_
