/- Texts of this claim, merged: what the functions that the law reaches compute, and what that says. -/
import Derived.RangeFuncBox
import Derived.Test.YtkhkppehdgkboaaKB4
import Derived.Test.YtkhkppehdgkboaaKB10
import Derived.Test.YtkhkppehdgkboaaKB14
section PathV_
namespace Go.Proofs.Ytkhkppehdgkboaa.Mk
open Go.RowKit Go.Proofs.Ytkhkppehdgkboaa.P Go.Proofs.YtkhkppehdgkboaaW.PrintWords Go.Proofs.YtkhkppehdgkboaaW.PrintLast Go.Proofs.YtkhkppehdgkboaaW.PrintMore
attribute [local go_sem] max2_int min2_int max_two min_two max_three min_three max_four min_four   -- for this text's walks alone
set_option linter.unusedVariables false
set_option linter.unusedSimpArgs false
theorem C_take (A0 : Option Addr) (c0 : Nat) (l0 : List ByteArray) (w : World) {k : Nat} (hk : k ≤ l0.length) (hc0 : l0.length ≤ c0) (hr0 : Kd.C Kd.string w A0 l0.length l0) : Kd.C Kd.string w A0 (l0.take k).length (l0.take k) := by
  obtain ⟨i0, hi0, _, hsz0, _⟩ := info_parts info9
  obtain ⟨_, hA, _⟩ := print_take_of (P := Try.prog) Value.string (⟨#[]⟩ : ByteArray) 22 9 .i64 Try.underlying22 hi0 hsz0 A0 c0 l0 (k : Int) (by omega) (by omega) hc0
  rw [Int.toNat_natCast] at hA
  exact Kd.C_of_reads (h1 := fun _ => rfl) (hA _ (Kd.reads_of_C hr0))
/-- the path of an index -/
def pathF : Nat → List ByteArray → Nat → List ByteArray
  | 0, _, _ => []
  | n + 1, l, i => if l.length < 2 then [] else if i < spl l.length then pathF n (l.take (spl l.length)) i ++ [rootB (l.drop (spl l.length))] else pathF n (l.drop (spl l.length)) (i - spl l.length) ++ [rootB (l.take (spl l.length))]
def pathB (l : List ByteArray) (i : Nat) : List ByteArray := pathF (l.length + 1) l i
theorem pathF_fuel : ∀ (n m : Nat) (l : List ByteArray) (i : Nat), l.length < n → l.length < m → pathF n l i = pathF m l i
  | 0, _, _, _, h, _ => by omega
  | _, 0, _, _, _, h => by omega
  | n + 1, m + 1, l, i, h1, h2 => by
    rw [pathF, pathF]
    by_cases h0 : l.length < 2
    · rw [if_pos h0, if_pos h0]
    rw [if_neg h0, if_neg h0]
    have p1 := spl_pos l.length
    have p2 := spl_lt l.length (by omega)
    rw [pathF_fuel n m (l.take (spl l.length)) i (by rw [List.length_take]; omega) (by rw [List.length_take]; omega), pathF_fuel n m (l.drop (spl l.length)) (i - spl l.length) (by rw [List.length_drop]; omega) (by rw [List.length_drop]; omega)]
theorem pathB_one (l : List ByteArray) (i : Nat) (h : l.length < 2) : pathB l i = [] := by rw [pathB, pathF, if_pos h]
theorem pathB_more (l : List ByteArray) (i : Nat) (h : 2 ≤ l.length) : pathB l i = if i < spl l.length then pathB (l.take (spl l.length)) i ++ [rootB (l.drop (spl l.length))] else pathB (l.drop (spl l.length)) (i - spl l.length) ++ [rootB (l.take (spl l.length))] := by
  have p1 := spl_pos l.length
  have p2 := spl_lt l.length h
  rw [pathB, pathF, if_neg (by omega), pathB, pathB, pathF_fuel l.length _ (l.take (spl l.length)) i (by rw [List.length_take]; omega) (Nat.lt_succ_self _), pathF_fuel l.length _ (l.drop (spl l.length)) _ (by rw [List.length_drop]; omega) (Nat.lt_succ_self _)]
theorem pathB_length : ∀ (n : Nat) (l : List ByteArray) (i : Nat), l.length ≤ n → (pathB l i).length ≤ l.length
  | 0, l, i, h => by rw [pathB_one l i (by omega)]; simp
  | n + 1, l, i, h => by
    rcases Nat.lt_or_ge l.length 2 with h2 | h2
    · rw [pathB_one l i h2]; simp
    have p1 := spl_pos l.length
    have p2 := spl_lt l.length h2
    have a := pathB_length n (l.take (spl l.length)) i (by rw [List.length_take]; omega)
    have b := pathB_length n (l.drop (spl l.length)) (i - spl l.length) (by rw [List.length_drop]; omega)
    rw [List.length_take] at a
    rw [List.length_drop] at b
    rw [pathB_more l i h2]
    split <;> simp only [List.length_append, List.length_cons, List.length_nil] <;> omega
/-- what stands in memory between two calls of the closure: the variable that holds the closure, the captured path, its row; what lay there before is as it was -/
def St (fv : Value) (tv : TypeId) (w0 : World) (bv bp : Nat) (W : World) (v : Value) (xs : List ByteArray) : Prop :=
  Boxed W bv tv fv ∧ Boxed W bp 22 v ∧ Kd.R Kd.string 9 W w0.heap.size (fun _ => True) v xs ∧ Below w0.heap.size w0 W ∧ w0.heap.size ≤ bp ∧ tv ≠ 22 ∧ tv ≠ 9
section
variable {fv : Value} {tv : TypeId} {w0 : World} {bv bp : Nat} {W : World} {v : Value} {xs : List ByteArray}
theorem St.step (h : St fv tv w0 bv bp W v xs) {W' : World} (hb : Below W.heap.size W W') : St fv tv w0 bv bp W' v xs := by
  obtain ⟨h1, h2, h3, h4, h5, h6, h7⟩ := h
  exact ⟨(hb.block _ h1.lt).trans h1, (hb.block _ h2.lt).trans h2, Kd.R_below h3 hb, h4.trans (hb.mono h4.size), h5, h6, h7⟩
theorem St.not_row (h : St fv tv w0 bv bp W v xs) : some bp ≠ v.ownBlock := by
  obtain ⟨inner, ho⟩ := Kd.R_own h.2.2.1
  exact h.2.1.not_row (by decide) ho
theorem St.push (h : St fv tv w0 bv bp W v xs) {w1 : World} {v1 : Value} {ys : List ByteArray} (ho : Kd.R Kd.string 9 w1 w0.heap.size (fun _ => True) v1 ys) (hbl : Below w0.heap.size w0 w1) (hg : W.grownBy w1 v.ownBlock) :
    St fv tv w0 bv bp (w1.setCell ⟨bp, 0, none⟩ v1) v1 ys := by
  have hn := h.not_row
  obtain ⟨h1, h2, h3, h4, h5, h6, h7⟩ := h
  obtain ⟨inner, hown⟩ := Kd.R_own h3
  have b1 := h1.kept hg (h1.not_row h7 hown)
  have b2 := h2.kept hg hn
  have hne : bv ≠ bp := by
    intro e
    subst e
    have := h1.symm.trans h2
    injection this with this
    injection this with _ this
    exact h6 this
  refine ⟨b1.kept (grownBy_setCell' w1 bp v1) (by intro e; cases e; exact hne rfl), b2.set v1, ?_, below_set hbl h5, h5, h6, h7⟩
  refine Kd.R_mono (Kd.R_step (Kd.R_bound ho) ?_) (fun _ _ => trivial)
  rintro k ⟨_, _, hk, q, hq, cells, hc⟩ _
  refine (grownBy_setCell' w1 bp v1).block k hk ?_
  intro e
  cases e
  have := hc.symm.trans b2
  injection this with this
  injection this with _ this
  have hq' : q = 9 := by simpa [Kd.E, Kd.string, Kd.scalar] using hq
  rw [hq'] at this
  exact absurd this (by decide)
end
set_option maxHeartbeats 4000000 in
set_option maxRecDepth 100000 in
theorem visit_path : ∀ (n : Nat) (A0 : Option Addr) (c0 : Nat) (l0 : List ByteArray) (i : Nat) (w0 W : World) (bv bp : Nat) (v : Value) (xs : List ByteArray), l0.length ≤ n → Dom l0 → i < l0.length → xs.length + l0.length ≤ 1000 →
    Kd.C Kd.string w0 A0 l0.length l0 → l0.length ≤ c0 → St (.func (.func 29) #[] #[.pointer (some ⟨bv, 0, none⟩), .pointer (some ⟨bp, 0, none⟩)]) 44 w0 bv bp W v xs →
    Calls Try.prog 29 #[.slice A0 l0.length c0, .int .i64 (i : Int), .pointer (some ⟨bv, 0, none⟩), .pointer (some ⟨bp, 0, none⟩)] W fun e W' => e = .returned (.tuple #[]) ∧ ∃ v', St (.func (.func 29) #[] #[.pointer (some ⟨bv, 0, none⟩), .pointer (some ⟨bp, 0, none⟩)]) 44 w0 bv bp W' v' (xs ++ pathB l0 i) := by
  intro n
  induction n using Nat.strongRecOn with
  | _ n ih =>
  intro A0 c0 l0 i w0 W bv bp v xs hn hd hi hx hr0 hc0 hst
  have HS := Aside0.mk hst
  clear hst
  rcases Nat.lt_or_ge l0.length 2 with h2 | h2
  · have c5b0 : ((l0.length : Int) == 1) = true := beq_iff_eq.mpr (by omega)
    rw [pathB_one l0 i h2, List.append_nil]
    clear ih hn hd hi hx hr0 hc0 h2
    go_enter Try.func29, Try.ntmps29
    go_wp2
    refine bodyPost_ret (results_none rfl _ _ _) rfl ?_
    exact ⟨rfl, v, HS.out⟩
  · rw [pathB_more l0 i h2]
    obtain ⟨A1, hC1, hcalls⟩ := halves_calls A0 c0 l0 hc0 h2 hd.1
    have p1 := spl_pos l0.length
    have p2 := spl_lt l0.length h2
    have hDt := hd.take (spl l0.length)
    have hDd := hd.drop (spl l0.length)
    have hlt : (l0.take (spl l0.length)).length = spl l0.length := by rw [List.length_take]; omega
    have hld : (l0.drop (spl l0.length)).length = l0.length - spl l0.length := List.length_drop
    have HRt : Aside0 (Kd.C Kd.string w0 A0 (l0.take (spl l0.length)).length (l0.take (spl l0.length))) := ⟨C_take A0 c0 l0 w0 (by omega) hc0 hr0⟩
    have HRd := Aside0.mk (hC1 w0 hr0)
    have HRoot := fun (A : Option Addr) (c : Nat) (l : List ByteArray) (hd : Dom l) (hc : l.length ≤ c) => Aside0.mk (fun W (h : Kd.C Kd.string W A l.length l) => root_calls l.length A c l W (Nat.le_refl _) hd h hc)
    have I15t := HRoot A0 (spl l0.length) _ hDt (by omega)
    have I15d := HRoot A1 (c0 - spl l0.length) _ hDd (by omega)
    have HH := Aside0.mk hcalls
    have c5b0 : ((l0.length : Int) == 1) = false := beq_eq_false_iff_ne.mpr (by omega)
    clear hcalls hC1 hr0 HRoot
    by_cases hik : i < spl l0.length
    · rw [if_pos hik]
      have c6b0 : decide ((i : Int) < ((l0.take (spl l0.length)).length : Int)) = true := decide_eq_true (by omega)
      have c6b1 : decide (i < (l0.take (spl l0.length)).length) = true := decide_eq_true (by omega)
      have IV := Aside0.mk (fun W v xs hx h => ih (l0.take (spl l0.length)).length (by omega) A0 (spl l0.length) (l0.take (spl l0.length)) i w0 W bv bp v xs (Nat.le_refl _) hDt (by omega) hx HRt.out (by omega) h)
      have hp1 := pathB_length _ (l0.take (spl l0.length)) i (Nat.le_refl _)
      have hx1 : xs.length + (l0.take (spl l0.length)).length ≤ 1000 := by omega
      have hx2 : (xs ++ pathB (l0.take (spl l0.length)) i).length ≤ 1000 := by rw [List.length_append]; omega
      rw [← List.append_assoc]
      generalize pathB (l0.take (spl l0.length)) i = ps at IV hp1 hx2 ⊢
      generalize rootB (l0.take (spl l0.length)) = rt at I15t ⊢
      generalize rootB (l0.drop (spl l0.length)) = rd at I15d ⊢
      generalize l0.take (spl l0.length) = lt at HRt I15t HH IV c6b0 c6b1 hx1
      generalize l0.drop (spl l0.length) = ld at HRd I15d HH
      generalize spl l0.length = k at *
      have HX1 := Aside0.mk hx1
      have HX := Aside0.mk hx2
      clear ih hn hd hi hx hc0 h2 p1 p2 hDt hDd hlt hld hik hp1 hx1 hx2
      go_enter Try.func29, Try.ntmps29
      have cV := HS.out.1.cell
      go_wp2_with (first
        | (go_at_call 30; (refine (HH.out _).mono ?_); rintro e w' ⟨rfl, ⟨nd, rfl⟩⟩; have n0_ := Aside0.mk (HS.out.step (pw_below_drewN (Below.refl _ _) nd)); clear HS cV; have HS := n0_; have cV := HS.out.1.cell; clear n0_)
        | (go_at_call 29; with_reducible refine (IV.out _ v xs HX1.out HS.out).mono ?_; clear HS cV; rintro e W1 ⟨rfl, v2, hs2⟩; have HS := Aside0.mk hs2; clear hs2))
      generalize hys : xs ++ ps = ys at HS HX
      clear IV HX1 HH HRt I15t
      have n0_ := Aside0.mk (HS.out.step (below_drew (Below.refl _ _)))
      clear HS
      have HS := n0_
      clear n0_
      refine start_ (n := 6) (S := fun w' => w'.cell? ⟨bp, 0, none⟩ = some v2) (ds := [5]) #[false, false, false, false, false, false] (by kernel_rfl) rfl rfl HS.out.2.1.cell (fun hHeld => ?_); refine with_tab (T := rtab .any (opsOf Try.f29 4)) rfl (fun HT_ => ?_)
      generalize W1.drew = W2 at HS hHeld ⊢
      refine take_ (i := 0) (N := some 24) (v := ?_) (a' := ?_) #[true, false, false, false, false, false] rfl rfl (take_of HT_.out (by kernel_rfl)) (fun _ _ _ h => h) (Or.inl ⟨by rfl, ?_⟩) hHeld ?_ ?_
      rotate_left
      · intro w' s0
        go_simp
        with_reducible rfl
      rotate_left
      · simp only [Act.put, List.setIfInBounds_toArray, List.set_cons_zero, List.set_cons_succ, i64_w, i32_w]
        rfl
      refine pure_ (i := 1) (N := some 25) (v := ?_) (a' := ?_) #[true, true, false, false, false, false] rfl rfl (any_of HT_.out (by kernel_rfl)) (fun _ _ _ h => h) (Or.inl ⟨by rfl, ?_⟩) ?_ ?_
      rotate_left
      · intro w'
        go_simp
        with_reducible rfl
      rotate_left
      · simp only [Act.put, List.setIfInBounds_toArray, List.set_cons_zero, List.set_cons_succ, i64_w, i32_w]
        rfl
      refine one_ (i := 2) (N := some 26) #[true, true, true, false, false, false] rfl rfl (one_of HT_.out (by kernel_rfl)) (by decide) (fun K hK => ?_)
      refine goes_ Try.func15 (by kernel_rfl) rfl #[.slice A1 ld.length (c0 - k)] (by rfl) rfl rfl (by (try simp only [List.map_toArray, List.map_cons, List.map_nil]); first | done | rfl) ?_
      have hC_ := Kd.C_below HRd.out HS.out.2.2.2.1
      with_reducible refine (I15d.out _ hC_).mono ?_
      rintro e W3 ⟨rfl, hb⟩
      refine ⟨_, rfl, ?_⟩
      have n0_ := Aside0.mk (HS.out.step hb)
      clear HS hb
      have HS := n0_
      clear n0_
      refine hK.out _ _ HS.out.2.1.cell (fun hHeld => ?_)
      clear hK K
      refine norm_ (a' := ?_) ?_ ?_
      rotate_left
      · show Act.put _ (some 26) _ = _
        simp only [Act.put, List.setIfInBounds_toArray, List.set_cons_zero, List.set_cons_succ, i64_w, i32_w]
        rfl
      refine one_ (i := 3) (N := some 27) #[true, true, true, true, false, false] rfl rfl (one_of HT_.out (by kernel_rfl)) (by decide) (fun K hK => ?_)
      refine value_ (w1 := ?_) (v := ?_) (by rfl) rfl ?_ ?_
      rotate_left 2
      · go_simp
        constructor
        · rfl
        · rfl
      refine hK.out _ _ (HS.out.2.1.alloc _).cell (fun hHeld => ?_)
      clear hK K
      refine norm_ (a' := ?_) ?_ ?_
      rotate_left
      · show Act.put _ (some 27) _ = _
        simp only [Act.put, List.setIfInBounds_toArray, List.set_cons_zero, List.set_cons_succ, i64_w, i32_w]
        rfl
      refine one_ (i := 4) (N := some 28) #[true, true, true, true, true, false] rfl rfl (one_of HT_.out (by kernel_rfl)) (by decide) (fun K hK => ?_)
      refine Kd.R_append_step Kd.string (w0 := w0) w0.heap.size (by rfl) (.tmp 24) (.tmp 27) 22 9 (.string ⟨#[]⟩) 16 rfl Try.underlying22 info9 rfl (by decide) (by omega) v2 ys rd [.string rd] (fun _ => True) (fun _ => False) rfl rfl rfl (fun _ hk => hk.elim) (fun _ _ => trivial) HS.out.2.2.1 HS.out.2.2.2.1 (below_size HS.out.2.2.2.1) (by have := HX.out; omega) ?_
      intro v1 W4 ho hbl hg hat
      obtain ⟨Av, cv, hv1, _, _⟩ := Kd.R_reads ho
      obtain ⟨mv, hmv⟩ : ∃ m_, v1 = .slice Av m_ cv := ⟨_, hv1⟩
      clear hv1
      subst hmv
      have HP := Aside0.mk (HS.out.push ho hbl hg)
      have HBX := Aside0.mk (HS.out.2.1.kept hg (HS.out.not_row))
      clear ho hbl hg hat
      refine hK.out _ _ HBX.out.cell (fun hHeld => ?_)
      clear hK K
      refine norm_ (a' := ?_) ?_ ?_
      rotate_left
      · show Act.put _ (some 28) _ = _
        simp only [Act.put, List.setIfInBounds_toArray, List.set_cons_zero, List.set_cons_succ, i64_w, i32_w]
        rfl
      refine last_ (i := 5) (N := none) #[true, true, true, true, true, true] rfl rfl (one_of HT_.out (by kernel_rfl)) (by decide) (fun K hK => ?_)
      have cO := HBX.out.cell
      have cF := HBX.out.frozen
      refine skip_ (w1 := W4.setCell ⟨bp, 0, none⟩ (.slice Av mv cv)) (by rfl) rfl ?_ ?_
      · go_simp
      refine hK.out _ _ ?_
      clear hK K cO cF HBX hHeld HS
      refine done_ (done_of HT_.out (by kernel_rfl)) ?_
      try go_wp2
      go_end0
      subst hys
      exact ⟨rfl, _, HP.out⟩
    · rw [if_neg hik]
      have c6b0 : decide ((i : Int) < ((l0.take (spl l0.length)).length : Int)) = false := decide_eq_false (by omega)
      have c6b1 : decide (i < (l0.take (spl l0.length)).length) = false := decide_eq_false (by omega)
      have hw : wrap64 ((i : Int) - ((l0.take (spl l0.length)).length : Int)) = ((i - spl l0.length : Nat) : Int) := by rw [wrap64]; have := hd.1; omega
      have IV := Aside0.mk (fun W v xs hx h => ih (l0.drop (spl l0.length)).length (by omega) A1 (c0 - spl l0.length) (l0.drop (spl l0.length)) (i - spl l0.length) w0 W bv bp v xs (Nat.le_refl _) hDd (by omega) hx HRd.out (by omega) h)
      have hp1 := pathB_length _ (l0.drop (spl l0.length)) (i - spl l0.length) (Nat.le_refl _)
      have hx1 : xs.length + (l0.drop (spl l0.length)).length ≤ 1000 := by omega
      have hx2 : (xs ++ pathB (l0.drop (spl l0.length)) (i - spl l0.length)).length ≤ 1000 := by rw [List.length_append]; omega
      rw [← List.append_assoc]
      generalize pathB (l0.drop (spl l0.length)) (i - spl l0.length) = ps at IV hp1 hx2 ⊢
      rw [← hw] at IV
      generalize rootB (l0.take (spl l0.length)) = rt at I15t ⊢
      generalize rootB (l0.drop (spl l0.length)) = rd at I15d ⊢
      generalize l0.take (spl l0.length) = lt at HRt I15t HH IV c6b0 c6b1 hx1 hw hlt hDt
      generalize l0.drop (spl l0.length) = ld at HRd I15d HH IV hx1 hld hDd hp1
      generalize spl l0.length = k at *
      have HX1 := Aside0.mk hx1
      have HX := Aside0.mk hx2
      clear ih hn hd hi hx hc0 h2 p1 p2 hDt hDd hlt hld hik hp1 hx1 hx2 hw
      go_enter Try.func29, Try.ntmps29
      have cV := HS.out.1.cell
      go_wp2_with (first
        | (go_at_call 30; (refine (HH.out _).mono ?_); rintro e w' ⟨rfl, ⟨nd, rfl⟩⟩; have n0_ := Aside0.mk (HS.out.step (pw_below_drewN (Below.refl _ _) nd)); clear HS cV; have HS := n0_; have cV := HS.out.1.cell; clear n0_)
        | (go_at_call 29; with_reducible refine (IV.out _ v xs HX1.out HS.out).mono ?_; clear HS cV; rintro e W1 ⟨rfl, v2, hs2⟩; have HS := Aside0.mk hs2; clear hs2))
      generalize hys : xs ++ ps = ys at HS HX
      clear IV HX1 HH HRd I15d
      have n0_ := Aside0.mk (HS.out.step (below_drew (Below.refl _ _)))
      clear HS
      have HS := n0_
      clear n0_
      refine start_ (n := 6) (S := fun w' => w'.cell? ⟨bp, 0, none⟩ = some v2) (ds := [5]) #[false, false, false, false, false, false] (by kernel_rfl) rfl rfl HS.out.2.1.cell (fun hHeld => ?_); refine with_tab (T := rtab .any (opsOf Try.f29 6)) rfl (fun HT_ => ?_)
      generalize W1.drew = W2 at HS hHeld ⊢
      refine take_ (i := 0) (N := some 36) (v := ?_) (a' := ?_) #[true, false, false, false, false, false] rfl rfl (take_of HT_.out (by kernel_rfl)) (fun _ _ _ h => h) (Or.inl ⟨by rfl, ?_⟩) hHeld ?_ ?_
      rotate_left
      · intro w' s0
        go_simp
        with_reducible rfl
      rotate_left
      · simp only [Act.put, List.setIfInBounds_toArray, List.set_cons_zero, List.set_cons_succ, i64_w, i32_w]
        rfl
      refine pure_ (i := 1) (N := some 37) (v := ?_) (a' := ?_) #[true, true, false, false, false, false] rfl rfl (any_of HT_.out (by kernel_rfl)) (fun _ _ _ h => h) (Or.inl ⟨by rfl, ?_⟩) ?_ ?_
      rotate_left
      · intro w'
        go_simp
        with_reducible rfl
      rotate_left
      · simp only [Act.put, List.setIfInBounds_toArray, List.set_cons_zero, List.set_cons_succ, i64_w, i32_w]
        rfl
      refine one_ (i := 2) (N := some 38) #[true, true, true, false, false, false] rfl rfl (one_of HT_.out (by kernel_rfl)) (by decide) (fun K hK => ?_)
      refine goes_ Try.func15 (by kernel_rfl) rfl #[.slice A0 lt.length k] (by rfl) rfl rfl (by (try simp only [List.map_toArray, List.map_cons, List.map_nil]); first | done | rfl) ?_
      have hC_ := Kd.C_below HRt.out HS.out.2.2.2.1
      with_reducible refine (I15t.out _ hC_).mono ?_
      rintro e W3 ⟨rfl, hb⟩
      refine ⟨_, rfl, ?_⟩
      have n0_ := Aside0.mk (HS.out.step hb)
      clear HS hb
      have HS := n0_
      clear n0_
      refine hK.out _ _ HS.out.2.1.cell (fun hHeld => ?_)
      clear hK K
      refine norm_ (a' := ?_) ?_ ?_
      rotate_left
      · show Act.put _ (some 38) _ = _
        simp only [Act.put, List.setIfInBounds_toArray, List.set_cons_zero, List.set_cons_succ, i64_w, i32_w]
        rfl
      refine one_ (i := 3) (N := some 39) #[true, true, true, true, false, false] rfl rfl (one_of HT_.out (by kernel_rfl)) (by decide) (fun K hK => ?_)
      refine value_ (w1 := ?_) (v := ?_) (by rfl) rfl ?_ ?_
      rotate_left 2
      · go_simp
        constructor
        · rfl
        · rfl
      refine hK.out _ _ (HS.out.2.1.alloc _).cell (fun hHeld => ?_)
      clear hK K
      refine norm_ (a' := ?_) ?_ ?_
      rotate_left
      · show Act.put _ (some 39) _ = _
        simp only [Act.put, List.setIfInBounds_toArray, List.set_cons_zero, List.set_cons_succ, i64_w, i32_w]
        rfl
      refine one_ (i := 4) (N := some 40) #[true, true, true, true, true, false] rfl rfl (one_of HT_.out (by kernel_rfl)) (by decide) (fun K hK => ?_)
      refine Kd.R_append_step Kd.string (w0 := w0) w0.heap.size (by rfl) (.tmp 36) (.tmp 39) 22 9 (.string ⟨#[]⟩) 16 rfl Try.underlying22 info9 rfl (by decide) (by omega) v2 ys rt [.string rt] (fun _ => True) (fun _ => False) rfl rfl rfl (fun _ hk => hk.elim) (fun _ _ => trivial) HS.out.2.2.1 HS.out.2.2.2.1 (below_size HS.out.2.2.2.1) (by have := HX.out; omega) ?_
      intro v1 W4 ho hbl hg hat
      obtain ⟨Av, cv, hv1, _, _⟩ := Kd.R_reads ho
      obtain ⟨mv, hmv⟩ : ∃ m_, v1 = .slice Av m_ cv := ⟨_, hv1⟩
      clear hv1
      subst hmv
      have HP := Aside0.mk (HS.out.push ho hbl hg)
      have HBX := Aside0.mk (HS.out.2.1.kept hg (HS.out.not_row))
      clear ho hbl hg hat
      refine hK.out _ _ HBX.out.cell (fun hHeld => ?_)
      clear hK K
      refine norm_ (a' := ?_) ?_ ?_
      rotate_left
      · show Act.put _ (some 40) _ = _
        simp only [Act.put, List.setIfInBounds_toArray, List.set_cons_zero, List.set_cons_succ, i64_w, i32_w]
        rfl
      refine last_ (i := 5) (N := none) #[true, true, true, true, true, true] rfl rfl (one_of HT_.out (by kernel_rfl)) (by decide) (fun K hK => ?_)
      have cO := HBX.out.cell
      have cF := HBX.out.frozen
      refine skip_ (w1 := W4.setCell ⟨bp, 0, none⟩ (.slice Av mv cv)) (by rfl) rfl ?_ ?_
      · go_simp
      refine hK.out _ _ ?_
      clear hK K cO cF HBX hHeld HS
      refine done_ (done_of HT_.out (by kernel_rfl)) ?_
      try go_wp2
      go_end0
      subst hys
      exact ⟨rfl, _, HP.out⟩
end Go.Proofs.Ytkhkppehdgkboaa.Mk
end PathV_
section LinkV_
namespace Go.Proofs.Ytkhkppehdgkboaa.Mk
open Go.RowKit Go.Proofs.Ytkhkppehdgkboaa.P Go.Proofs.YtkhkppehdgkboaaW.PrintWords Go.Proofs.YtkhkppehdgkboaaW.PrintLast Go.Proofs.YtkhkppehdgkboaaW.PrintMore
attribute [local go_sem] max2_int min2_int max_two min_two max_three min_three max_four min_four   -- for this text's walks alone
set_option linter.unusedVariables false
set_option linter.unusedSimpArgs false
/-- the link of a number -/
def linkF : Nat → List ByteArray → Nat → Bool → List ByteArray
  | 0, _, _, _ => []
  | n + 1, l, m, b => if m = l.length then (if b = true then [] else [rootB l]) else if l.length < 2 then [] else if m ≤ spl l.length then linkF n (l.take (spl l.length)) m b ++ [rootB (l.drop (spl l.length))] else linkF n (l.drop (spl l.length)) (m - spl l.length) false ++ [rootB (l.take (spl l.length))]
def linkB (l : List ByteArray) (m : Nat) (b : Bool) : List ByteArray := linkF (l.length + 1) l m b
theorem linkF_fuel : ∀ (n k : Nat) (l : List ByteArray) (m : Nat) (b : Bool), l.length < n → l.length < k → linkF n l m b = linkF k l m b
  | 0, _, _, _, _, h, _ => by omega
  | _, 0, _, _, _, _, h => by omega
  | n + 1, k + 1, l, m, b, h1, h2 => by
    rw [linkF, linkF]
    by_cases h0 : m = l.length
    · rw [if_pos h0, if_pos h0]
    rw [if_neg h0, if_neg h0]
    by_cases h3 : l.length < 2
    · rw [if_pos h3, if_pos h3]
    rw [if_neg h3, if_neg h3]
    have p1 := spl_pos l.length
    have p2 := spl_lt l.length (by omega)
    rw [linkF_fuel n k (l.take (spl l.length)) m b (by rw [List.length_take]; omega) (by rw [List.length_take]; omega), linkF_fuel n k (l.drop (spl l.length)) (m - spl l.length) false (by rw [List.length_drop]; omega) (by rw [List.length_drop]; omega)]
theorem linkB_eq (l : List ByteArray) (b : Bool) : linkB l l.length b = if b = true then [] else [rootB l] := by rw [linkB, linkF, if_pos rfl]
theorem linkB_more (l : List ByteArray) (m : Nat) (b : Bool) (h : 2 ≤ l.length) (hm : m ≠ l.length) : linkB l m b = if m ≤ spl l.length then linkB (l.take (spl l.length)) m b ++ [rootB (l.drop (spl l.length))] else linkB (l.drop (spl l.length)) (m - spl l.length) false ++ [rootB (l.take (spl l.length))] := by
  have p1 := spl_pos l.length
  have p2 := spl_lt l.length h
  rw [linkB, linkF, if_neg hm, if_neg (by omega), linkB, linkB, linkF_fuel l.length _ (l.take (spl l.length)) m b (by rw [List.length_take]; omega) (Nat.lt_succ_self _), linkF_fuel l.length _ (l.drop (spl l.length)) _ _ (by rw [List.length_drop]; omega) (Nat.lt_succ_self _)]
theorem linkB_length : ∀ (n : Nat) (l : List ByteArray) (m : Nat) (b : Bool), l.length ≤ n → (linkB l m b).length ≤ l.length + 1
  | n, l, m, b, h => by
    by_cases hm : m = l.length
    · subst hm; rw [linkB_eq]; split <;> simp
    rcases Nat.lt_or_ge l.length 2 with h2 | h2
    · rw [linkB, linkF, if_neg hm, if_pos h2]; simp
    match n, h with
    | n + 1, h =>
    have p1 := spl_pos l.length
    have p2 := spl_lt l.length h2
    have a := linkB_length n (l.take (spl l.length)) m b (by rw [List.length_take]; omega)
    have c := linkB_length n (l.drop (spl l.length)) (m - spl l.length) false (by rw [List.length_drop]; omega)
    rw [List.length_take] at a
    rw [List.length_drop] at c
    rw [linkB_more l m b h2 hm]
    split <;> simp only [List.length_append, List.length_cons, List.length_nil] <;> omega
    | 0, h => omega
/-- the contract of visit, for lists of at most n -/
def VisitL (n : Nat) : Prop := ∀ (A0 : Option Addr) (c0 : Nat) (l0 : List ByteArray) (m : Nat) (b : Bool) (w0 W : World) (bv bp : Nat) (v : Value) (xs : List ByteArray), l0.length ≤ n → Dom l0 → 1 ≤ m → m ≤ l0.length → xs.length + l0.length + 1 ≤ 1000 →
    Kd.C Kd.string w0 A0 l0.length l0 → l0.length ≤ c0 → St (.func (.func 31) #[] #[.pointer (some ⟨bp, 0, none⟩), .pointer (some ⟨bv, 0, none⟩)]) 47 w0 bv bp W v xs →
    Calls Try.prog 31 #[.slice A0 l0.length c0, .int .i64 (m : Int), .bool b, .pointer (some ⟨bp, 0, none⟩), .pointer (some ⟨bv, 0, none⟩)] W fun e W' => e = .returned (.tuple #[]) ∧ ∃ v', St (.func (.func 31) #[] #[.pointer (some ⟨bp, 0, none⟩), .pointer (some ⟨bv, 0, none⟩)]) 47 w0 bv bp W' v' (xs ++ linkB l0 m b)
set_option maxHeartbeats 4000000 in
set_option maxRecDepth 100000 in
theorem visit_link_eq_true (A0 : Option Addr) (c0 : Nat) (l0 : List ByteArray) (w0 W : World) (bv bp : Nat) (v : Value) (xs : List ByteArray) (hd : Dom l0) (hx : xs.length ≤ 1000)
    (hr0 : Kd.C Kd.string w0 A0 l0.length l0) (hc0 : l0.length ≤ c0) (hst : St (.func (.func 31) #[] #[.pointer (some ⟨bp, 0, none⟩), .pointer (some ⟨bv, 0, none⟩)]) 47 w0 bv bp W v xs) :
    Calls Try.prog 31 #[.slice A0 l0.length c0, .int .i64 (l0.length : Int), .bool true, .pointer (some ⟨bp, 0, none⟩), .pointer (some ⟨bv, 0, none⟩)] W fun e W' => e = .returned (.tuple #[]) ∧ ∃ v', St (.func (.func 31) #[] #[.pointer (some ⟨bp, 0, none⟩), .pointer (some ⟨bv, 0, none⟩)]) 47 w0 bv bp W' v' (xs ++ linkB l0 l0.length true) := by
  rw [linkB_eq]
  have HS := Aside0.mk hst
  clear hst
  have HRd := Aside0.mk hr0
  have I15d := Aside0.mk (fun W (h : Kd.C Kd.string W A0 l0.length l0) => root_calls l0.length A0 c0 l0 W (Nat.le_refl _) hd h hc0)
  have c5b0 : ((l0.length : Int) == (l0.length : Int)) = true := beq_iff_eq.mpr rfl
  have c5b1 : (l0.length == l0.length) = true := beq_iff_eq.mpr rfl
  have HX := Aside0.mk hx
  rw [if_pos rfl, List.append_nil]
  clear hd hx hr0 hc0 I15d HRd HX
  go_enter Try.func31, Try.ntmps31
  go_wp2
  refine bodyPost_ret (results_none rfl _ _ _) rfl ?_
  exact ⟨rfl, v, HS.out⟩
set_option maxHeartbeats 4000000 in
set_option maxRecDepth 100000 in
theorem visit_link_eq_false (A0 : Option Addr) (c0 : Nat) (l0 : List ByteArray) (w0 W : World) (bv bp : Nat) (v : Value) (xs : List ByteArray) (hd : Dom l0) (hx : xs.length ≤ 1000)
    (hr0 : Kd.C Kd.string w0 A0 l0.length l0) (hc0 : l0.length ≤ c0) (hst : St (.func (.func 31) #[] #[.pointer (some ⟨bp, 0, none⟩), .pointer (some ⟨bv, 0, none⟩)]) 47 w0 bv bp W v xs) :
    Calls Try.prog 31 #[.slice A0 l0.length c0, .int .i64 (l0.length : Int), .bool false, .pointer (some ⟨bp, 0, none⟩), .pointer (some ⟨bv, 0, none⟩)] W fun e W' => e = .returned (.tuple #[]) ∧ ∃ v', St (.func (.func 31) #[] #[.pointer (some ⟨bp, 0, none⟩), .pointer (some ⟨bv, 0, none⟩)]) 47 w0 bv bp W' v' (xs ++ linkB l0 l0.length false) := by
  rw [linkB_eq]
  have HS := Aside0.mk hst
  clear hst
  have HRd := Aside0.mk hr0
  have I15d := Aside0.mk (fun W (h : Kd.C Kd.string W A0 l0.length l0) => root_calls l0.length A0 c0 l0 W (Nat.le_refl _) hd h hc0)
  have c5b0 : ((l0.length : Int) == (l0.length : Int)) = true := beq_iff_eq.mpr rfl
  have c5b1 : (l0.length == l0.length) = true := beq_iff_eq.mpr rfl
  have HX := Aside0.mk hx
  rw [if_neg (by decide)]
  generalize rootB l0 = rd at I15d ⊢
  clear hd hx hr0 hc0
  go_enter Try.func31, Try.ntmps31
  go_wp2
  have n0_ := Aside0.mk (HS.out.step (below_drew (Below.refl _ _)))
  clear HS
  have HS := n0_
  clear n0_
  refine start_ (n := 6) (S := fun w' => w'.cell? ⟨bp, 0, none⟩ = some v) (ds := [5]) #[false, false, false, false, false, false] (by kernel_rfl) rfl rfl HS.out.2.1.cell (fun hHeld => ?_); refine with_tab (T := rtab .any (opsOf Try.f31 2)) rfl (fun HT_ => ?_)
  refine take_ (i := 0) (N := some 16) (v := ?_) (a' := ?_) #[true, false, false, false, false, false] rfl rfl (take_of HT_.out (by kernel_rfl)) (fun _ _ _ h => h) (Or.inl ⟨by rfl, ?_⟩) hHeld ?_ ?_
  rotate_left
  · intro w' s0
    go_simp
    with_reducible rfl
  rotate_left
  · simp only [Act.put, List.setIfInBounds_toArray, List.set_cons_zero, List.set_cons_succ, i64_w, i32_w]
    rfl
  refine pure_ (i := 1) (N := some 17) (v := ?_) (a' := ?_) #[true, true, false, false, false, false] rfl rfl (any_of HT_.out (by kernel_rfl)) (fun _ _ _ h => h) (Or.inl ⟨by rfl, ?_⟩) ?_ ?_
  rotate_left
  · intro w'
    go_simp
    with_reducible rfl
  rotate_left
  · simp only [Act.put, List.setIfInBounds_toArray, List.set_cons_zero, List.set_cons_succ, i64_w, i32_w]
    rfl
  refine one_ (i := 2) (N := some 18) #[true, true, true, false, false, false] rfl rfl (one_of HT_.out (by kernel_rfl)) (by decide) (fun K hK => ?_)
  refine goes_ Try.func15 (by kernel_rfl) rfl #[.slice A0 l0.length c0] (by rfl) rfl rfl (by (try simp only [List.map_toArray, List.map_cons, List.map_nil]); first | done | rfl) ?_
  have hC_ := Kd.C_below HRd.out HS.out.2.2.2.1
  with_reducible refine (I15d.out _ hC_).mono ?_
  rintro e W3 ⟨rfl, hb⟩
  refine ⟨_, rfl, ?_⟩
  have n0_ := Aside0.mk (HS.out.step hb)
  clear HS hb
  have HS := n0_
  clear n0_
  refine hK.out _ _ HS.out.2.1.cell (fun hHeld => ?_)
  clear hK K
  refine norm_ (a' := ?_) ?_ ?_
  rotate_left
  · show Act.put _ (some 18) _ = _
    simp only [Act.put, List.setIfInBounds_toArray, List.set_cons_zero, List.set_cons_succ, i64_w, i32_w]
    rfl
  refine one_ (i := 3) (N := some 19) #[true, true, true, true, false, false] rfl rfl (one_of HT_.out (by kernel_rfl)) (by decide) (fun K hK => ?_)
  refine value_ (w1 := ?_) (v := ?_) (by rfl) rfl ?_ ?_
  rotate_left 2
  · go_simp
    constructor
    · rfl
    · rfl
  refine hK.out _ _ (HS.out.2.1.alloc _).cell (fun hHeld => ?_)
  clear hK K
  refine norm_ (a' := ?_) ?_ ?_
  rotate_left
  · show Act.put _ (some 19) _ = _
    simp only [Act.put, List.setIfInBounds_toArray, List.set_cons_zero, List.set_cons_succ, i64_w, i32_w]
    rfl
  refine one_ (i := 4) (N := some 20) #[true, true, true, true, true, false] rfl rfl (one_of HT_.out (by kernel_rfl)) (by decide) (fun K hK => ?_)
  refine Kd.R_append_step Kd.string (w0 := w0) w0.heap.size (by rfl) (.tmp 16) (.tmp 19) 22 9 (.string ⟨#[]⟩) 16 rfl Try.underlying22 info9 rfl (by decide) (by omega) v xs rd [.string rd] (fun _ => True) (fun _ => False) rfl rfl rfl (fun _ hk => hk.elim) (fun _ _ => trivial) HS.out.2.2.1 HS.out.2.2.2.1 (below_size HS.out.2.2.2.1) (by have := HX.out; omega) ?_
  intro v1 W4 ho hbl hg hat
  obtain ⟨Av, cv, hv1, _, _⟩ := Kd.R_reads ho
  obtain ⟨mv, hmv⟩ : ∃ m_, v1 = .slice Av m_ cv := ⟨_, hv1⟩
  clear hv1
  subst hmv
  have HP := Aside0.mk (HS.out.push ho hbl hg)
  have HBX := Aside0.mk (HS.out.2.1.kept hg (HS.out.not_row))
  clear ho hbl hg hat
  refine hK.out _ _ HBX.out.cell (fun hHeld => ?_)
  clear hK K
  refine norm_ (a' := ?_) ?_ ?_
  rotate_left
  · show Act.put _ (some 20) _ = _
    simp only [Act.put, List.setIfInBounds_toArray, List.set_cons_zero, List.set_cons_succ, i64_w, i32_w]
    rfl
  refine last_ (i := 5) (N := none) #[true, true, true, true, true, true] rfl rfl (one_of HT_.out (by kernel_rfl)) (by decide) (fun K hK => ?_)
  have cO := HBX.out.cell
  have cF := HBX.out.frozen
  refine skip_ (w1 := W4.setCell ⟨bp, 0, none⟩ (.slice Av mv cv)) (by rfl) rfl ?_ ?_
  · go_simp
  refine hK.out _ _ ?_
  clear hK K cO cF HBX hHeld HS
  refine done_ (done_of HT_.out (by kernel_rfl)) ?_
  try go_wp2
  refine bodyPost_ret (results_none rfl _ _ _) rfl ?_
  exact ⟨rfl, _, HP.out⟩
set_option maxHeartbeats 4000000 in
set_option maxRecDepth 100000 in
theorem visit_link_more_true (n : Nat) (ih : ∀ k < n, VisitL k) (A0 : Option Addr) (c0 : Nat) (l0 : List ByteArray) (m : Nat) (w0 W : World) (bv bp : Nat) (v : Value) (xs : List ByteArray) (hn : l0.length ≤ n) (hd : Dom l0) (hi1 : 1 ≤ m) (hi : m ≤ l0.length) (hx : xs.length + l0.length + 1 ≤ 1000)
    (hr0 : Kd.C Kd.string w0 A0 l0.length l0) (hc0 : l0.length ≤ c0) (hst : St (.func (.func 31) #[] #[.pointer (some ⟨bp, 0, none⟩), .pointer (some ⟨bv, 0, none⟩)]) 47 w0 bv bp W v xs) (hm : m ≠ l0.length) (h2 : 2 ≤ l0.length) :
    Calls Try.prog 31 #[.slice A0 l0.length c0, .int .i64 (m : Int), .bool true, .pointer (some ⟨bp, 0, none⟩), .pointer (some ⟨bv, 0, none⟩)] W fun e W' => e = .returned (.tuple #[]) ∧ ∃ v', St (.func (.func 31) #[] #[.pointer (some ⟨bp, 0, none⟩), .pointer (some ⟨bv, 0, none⟩)]) 47 w0 bv bp W' v' (xs ++ linkB l0 m true) := by
    have HS := Aside0.mk hst
    clear hst
    rw [linkB_more l0 m true h2 hm]
    obtain ⟨A1, hC1, hcalls⟩ := halves_calls A0 c0 l0 hc0 h2 hd.1
    have p1 := spl_pos l0.length
    have p2 := spl_lt l0.length h2
    have hDt := hd.take (spl l0.length)
    have hDd := hd.drop (spl l0.length)
    have hlt : (l0.take (spl l0.length)).length = spl l0.length := by rw [List.length_take]; omega
    have hld : (l0.drop (spl l0.length)).length = l0.length - spl l0.length := List.length_drop
    have HRt : Aside0 (Kd.C Kd.string w0 A0 (l0.take (spl l0.length)).length (l0.take (spl l0.length))) := ⟨C_take A0 c0 l0 w0 (by omega) hc0 hr0⟩
    have HRd := Aside0.mk (hC1 w0 hr0)
    have HRoot := fun (A : Option Addr) (c : Nat) (l : List ByteArray) (hd : Dom l) (hc : l.length ≤ c) => Aside0.mk (fun W (h : Kd.C Kd.string W A l.length l) => root_calls l.length A c l W (Nat.le_refl _) hd h hc)
    have I15t := HRoot A0 (spl l0.length) _ hDt (by omega)
    have I15d := HRoot A1 (c0 - spl l0.length) _ hDd (by omega)
    have HH := Aside0.mk hcalls
    have c5b0 : ((m : Int) == (l0.length : Int)) = false := beq_eq_false_iff_ne.mpr (by omega)
    have c5b1 : (m == l0.length) = false := beq_eq_false_iff_ne.mpr hm
    clear hcalls hC1 hr0 HRoot
    by_cases hik : m ≤ spl l0.length
    · rw [if_pos hik]
      have c6b0 : decide ((m : Int) ≤ ((l0.take (spl l0.length)).length : Int)) = true := decide_eq_true (by omega)
      have c6b1 : decide (m ≤ (l0.take (spl l0.length)).length) = true := decide_eq_true (by omega)
      have IV := Aside0.mk (fun W v xs hx h => ih (l0.take (spl l0.length)).length (by omega) A0 (spl l0.length) (l0.take (spl l0.length)) m true w0 W bv bp v xs (Nat.le_refl _) hDt (by omega) (by omega) hx HRt.out (by omega) h)
      have hp1 := linkB_length _ (l0.take (spl l0.length)) m true (Nat.le_refl _)
      have hx1 : xs.length + (l0.take (spl l0.length)).length + 1 ≤ 1000 := by omega
      have hx2 : (xs ++ linkB (l0.take (spl l0.length)) m true).length ≤ 1000 := by rw [List.length_append]; omega
      rw [← List.append_assoc]
      generalize linkB (l0.take (spl l0.length)) m true = ps at IV hp1 hx2 ⊢
      generalize rootB (l0.take (spl l0.length)) = rt at I15t ⊢
      generalize rootB (l0.drop (spl l0.length)) = rd at I15d ⊢
      generalize l0.take (spl l0.length) = lt at HRt I15t HH IV c6b0 c6b1 hx1 hlt hDt hp1
      generalize l0.drop (spl l0.length) = ld at HRd I15d HH hld hDd
      generalize spl l0.length = k at *
      have HX1 := Aside0.mk hx1
      have HX := Aside0.mk hx2
      clear ih hn hd hi hi1 hx hc0 hm h2 p1 p2 hDt hDd hlt hld hik hp1 hx1 hx2
      go_enter Try.func31, Try.ntmps31
      have cV := HS.out.1.cell
      go_wp2_with (first
        | (go_at_call 30; (refine (HH.out _).mono ?_); rintro e w' ⟨rfl, ⟨nd, rfl⟩⟩; have n0_ := Aside0.mk (HS.out.step (pw_below_drewN (Below.refl _ _) nd)); clear HS cV; have HS := n0_; have cV := HS.out.1.cell; clear n0_)
        | (go_at_call 31; with_reducible refine (IV.out _ v xs HX1.out HS.out).mono ?_; clear HS cV; rintro e W1 ⟨rfl, v2, hs2⟩; have HS := Aside0.mk hs2; clear hs2))
      generalize hys : xs ++ ps = ys at HS HX
      clear IV HX1 HH HRt I15t
      have n0_ := Aside0.mk (HS.out.step (below_drew (Below.refl _ _)))
      clear HS
      have HS := n0_
      clear n0_
      refine start_ (n := 6) (S := fun w' => w'.cell? ⟨bp, 0, none⟩ = some v2) (ds := [5]) #[false, false, false, false, false, false] (by kernel_rfl) rfl rfl HS.out.2.1.cell (fun hHeld => ?_); refine with_tab (T := rtab .any (opsOf Try.f31 6)) rfl (fun HT_ => ?_)
      generalize W1.drew = W2 at HS hHeld ⊢
      refine take_ (i := 0) (N := some 35) (v := ?_) (a' := ?_) #[true, false, false, false, false, false] rfl rfl (take_of HT_.out (by kernel_rfl)) (fun _ _ _ h => h) (Or.inl ⟨by rfl, ?_⟩) hHeld ?_ ?_
      rotate_left
      · intro w' s0
        go_simp
        with_reducible rfl
      rotate_left
      · simp only [Act.put, List.setIfInBounds_toArray, List.set_cons_zero, List.set_cons_succ, i64_w, i32_w]
        rfl
      refine pure_ (i := 1) (N := some 36) (v := ?_) (a' := ?_) #[true, true, false, false, false, false] rfl rfl (any_of HT_.out (by kernel_rfl)) (fun _ _ _ h => h) (Or.inl ⟨by rfl, ?_⟩) ?_ ?_
      rotate_left
      · intro w'
        go_simp
        with_reducible rfl
      rotate_left
      · simp only [Act.put, List.setIfInBounds_toArray, List.set_cons_zero, List.set_cons_succ, i64_w, i32_w]
        rfl
      refine one_ (i := 2) (N := some 37) #[true, true, true, false, false, false] rfl rfl (one_of HT_.out (by kernel_rfl)) (by decide) (fun K hK => ?_)
      refine goes_ Try.func15 (by kernel_rfl) rfl #[.slice A1 ld.length (c0 - k)] (by rfl) rfl rfl (by (try simp only [List.map_toArray, List.map_cons, List.map_nil]); first | done | rfl) ?_
      have hC_ := Kd.C_below HRd.out HS.out.2.2.2.1
      with_reducible refine (I15d.out _ hC_).mono ?_
      rintro e W3 ⟨rfl, hb⟩
      refine ⟨_, rfl, ?_⟩
      have n0_ := Aside0.mk (HS.out.step hb)
      clear HS hb
      have HS := n0_
      clear n0_
      refine hK.out _ _ HS.out.2.1.cell (fun hHeld => ?_)
      clear hK K
      refine norm_ (a' := ?_) ?_ ?_
      rotate_left
      · show Act.put _ (some 37) _ = _
        simp only [Act.put, List.setIfInBounds_toArray, List.set_cons_zero, List.set_cons_succ, i64_w, i32_w]
        rfl
      refine one_ (i := 3) (N := some 38) #[true, true, true, true, false, false] rfl rfl (one_of HT_.out (by kernel_rfl)) (by decide) (fun K hK => ?_)
      refine value_ (w1 := ?_) (v := ?_) (by rfl) rfl ?_ ?_
      rotate_left 2
      · go_simp
        constructor
        · rfl
        · rfl
      refine hK.out _ _ (HS.out.2.1.alloc _).cell (fun hHeld => ?_)
      clear hK K
      refine norm_ (a' := ?_) ?_ ?_
      rotate_left
      · show Act.put _ (some 38) _ = _
        simp only [Act.put, List.setIfInBounds_toArray, List.set_cons_zero, List.set_cons_succ, i64_w, i32_w]
        rfl
      refine one_ (i := 4) (N := some 39) #[true, true, true, true, true, false] rfl rfl (one_of HT_.out (by kernel_rfl)) (by decide) (fun K hK => ?_)
      refine Kd.R_append_step Kd.string (w0 := w0) w0.heap.size (by rfl) (.tmp 35) (.tmp 38) 22 9 (.string ⟨#[]⟩) 16 rfl Try.underlying22 info9 rfl (by decide) (by omega) v2 ys rd [.string rd] (fun _ => True) (fun _ => False) rfl rfl rfl (fun _ hk => hk.elim) (fun _ _ => trivial) HS.out.2.2.1 HS.out.2.2.2.1 (below_size HS.out.2.2.2.1) (by have := HX.out; omega) ?_
      intro v1 W4 ho hbl hg hat
      obtain ⟨Av, cv, hv1, _, _⟩ := Kd.R_reads ho
      obtain ⟨mv, hmv⟩ : ∃ m_, v1 = .slice Av m_ cv := ⟨_, hv1⟩
      clear hv1
      subst hmv
      have HP := Aside0.mk (HS.out.push ho hbl hg)
      have HBX := Aside0.mk (HS.out.2.1.kept hg (HS.out.not_row))
      clear ho hbl hg hat
      refine hK.out _ _ HBX.out.cell (fun hHeld => ?_)
      clear hK K
      refine norm_ (a' := ?_) ?_ ?_
      rotate_left
      · show Act.put _ (some 39) _ = _
        simp only [Act.put, List.setIfInBounds_toArray, List.set_cons_zero, List.set_cons_succ, i64_w, i32_w]
        rfl
      refine last_ (i := 5) (N := none) #[true, true, true, true, true, true] rfl rfl (one_of HT_.out (by kernel_rfl)) (by decide) (fun K hK => ?_)
      have cO := HBX.out.cell
      have cF := HBX.out.frozen
      refine skip_ (w1 := W4.setCell ⟨bp, 0, none⟩ (.slice Av mv cv)) (by rfl) rfl ?_ ?_
      · go_simp
      refine hK.out _ _ ?_
      clear hK K cO cF HBX hHeld HS
      refine done_ (done_of HT_.out (by kernel_rfl)) ?_
      try go_wp2
      go_end0
      subst hys
      exact ⟨rfl, _, HP.out⟩
    · rw [if_neg hik]
      have c6b0 : decide ((m : Int) ≤ ((l0.take (spl l0.length)).length : Int)) = false := decide_eq_false (by omega)
      have c6b1 : decide (m ≤ (l0.take (spl l0.length)).length) = false := decide_eq_false (by omega)
      have hw : wrap64 ((m : Int) - ((l0.take (spl l0.length)).length : Int)) = ((m - spl l0.length : Nat) : Int) := by rw [wrap64]; have := hd.1; omega
      have IV := Aside0.mk (fun W v xs hx h => ih (l0.drop (spl l0.length)).length (by omega) A1 (c0 - spl l0.length) (l0.drop (spl l0.length)) (m - spl l0.length) false w0 W bv bp v xs (Nat.le_refl _) hDd (by omega) (by omega) hx HRd.out (by omega) h)
      have hp1 := linkB_length _ (l0.drop (spl l0.length)) (m - spl l0.length) false (Nat.le_refl _)
      have hx1 : xs.length + (l0.drop (spl l0.length)).length + 1 ≤ 1000 := by omega
      have hx2 : (xs ++ linkB (l0.drop (spl l0.length)) (m - spl l0.length) false).length ≤ 1000 := by rw [List.length_append]; omega
      rw [← List.append_assoc]
      generalize linkB (l0.drop (spl l0.length)) (m - spl l0.length) false = ps at IV hp1 hx2 ⊢
      rw [← hw] at IV
      generalize rootB (l0.take (spl l0.length)) = rt at I15t ⊢
      generalize rootB (l0.drop (spl l0.length)) = rd at I15d ⊢
      generalize l0.take (spl l0.length) = lt at HRt I15t HH IV c6b0 c6b1 hw hlt hDt
      generalize l0.drop (spl l0.length) = ld at HRd I15d HH IV hx1 hld hDd hp1
      generalize spl l0.length = k at *
      have HX1 := Aside0.mk hx1
      have HX := Aside0.mk hx2
      clear ih hn hd hi hi1 hx hc0 hm h2 p1 p2 hDt hDd hlt hld hik hp1 hx1 hx2 hw
      go_enter Try.func31, Try.ntmps31
      have cV := HS.out.1.cell
      go_wp2_with (first
        | (go_at_call 30; (refine (HH.out _).mono ?_); rintro e w' ⟨rfl, ⟨nd, rfl⟩⟩; have n0_ := Aside0.mk (HS.out.step (pw_below_drewN (Below.refl _ _) nd)); clear HS cV; have HS := n0_; have cV := HS.out.1.cell; clear n0_)
        | (go_at_call 31; with_reducible refine (IV.out _ v xs HX1.out HS.out).mono ?_; clear HS cV; rintro e W1 ⟨rfl, v2, hs2⟩; have HS := Aside0.mk hs2; clear hs2))
      generalize hys : xs ++ ps = ys at HS HX
      clear IV HX1 HH HRd I15d
      have n0_ := Aside0.mk (HS.out.step (below_drew (Below.refl _ _)))
      clear HS
      have HS := n0_
      clear n0_
      refine start_ (n := 6) (S := fun w' => w'.cell? ⟨bp, 0, none⟩ = some v2) (ds := [5]) #[false, false, false, false, false, false] (by kernel_rfl) rfl rfl HS.out.2.1.cell (fun hHeld => ?_); refine with_tab (T := rtab .any (opsOf Try.f31 8)) rfl (fun HT_ => ?_)
      generalize W1.drew = W2 at HS hHeld ⊢
      refine take_ (i := 0) (N := some 47) (v := ?_) (a' := ?_) #[true, false, false, false, false, false] rfl rfl (take_of HT_.out (by kernel_rfl)) (fun _ _ _ h => h) (Or.inl ⟨by rfl, ?_⟩) hHeld ?_ ?_
      rotate_left
      · intro w' s0
        go_simp
        with_reducible rfl
      rotate_left
      · simp only [Act.put, List.setIfInBounds_toArray, List.set_cons_zero, List.set_cons_succ, i64_w, i32_w]
        rfl
      refine pure_ (i := 1) (N := some 48) (v := ?_) (a' := ?_) #[true, true, false, false, false, false] rfl rfl (any_of HT_.out (by kernel_rfl)) (fun _ _ _ h => h) (Or.inl ⟨by rfl, ?_⟩) ?_ ?_
      rotate_left
      · intro w'
        go_simp
        with_reducible rfl
      rotate_left
      · simp only [Act.put, List.setIfInBounds_toArray, List.set_cons_zero, List.set_cons_succ, i64_w, i32_w]
        rfl
      refine one_ (i := 2) (N := some 49) #[true, true, true, false, false, false] rfl rfl (one_of HT_.out (by kernel_rfl)) (by decide) (fun K hK => ?_)
      refine goes_ Try.func15 (by kernel_rfl) rfl #[.slice A0 lt.length k] (by rfl) rfl rfl (by (try simp only [List.map_toArray, List.map_cons, List.map_nil]); first | done | rfl) ?_
      have hC_ := Kd.C_below HRt.out HS.out.2.2.2.1
      with_reducible refine (I15t.out _ hC_).mono ?_
      rintro e W3 ⟨rfl, hb⟩
      refine ⟨_, rfl, ?_⟩
      have n0_ := Aside0.mk (HS.out.step hb)
      clear HS hb
      have HS := n0_
      clear n0_
      refine hK.out _ _ HS.out.2.1.cell (fun hHeld => ?_)
      clear hK K
      refine norm_ (a' := ?_) ?_ ?_
      rotate_left
      · show Act.put _ (some 49) _ = _
        simp only [Act.put, List.setIfInBounds_toArray, List.set_cons_zero, List.set_cons_succ, i64_w, i32_w]
        rfl
      refine one_ (i := 3) (N := some 50) #[true, true, true, true, false, false] rfl rfl (one_of HT_.out (by kernel_rfl)) (by decide) (fun K hK => ?_)
      refine value_ (w1 := ?_) (v := ?_) (by rfl) rfl ?_ ?_
      rotate_left 2
      · go_simp
        constructor
        · rfl
        · rfl
      refine hK.out _ _ (HS.out.2.1.alloc _).cell (fun hHeld => ?_)
      clear hK K
      refine norm_ (a' := ?_) ?_ ?_
      rotate_left
      · show Act.put _ (some 50) _ = _
        simp only [Act.put, List.setIfInBounds_toArray, List.set_cons_zero, List.set_cons_succ, i64_w, i32_w]
        rfl
      refine one_ (i := 4) (N := some 51) #[true, true, true, true, true, false] rfl rfl (one_of HT_.out (by kernel_rfl)) (by decide) (fun K hK => ?_)
      refine Kd.R_append_step Kd.string (w0 := w0) w0.heap.size (by rfl) (.tmp 47) (.tmp 50) 22 9 (.string ⟨#[]⟩) 16 rfl Try.underlying22 info9 rfl (by decide) (by omega) v2 ys rt [.string rt] (fun _ => True) (fun _ => False) rfl rfl rfl (fun _ hk => hk.elim) (fun _ _ => trivial) HS.out.2.2.1 HS.out.2.2.2.1 (below_size HS.out.2.2.2.1) (by have := HX.out; omega) ?_
      intro v1 W4 ho hbl hg hat
      obtain ⟨Av, cv, hv1, _, _⟩ := Kd.R_reads ho
      obtain ⟨mv, hmv⟩ : ∃ m_, v1 = .slice Av m_ cv := ⟨_, hv1⟩
      clear hv1
      subst hmv
      have HP := Aside0.mk (HS.out.push ho hbl hg)
      have HBX := Aside0.mk (HS.out.2.1.kept hg (HS.out.not_row))
      clear ho hbl hg hat
      refine hK.out _ _ HBX.out.cell (fun hHeld => ?_)
      clear hK K
      refine norm_ (a' := ?_) ?_ ?_
      rotate_left
      · show Act.put _ (some 51) _ = _
        simp only [Act.put, List.setIfInBounds_toArray, List.set_cons_zero, List.set_cons_succ, i64_w, i32_w]
        rfl
      refine last_ (i := 5) (N := none) #[true, true, true, true, true, true] rfl rfl (one_of HT_.out (by kernel_rfl)) (by decide) (fun K hK => ?_)
      have cO := HBX.out.cell
      have cF := HBX.out.frozen
      refine skip_ (w1 := W4.setCell ⟨bp, 0, none⟩ (.slice Av mv cv)) (by rfl) rfl ?_ ?_
      · go_simp
      refine hK.out _ _ ?_
      clear hK K cO cF HBX hHeld HS
      refine done_ (done_of HT_.out (by kernel_rfl)) ?_
      try go_wp2
      go_end0
      subst hys
      exact ⟨rfl, _, HP.out⟩
set_option maxHeartbeats 4000000 in
set_option maxRecDepth 100000 in
theorem visit_link_more_false (n : Nat) (ih : ∀ k < n, VisitL k) (A0 : Option Addr) (c0 : Nat) (l0 : List ByteArray) (m : Nat) (w0 W : World) (bv bp : Nat) (v : Value) (xs : List ByteArray) (hn : l0.length ≤ n) (hd : Dom l0) (hi1 : 1 ≤ m) (hi : m ≤ l0.length) (hx : xs.length + l0.length + 1 ≤ 1000)
    (hr0 : Kd.C Kd.string w0 A0 l0.length l0) (hc0 : l0.length ≤ c0) (hst : St (.func (.func 31) #[] #[.pointer (some ⟨bp, 0, none⟩), .pointer (some ⟨bv, 0, none⟩)]) 47 w0 bv bp W v xs) (hm : m ≠ l0.length) (h2 : 2 ≤ l0.length) :
    Calls Try.prog 31 #[.slice A0 l0.length c0, .int .i64 (m : Int), .bool false, .pointer (some ⟨bp, 0, none⟩), .pointer (some ⟨bv, 0, none⟩)] W fun e W' => e = .returned (.tuple #[]) ∧ ∃ v', St (.func (.func 31) #[] #[.pointer (some ⟨bp, 0, none⟩), .pointer (some ⟨bv, 0, none⟩)]) 47 w0 bv bp W' v' (xs ++ linkB l0 m false) := by
    have HS := Aside0.mk hst
    clear hst
    rw [linkB_more l0 m false h2 hm]
    obtain ⟨A1, hC1, hcalls⟩ := halves_calls A0 c0 l0 hc0 h2 hd.1
    have p1 := spl_pos l0.length
    have p2 := spl_lt l0.length h2
    have hDt := hd.take (spl l0.length)
    have hDd := hd.drop (spl l0.length)
    have hlt : (l0.take (spl l0.length)).length = spl l0.length := by rw [List.length_take]; omega
    have hld : (l0.drop (spl l0.length)).length = l0.length - spl l0.length := List.length_drop
    have HRt : Aside0 (Kd.C Kd.string w0 A0 (l0.take (spl l0.length)).length (l0.take (spl l0.length))) := ⟨C_take A0 c0 l0 w0 (by omega) hc0 hr0⟩
    have HRd := Aside0.mk (hC1 w0 hr0)
    have HRoot := fun (A : Option Addr) (c : Nat) (l : List ByteArray) (hd : Dom l) (hc : l.length ≤ c) => Aside0.mk (fun W (h : Kd.C Kd.string W A l.length l) => root_calls l.length A c l W (Nat.le_refl _) hd h hc)
    have I15t := HRoot A0 (spl l0.length) _ hDt (by omega)
    have I15d := HRoot A1 (c0 - spl l0.length) _ hDd (by omega)
    have HH := Aside0.mk hcalls
    have c5b0 : ((m : Int) == (l0.length : Int)) = false := beq_eq_false_iff_ne.mpr (by omega)
    have c5b1 : (m == l0.length) = false := beq_eq_false_iff_ne.mpr hm
    clear hcalls hC1 hr0 HRoot
    by_cases hik : m ≤ spl l0.length
    · rw [if_pos hik]
      have c6b0 : decide ((m : Int) ≤ ((l0.take (spl l0.length)).length : Int)) = true := decide_eq_true (by omega)
      have c6b1 : decide (m ≤ (l0.take (spl l0.length)).length) = true := decide_eq_true (by omega)
      have IV := Aside0.mk (fun W v xs hx h => ih (l0.take (spl l0.length)).length (by omega) A0 (spl l0.length) (l0.take (spl l0.length)) m false w0 W bv bp v xs (Nat.le_refl _) hDt (by omega) (by omega) hx HRt.out (by omega) h)
      have hp1 := linkB_length _ (l0.take (spl l0.length)) m false (Nat.le_refl _)
      have hx1 : xs.length + (l0.take (spl l0.length)).length + 1 ≤ 1000 := by omega
      have hx2 : (xs ++ linkB (l0.take (spl l0.length)) m false).length ≤ 1000 := by rw [List.length_append]; omega
      rw [← List.append_assoc]
      generalize linkB (l0.take (spl l0.length)) m false = ps at IV hp1 hx2 ⊢
      generalize rootB (l0.take (spl l0.length)) = rt at I15t ⊢
      generalize rootB (l0.drop (spl l0.length)) = rd at I15d ⊢
      generalize l0.take (spl l0.length) = lt at HRt I15t HH IV c6b0 c6b1 hx1 hlt hDt hp1
      generalize l0.drop (spl l0.length) = ld at HRd I15d HH hld hDd
      generalize spl l0.length = k at *
      have HX1 := Aside0.mk hx1
      have HX := Aside0.mk hx2
      clear ih hn hd hi hi1 hx hc0 hm h2 p1 p2 hDt hDd hlt hld hik hp1 hx1 hx2
      go_enter Try.func31, Try.ntmps31
      have cV := HS.out.1.cell
      go_wp2_with (first
        | (go_at_call 30; (refine (HH.out _).mono ?_); rintro e w' ⟨rfl, ⟨nd, rfl⟩⟩; have n0_ := Aside0.mk (HS.out.step (pw_below_drewN (Below.refl _ _) nd)); clear HS cV; have HS := n0_; have cV := HS.out.1.cell; clear n0_)
        | (go_at_call 31; with_reducible refine (IV.out _ v xs HX1.out HS.out).mono ?_; clear HS cV; rintro e W1 ⟨rfl, v2, hs2⟩; have HS := Aside0.mk hs2; clear hs2))
      generalize hys : xs ++ ps = ys at HS HX
      clear IV HX1 HH HRt I15t
      have n0_ := Aside0.mk (HS.out.step (below_drew (Below.refl _ _)))
      clear HS
      have HS := n0_
      clear n0_
      refine start_ (n := 6) (S := fun w' => w'.cell? ⟨bp, 0, none⟩ = some v2) (ds := [5]) #[false, false, false, false, false, false] (by kernel_rfl) rfl rfl HS.out.2.1.cell (fun hHeld => ?_); refine with_tab (T := rtab .any (opsOf Try.f31 6)) rfl (fun HT_ => ?_)
      generalize W1.drew = W2 at HS hHeld ⊢
      refine take_ (i := 0) (N := some 35) (v := ?_) (a' := ?_) #[true, false, false, false, false, false] rfl rfl (take_of HT_.out (by kernel_rfl)) (fun _ _ _ h => h) (Or.inl ⟨by rfl, ?_⟩) hHeld ?_ ?_
      rotate_left
      · intro w' s0
        go_simp
        with_reducible rfl
      rotate_left
      · simp only [Act.put, List.setIfInBounds_toArray, List.set_cons_zero, List.set_cons_succ, i64_w, i32_w]
        rfl
      refine pure_ (i := 1) (N := some 36) (v := ?_) (a' := ?_) #[true, true, false, false, false, false] rfl rfl (any_of HT_.out (by kernel_rfl)) (fun _ _ _ h => h) (Or.inl ⟨by rfl, ?_⟩) ?_ ?_
      rotate_left
      · intro w'
        go_simp
        with_reducible rfl
      rotate_left
      · simp only [Act.put, List.setIfInBounds_toArray, List.set_cons_zero, List.set_cons_succ, i64_w, i32_w]
        rfl
      refine one_ (i := 2) (N := some 37) #[true, true, true, false, false, false] rfl rfl (one_of HT_.out (by kernel_rfl)) (by decide) (fun K hK => ?_)
      refine goes_ Try.func15 (by kernel_rfl) rfl #[.slice A1 ld.length (c0 - k)] (by rfl) rfl rfl (by (try simp only [List.map_toArray, List.map_cons, List.map_nil]); first | done | rfl) ?_
      have hC_ := Kd.C_below HRd.out HS.out.2.2.2.1
      with_reducible refine (I15d.out _ hC_).mono ?_
      rintro e W3 ⟨rfl, hb⟩
      refine ⟨_, rfl, ?_⟩
      have n0_ := Aside0.mk (HS.out.step hb)
      clear HS hb
      have HS := n0_
      clear n0_
      refine hK.out _ _ HS.out.2.1.cell (fun hHeld => ?_)
      clear hK K
      refine norm_ (a' := ?_) ?_ ?_
      rotate_left
      · show Act.put _ (some 37) _ = _
        simp only [Act.put, List.setIfInBounds_toArray, List.set_cons_zero, List.set_cons_succ, i64_w, i32_w]
        rfl
      refine one_ (i := 3) (N := some 38) #[true, true, true, true, false, false] rfl rfl (one_of HT_.out (by kernel_rfl)) (by decide) (fun K hK => ?_)
      refine value_ (w1 := ?_) (v := ?_) (by rfl) rfl ?_ ?_
      rotate_left 2
      · go_simp
        constructor
        · rfl
        · rfl
      refine hK.out _ _ (HS.out.2.1.alloc _).cell (fun hHeld => ?_)
      clear hK K
      refine norm_ (a' := ?_) ?_ ?_
      rotate_left
      · show Act.put _ (some 38) _ = _
        simp only [Act.put, List.setIfInBounds_toArray, List.set_cons_zero, List.set_cons_succ, i64_w, i32_w]
        rfl
      refine one_ (i := 4) (N := some 39) #[true, true, true, true, true, false] rfl rfl (one_of HT_.out (by kernel_rfl)) (by decide) (fun K hK => ?_)
      refine Kd.R_append_step Kd.string (w0 := w0) w0.heap.size (by rfl) (.tmp 35) (.tmp 38) 22 9 (.string ⟨#[]⟩) 16 rfl Try.underlying22 info9 rfl (by decide) (by omega) v2 ys rd [.string rd] (fun _ => True) (fun _ => False) rfl rfl rfl (fun _ hk => hk.elim) (fun _ _ => trivial) HS.out.2.2.1 HS.out.2.2.2.1 (below_size HS.out.2.2.2.1) (by have := HX.out; omega) ?_
      intro v1 W4 ho hbl hg hat
      obtain ⟨Av, cv, hv1, _, _⟩ := Kd.R_reads ho
      obtain ⟨mv, hmv⟩ : ∃ m_, v1 = .slice Av m_ cv := ⟨_, hv1⟩
      clear hv1
      subst hmv
      have HP := Aside0.mk (HS.out.push ho hbl hg)
      have HBX := Aside0.mk (HS.out.2.1.kept hg (HS.out.not_row))
      clear ho hbl hg hat
      refine hK.out _ _ HBX.out.cell (fun hHeld => ?_)
      clear hK K
      refine norm_ (a' := ?_) ?_ ?_
      rotate_left
      · show Act.put _ (some 39) _ = _
        simp only [Act.put, List.setIfInBounds_toArray, List.set_cons_zero, List.set_cons_succ, i64_w, i32_w]
        rfl
      refine last_ (i := 5) (N := none) #[true, true, true, true, true, true] rfl rfl (one_of HT_.out (by kernel_rfl)) (by decide) (fun K hK => ?_)
      have cO := HBX.out.cell
      have cF := HBX.out.frozen
      refine skip_ (w1 := W4.setCell ⟨bp, 0, none⟩ (.slice Av mv cv)) (by rfl) rfl ?_ ?_
      · go_simp
      refine hK.out _ _ ?_
      clear hK K cO cF HBX hHeld HS
      refine done_ (done_of HT_.out (by kernel_rfl)) ?_
      try go_wp2
      go_end0
      subst hys
      exact ⟨rfl, _, HP.out⟩
    · rw [if_neg hik]
      have c6b0 : decide ((m : Int) ≤ ((l0.take (spl l0.length)).length : Int)) = false := decide_eq_false (by omega)
      have c6b1 : decide (m ≤ (l0.take (spl l0.length)).length) = false := decide_eq_false (by omega)
      have hw : wrap64 ((m : Int) - ((l0.take (spl l0.length)).length : Int)) = ((m - spl l0.length : Nat) : Int) := by rw [wrap64]; have := hd.1; omega
      have IV := Aside0.mk (fun W v xs hx h => ih (l0.drop (spl l0.length)).length (by omega) A1 (c0 - spl l0.length) (l0.drop (spl l0.length)) (m - spl l0.length) false w0 W bv bp v xs (Nat.le_refl _) hDd (by omega) (by omega) hx HRd.out (by omega) h)
      have hp1 := linkB_length _ (l0.drop (spl l0.length)) (m - spl l0.length) false (Nat.le_refl _)
      have hx1 : xs.length + (l0.drop (spl l0.length)).length + 1 ≤ 1000 := by omega
      have hx2 : (xs ++ linkB (l0.drop (spl l0.length)) (m - spl l0.length) false).length ≤ 1000 := by rw [List.length_append]; omega
      rw [← List.append_assoc]
      generalize linkB (l0.drop (spl l0.length)) (m - spl l0.length) false = ps at IV hp1 hx2 ⊢
      rw [← hw] at IV
      generalize rootB (l0.take (spl l0.length)) = rt at I15t ⊢
      generalize rootB (l0.drop (spl l0.length)) = rd at I15d ⊢
      generalize l0.take (spl l0.length) = lt at HRt I15t HH IV c6b0 c6b1 hw hlt hDt
      generalize l0.drop (spl l0.length) = ld at HRd I15d HH IV hx1 hld hDd hp1
      generalize spl l0.length = k at *
      have HX1 := Aside0.mk hx1
      have HX := Aside0.mk hx2
      clear ih hn hd hi hi1 hx hc0 hm h2 p1 p2 hDt hDd hlt hld hik hp1 hx1 hx2 hw
      go_enter Try.func31, Try.ntmps31
      have cV := HS.out.1.cell
      go_wp2_with (first
        | (go_at_call 30; (refine (HH.out _).mono ?_); rintro e w' ⟨rfl, ⟨nd, rfl⟩⟩; have n0_ := Aside0.mk (HS.out.step (pw_below_drewN (Below.refl _ _) nd)); clear HS cV; have HS := n0_; have cV := HS.out.1.cell; clear n0_)
        | (go_at_call 31; with_reducible refine (IV.out _ v xs HX1.out HS.out).mono ?_; clear HS cV; rintro e W1 ⟨rfl, v2, hs2⟩; have HS := Aside0.mk hs2; clear hs2))
      generalize hys : xs ++ ps = ys at HS HX
      clear IV HX1 HH HRd I15d
      have n0_ := Aside0.mk (HS.out.step (below_drew (Below.refl _ _)))
      clear HS
      have HS := n0_
      clear n0_
      refine start_ (n := 6) (S := fun w' => w'.cell? ⟨bp, 0, none⟩ = some v2) (ds := [5]) #[false, false, false, false, false, false] (by kernel_rfl) rfl rfl HS.out.2.1.cell (fun hHeld => ?_); refine with_tab (T := rtab .any (opsOf Try.f31 8)) rfl (fun HT_ => ?_)
      generalize W1.drew = W2 at HS hHeld ⊢
      refine take_ (i := 0) (N := some 47) (v := ?_) (a' := ?_) #[true, false, false, false, false, false] rfl rfl (take_of HT_.out (by kernel_rfl)) (fun _ _ _ h => h) (Or.inl ⟨by rfl, ?_⟩) hHeld ?_ ?_
      rotate_left
      · intro w' s0
        go_simp
        with_reducible rfl
      rotate_left
      · simp only [Act.put, List.setIfInBounds_toArray, List.set_cons_zero, List.set_cons_succ, i64_w, i32_w]
        rfl
      refine pure_ (i := 1) (N := some 48) (v := ?_) (a' := ?_) #[true, true, false, false, false, false] rfl rfl (any_of HT_.out (by kernel_rfl)) (fun _ _ _ h => h) (Or.inl ⟨by rfl, ?_⟩) ?_ ?_
      rotate_left
      · intro w'
        go_simp
        with_reducible rfl
      rotate_left
      · simp only [Act.put, List.setIfInBounds_toArray, List.set_cons_zero, List.set_cons_succ, i64_w, i32_w]
        rfl
      refine one_ (i := 2) (N := some 49) #[true, true, true, false, false, false] rfl rfl (one_of HT_.out (by kernel_rfl)) (by decide) (fun K hK => ?_)
      refine goes_ Try.func15 (by kernel_rfl) rfl #[.slice A0 lt.length k] (by rfl) rfl rfl (by (try simp only [List.map_toArray, List.map_cons, List.map_nil]); first | done | rfl) ?_
      have hC_ := Kd.C_below HRt.out HS.out.2.2.2.1
      with_reducible refine (I15t.out _ hC_).mono ?_
      rintro e W3 ⟨rfl, hb⟩
      refine ⟨_, rfl, ?_⟩
      have n0_ := Aside0.mk (HS.out.step hb)
      clear HS hb
      have HS := n0_
      clear n0_
      refine hK.out _ _ HS.out.2.1.cell (fun hHeld => ?_)
      clear hK K
      refine norm_ (a' := ?_) ?_ ?_
      rotate_left
      · show Act.put _ (some 49) _ = _
        simp only [Act.put, List.setIfInBounds_toArray, List.set_cons_zero, List.set_cons_succ, i64_w, i32_w]
        rfl
      refine one_ (i := 3) (N := some 50) #[true, true, true, true, false, false] rfl rfl (one_of HT_.out (by kernel_rfl)) (by decide) (fun K hK => ?_)
      refine value_ (w1 := ?_) (v := ?_) (by rfl) rfl ?_ ?_
      rotate_left 2
      · go_simp
        constructor
        · rfl
        · rfl
      refine hK.out _ _ (HS.out.2.1.alloc _).cell (fun hHeld => ?_)
      clear hK K
      refine norm_ (a' := ?_) ?_ ?_
      rotate_left
      · show Act.put _ (some 50) _ = _
        simp only [Act.put, List.setIfInBounds_toArray, List.set_cons_zero, List.set_cons_succ, i64_w, i32_w]
        rfl
      refine one_ (i := 4) (N := some 51) #[true, true, true, true, true, false] rfl rfl (one_of HT_.out (by kernel_rfl)) (by decide) (fun K hK => ?_)
      refine Kd.R_append_step Kd.string (w0 := w0) w0.heap.size (by rfl) (.tmp 47) (.tmp 50) 22 9 (.string ⟨#[]⟩) 16 rfl Try.underlying22 info9 rfl (by decide) (by omega) v2 ys rt [.string rt] (fun _ => True) (fun _ => False) rfl rfl rfl (fun _ hk => hk.elim) (fun _ _ => trivial) HS.out.2.2.1 HS.out.2.2.2.1 (below_size HS.out.2.2.2.1) (by have := HX.out; omega) ?_
      intro v1 W4 ho hbl hg hat
      obtain ⟨Av, cv, hv1, _, _⟩ := Kd.R_reads ho
      obtain ⟨mv, hmv⟩ : ∃ m_, v1 = .slice Av m_ cv := ⟨_, hv1⟩
      clear hv1
      subst hmv
      have HP := Aside0.mk (HS.out.push ho hbl hg)
      have HBX := Aside0.mk (HS.out.2.1.kept hg (HS.out.not_row))
      clear ho hbl hg hat
      refine hK.out _ _ HBX.out.cell (fun hHeld => ?_)
      clear hK K
      refine norm_ (a' := ?_) ?_ ?_
      rotate_left
      · show Act.put _ (some 51) _ = _
        simp only [Act.put, List.setIfInBounds_toArray, List.set_cons_zero, List.set_cons_succ, i64_w, i32_w]
        rfl
      refine last_ (i := 5) (N := none) #[true, true, true, true, true, true] rfl rfl (one_of HT_.out (by kernel_rfl)) (by decide) (fun K hK => ?_)
      have cO := HBX.out.cell
      have cF := HBX.out.frozen
      refine skip_ (w1 := W4.setCell ⟨bp, 0, none⟩ (.slice Av mv cv)) (by rfl) rfl ?_ ?_
      · go_simp
      refine hK.out _ _ ?_
      clear hK K cO cF HBX hHeld HS
      refine done_ (done_of HT_.out (by kernel_rfl)) ?_
      try go_wp2
      go_end0
      subst hys
      exact ⟨rfl, _, HP.out⟩
theorem visit_link : ∀ n : Nat, VisitL n := by
  intro n
  induction n using Nat.strongRecOn with
  | _ n ih =>
  intro A0 c0 l0 m b w0 W bv bp v xs hn hd hi1 hi hx hr0 hc0 hst
  by_cases hm : m = l0.length
  · subst hm
    cases b
    · exact visit_link_eq_false A0 c0 l0 w0 W bv bp v xs hd (by omega) hr0 hc0 hst
    · exact visit_link_eq_true A0 c0 l0 w0 W bv bp v xs hd (by omega) hr0 hc0 hst
  · cases b
    · exact visit_link_more_false n ih A0 c0 l0 m w0 W bv bp v xs hn hd hi1 hi hx hr0 hc0 hst hm (by omega)
    · exact visit_link_more_true n ih A0 c0 l0 m w0 W bv bp v xs hn hd hi1 hi hx hr0 hc0 hst hm (by omega)
end Go.Proofs.Ytkhkppehdgkboaa.Mk
end LinkV_
section MkS_
namespace Go.Proofs.Ytkhkppehdgkboaa.Mk
set_option linter.unusedVariables false
/-- the way to an index, from the root down: whether it leads to the left -/
def wayF : Nat → Nat → Nat → List Bool
  | 0, _, _ => []
  | f + 1, i, n => if n ≤ 1 then [] else if i < spl n then true :: wayF f i (spl n) else false :: wayF f (i - spl n) (n - spl n)
def way (i n : Nat) : List Bool := wayF 64 i n
theorem spl_half (n f : Nat) (h : 2 ≤ n) (hf : n ≤ 2 ^ (f + 1)) : spl n ≤ 2 ^ f ∧ n - spl n ≤ 2 ^ f := by
  have h1 : 2 ^ Nat.log2 (n - 1) ≤ n - 1 := Nat.log2_self_le (by omega)
  have h2 : n - 1 < 2 ^ (Nat.log2 (n - 1) + 1) := Nat.lt_log2_self
  have h3 : Nat.log2 (n - 1) ≤ f := by
    have : Nat.log2 (n - 1) < f + 1 := (Nat.log2_lt (by omega)).2 (by omega)
    omega
  have h4 : 2 ^ Nat.log2 (n - 1) ≤ 2 ^ f := Nat.pow_le_pow_right (by decide) h3
  rw [Nat.pow_succ] at h2
  unfold spl
  exact ⟨h4, by omega⟩
theorem wayF_fuel : ∀ (f g i n : Nat), n ≤ 2 ^ f → n ≤ 2 ^ g → wayF f i n = wayF g i n
  | 0, 0, _, _, _, _ => rfl
  | 0, g + 1, i, n, h, _ => by rw [wayF, wayF, if_pos (by simpa using h)]
  | f + 1, 0, i, n, _, h => by rw [wayF, wayF, if_pos (by simpa using h)]
  | f + 1, g + 1, i, n, h1, h2 => by
    rw [wayF, wayF]
    by_cases h0 : n ≤ 1
    · rw [if_pos h0, if_pos h0]
    have a := spl_half n f (by omega) h1
    have b := spl_half n g (by omega) h2
    rw [if_neg h0, if_neg h0, wayF_fuel f g i _ a.1 b.1, wayF_fuel f g _ _ a.2 b.2]
theorem way_one (i n : Nat) (h : n ≤ 1) : way i n = [] := by rw [way, wayF, if_pos h]
theorem way_more (i n : Nat) (h : 2 ≤ n) (hn : n ≤ 2 ^ 64) : way i n = if i < spl n then true :: way i (spl n) else false :: way (i - spl n) (n - spl n) := by
  have a := spl_half n 63 h hn
  have p : (2 : Nat) ^ 63 ≤ 2 ^ 64 := by decide
  rw [way, wayF, if_neg (by omega), way, way, wayF_fuel 63 64 i (spl n) a.1 (by omega), wayF_fuel 63 64 (i - spl n) (n - spl n) a.2 (by omega)]
/-- the string whose digest is a node -/
def preB (a b : ByteArray) : ByteArray := ((⟨#[1]⟩ : ByteArray) ++ a) ++ b
theorem node_size (a b : ByteArray) : (nodeB a b).size = 32 := shaB_size _
/-- what a way and a path (from the root down) make of a leaf -/
def up (x : ByteArray) : List Bool → List ByteArray → ByteArray
  | b :: w, q :: r => if b = true then nodeB (up x w r) q else nodeB q (up x w r)
  | _, _ => x
/-- the strings that are digested on this way -/
def ins (x : ByteArray) : List Bool → List ByteArray → List ByteArray
  | b :: w, q :: r => if b = true then ins x w r ++ [preB (up x w r) q] else ins x w r ++ [preB q (up x w r)]
  | _, _ => []
theorem take_at (l : List ByteArray) (k i : Nat) (h : i < k) : (l.take k).getD i ByteArray.empty = l.getD i ByteArray.empty := by
  rw [List.getD_eq_getElem?_getD, List.getD_eq_getElem?_getD, List.getElem?_take_of_lt h]
theorem drop_at (l : List ByteArray) (k i : Nat) (h : k ≤ i) : (l.drop k).getD (i - k) ByteArray.empty = l.getD i ByteArray.empty := by
  rw [List.getD_eq_getElem?_getD, List.getD_eq_getElem?_getD, List.getElem?_drop, show k + (i - k) = i by omega]
/-- two different strings of a list have the same digest -/
def HasClash (l : List ByteArray) : Prop := ∃ a ∈ l, ∃ b ∈ l, a ≠ b ∧ Sch.shaB a = Sch.shaB b
theorem HasClash.mono {l k : List ByteArray} (h : HasClash l) (hs : ∀ x ∈ l, x ∈ k) : HasClash k := by
  obtain ⟨a, ha, b, hb, h1, h2⟩ := h
  exact ⟨a, hs a ha, b, hs b hb, h1, h2⟩
theorem pre_inj {a b c d : ByteArray} (h : preB a b = preB c d) (hs : a.size = c.size) : a = c ∧ b = d := by
  have h1 : (preB a b).data.toList = (preB c d).data.toList := by rw [h]
  unfold preB at h1
  simp only [ByteArray.data_append, Array.toList_append] at h1
  rw [List.append_assoc, List.append_assoc] at h1
  have h2 := List.append_cancel_left h1
  have hl : a.data.toList.length = c.data.toList.length := by rw [Array.length_toList, Array.length_toList]; exact hs
  obtain ⟨h3, h4⟩ := List.append_inj h2 hl
  exact ⟨ByteArray.ext (Array.toList_inj.1 h3), ByteArray.ext (Array.toList_inj.1 h4)⟩
/-- all strings that are digested for the root of a list -/
def inputsF : Nat → List ByteArray → List ByteArray
  | 0, _ => []
  | n + 1, l => if l.length < 2 then [] else (inputsF n (l.take (spl l.length)) ++ inputsF n (l.drop (spl l.length))) ++ [preB (rootB (l.take (spl l.length))) (rootB (l.drop (spl l.length)))]
def inputsB (l : List ByteArray) : List ByteArray := inputsF (l.length + 1) l
theorem inputsF_fuel : ∀ (n m : Nat) (l : List ByteArray), l.length < n → l.length < m → inputsF n l = inputsF m l
  | 0, _, _, h, _ => by omega
  | _, 0, _, _, h => by omega
  | n + 1, m + 1, l, h1, h2 => by
    rw [inputsF, inputsF]
    by_cases h0 : l.length < 2
    · rw [if_pos h0, if_pos h0]
    rw [if_neg h0, if_neg h0]
    have p1 := spl_pos l.length
    have p2 := spl_lt l.length (by omega)
    rw [inputsF_fuel n m (l.take (spl l.length)) (by rw [List.length_take]; omega) (by rw [List.length_take]; omega), inputsF_fuel n m (l.drop (spl l.length)) (by rw [List.length_drop]; omega) (by rw [List.length_drop]; omega)]
theorem inputsB_more (l : List ByteArray) (h : 2 ≤ l.length) : inputsB l = (inputsB (l.take (spl l.length)) ++ inputsB (l.drop (spl l.length))) ++ [preB (rootB (l.take (spl l.length))) (rootB (l.drop (spl l.length)))] := by
  have p1 := spl_pos l.length
  have p2 := spl_lt l.length h
  rw [inputsB, inputsF, if_neg (by omega), inputsB, inputsB, inputsF_fuel l.length _ (l.take (spl l.length)) (by rw [List.length_take]; omega) (Nat.lt_succ_self _), inputsF_fuel l.length _ (l.drop (spl l.length)) (by rw [List.length_drop]; omega) (Nat.lt_succ_self _)]
theorem root_size32 (l : List ByteArray) (h : ∀ x ∈ l, x.size = 32) : (rootB l).size = 32 := by
  rcases Nat.lt_or_ge l.length 2 with h2 | h2
  · rcases Nat.eq_zero_or_pos l.length with h0 | h0
    · rw [rootB_nil l h0, shaB_size]
    · rw [rootB_one l (by omega), List.getD_eq_getElem?_getD, List.getElem?_eq_getElem h0]; exact h _ (List.getElem_mem h0)
  · rw [rootB_more l h2, node_size]
theorem up_size (x : ByteArray) (hx : x.size = 32) : ∀ (w : List Bool) (r : List ByteArray), (up x w r).size = 32
  | [], _ => by rw [up]; exact hx; simp
  | _ :: _, [] => by rw [up]; exact hx; simp
  | b :: w, q :: r => by rw [up]; split <;> exact node_size _ _
/-- equal nodes: equal parts, or a clash -/
theorem node_inj {a b c d : ByteArray} (h : nodeB a b = nodeB c d) (hs : a.size = c.size) (L : List ByteArray) (h1 : preB a b ∈ L) (h2 : preB c d ∈ L) : (a = c ∧ b = d) ∨ HasClash L := by
  by_cases e : preB a b = preB c d
  · exact .inl (pre_inj e hs)
  · exact .inr ⟨_, h1, _, h2, e, h⟩
theorem binds : ∀ (n : Nat) (l : List ByteArray) (i : Nat) (x : ByteArray) (rp : List ByteArray), l.length ≤ n → l.length ≤ 2 ^ 64 → i < l.length → (∀ y ∈ l, y.size = 32) → x.size = 32 → (∀ y ∈ rp, y.size = 32) → rp.length = (way i l.length).length →
    up x (way i l.length) rp = rootB l → (l.getD i ByteArray.empty = x ∧ rp.reverse = pathB l i) ∨ HasClash (inputsB l ++ ins x (way i l.length) rp)
  | n, l, i, x, rp, hn, hb, hi, hl, hx, hr, hlen, h => by
    rcases Nat.lt_or_ge l.length 2 with h2 | h2
    · rw [way_one _ _ (by omega)] at hlen h
      rw [List.eq_nil_of_length_eq_zero hlen] at h ⊢
      rw [pathB_one l i h2]
      rw [rootB_one l (by omega), up] at h
      · exact .inl ⟨by rw [show i = 0 by omega]; exact h.symm, rfl⟩
      · simp
    match n, hn with
    | 0, hn => omega
    | n + 1, hn =>
      have p1 := spl_pos l.length
      have p2 := spl_lt l.length h2
      have lt_ : (l.take (spl l.length)).length = spl l.length := by rw [List.length_take]; omega
      have ld_ : (l.drop (spl l.length)).length = l.length - spl l.length := List.length_drop
      have st := root_size32 (l.take (spl l.length)) (fun y hy => hl y (List.mem_of_mem_take hy))
      rw [way_more _ _ h2 hb] at hlen h ⊢
      rw [pathB_more l i h2, inputsB_more l h2]
      rw [rootB_more l h2] at h
      by_cases h3 : i < spl l.length
      · rw [if_pos h3] at hlen h ⊢
        rw [if_pos h3]
        match rp, hr, hlen, h with
        | q :: r, hr, hlen, h =>
        rw [up, if_pos rfl] at h
        rw [ins, if_pos rfl]
        have su := up_size x hx (way i (spl l.length)) r
        rcases node_inj h (su.trans st.symm) (((inputsB (l.take (spl l.length)) ++ inputsB (l.drop (spl l.length))) ++ [preB (rootB (l.take (spl l.length))) (rootB (l.drop (spl l.length)))]) ++ (ins x (way i (spl l.length)) r ++ [preB (up x (way i (spl l.length)) r) q])) (by simp) (by simp) with ⟨e1, e2⟩ | hc
        · rcases binds n (l.take (spl l.length)) i x r (by omega) (by omega) (by omega) (fun y hy => hl y (List.mem_of_mem_take hy)) hx (fun y hy => hr y (List.mem_cons_of_mem _ hy)) (by rw [lt_]; simpa using hlen) (by rw [lt_]; exact e1) with ⟨e3, e4⟩ | hc
          · rw [take_at l _ i h3] at e3
            exact .inl ⟨e3, by rw [List.reverse_cons, e4, e2]⟩
          · rw [lt_] at hc
            exact .inr (hc.mono fun y hy => by simp only [List.mem_append] at hy ⊢; rcases hy with hy | hy <;> simp [hy])
        · exact .inr hc
      · rw [if_neg h3] at hlen h ⊢
        rw [if_neg h3]
        match rp, hr, hlen, h with
        | q :: r, hr, hlen, h =>
        rw [up, if_neg (by decide)] at h
        rw [ins, if_neg (by decide)]
        rcases node_inj h ((hr q (List.mem_cons_self ..)).trans st.symm) (((inputsB (l.take (spl l.length)) ++ inputsB (l.drop (spl l.length))) ++ [preB (rootB (l.take (spl l.length))) (rootB (l.drop (spl l.length)))]) ++ (ins x (way (i - spl l.length) (l.length - spl l.length)) r ++ [preB q (up x (way (i - spl l.length) (l.length - spl l.length)) r)])) (by simp) (by simp) with ⟨e2, e1⟩ | hc
        · rcases binds n (l.drop (spl l.length)) (i - spl l.length) x r (by omega) (by omega) (by omega) (fun y hy => hl y (List.mem_of_mem_drop hy)) hx (fun y hy => hr y (List.mem_cons_of_mem _ hy)) (by rw [ld_]; simpa using hlen) (by rw [ld_]; exact e1) with ⟨e3, e4⟩ | hc
          · rw [drop_at l _ i (by omega)] at e3
            exact .inl ⟨e3, by rw [List.reverse_cons, e4, e2]⟩
          · rw [ld_] at hc
            exact .inr (hc.mono fun y hy => by simp only [List.mem_append] at hy ⊢; rcases hy with hy | hy <;> simp [hy])
        · exact .inr hc
/-- two paths from the same index to the same root -/
theorem once : ∀ (w : List Bool) (x y root : ByteArray) (rp rq : List ByteArray), x.size = 32 → y.size = 32 → (∀ z ∈ rp, z.size = 32) → (∀ z ∈ rq, z.size = 32) → rp.length = w.length → rq.length = w.length → up x w rp = root → up y w rq = root →
    (x = y ∧ rp = rq) ∨ HasClash (ins x w rp ++ ins y w rq)
  | [], x, y, root, rp, rq, hx, hy, hp, hq, lp, lq, h1, h2 => by
    rw [List.eq_nil_of_length_eq_zero lp, List.eq_nil_of_length_eq_zero lq] at *
    rw [up] at h1 h2
    · exact .inl ⟨h1.trans h2.symm, rfl⟩
    · simp
    · simp
  | b :: w, x, y, root, [], rq, hx, hy, hp, hq, lp, lq, h1, h2 => by simp at lp
  | b :: w, x, y, root, _ :: _, [], hx, hy, hp, hq, lp, lq, h1, h2 => by simp at lq
  | b :: w, x, y, root, p :: rp, q :: rq, hx, hy, hp, hq, lp, lq, h1, h2 => by
    rw [up] at h1 h2
    rw [ins, ins]
    have sx := up_size x hx w rp
    have sy := up_size y hy w rq
    have s1 := hp p (List.mem_cons_self ..)
    have s2 := hq q (List.mem_cons_self ..)
    have ih := fun e => once w x y (up x w rp) rp rq hx hy (fun z hz => hp z (List.mem_cons_of_mem _ hz)) (fun z hz => hq z (List.mem_cons_of_mem _ hz)) (by simpa using lp) (by simpa using lq) rfl e
    cases b
    · rw [if_neg (by decide)] at h1 h2 ⊢
      rw [if_neg (by decide)]
      rcases node_inj (h1.trans h2.symm) (s1.trans s2.symm) ((ins x w rp ++ [preB p (up x w rp)]) ++ (ins y w rq ++ [preB q (up y w rq)])) (by simp) (by simp) with ⟨e1, e2⟩ | hc
      · rcases ih e2.symm with ⟨a, c⟩ | hc
        · exact .inl ⟨a, by rw [e1, c]⟩
        · exact .inr (hc.mono fun z hz => by simp only [List.mem_append] at hz ⊢; rcases hz with hz | hz <;> simp [hz])
      · exact .inr hc
    · rw [if_pos rfl] at h1 h2 ⊢
      rw [if_pos rfl]
      rcases node_inj (h1.trans h2.symm) (sx.trans sy.symm) ((ins x w rp ++ [preB (up x w rp) p]) ++ (ins y w rq ++ [preB (up y w rq) q])) (by simp) (by simp) with ⟨e1, e2⟩ | hc
      · rcases ih e1.symm with ⟨a, c⟩ | hc
        · exact .inl ⟨a, by rw [e2, c]⟩
        · exact .inr (hc.mono fun z hz => by simp only [List.mem_append] at hz ⊢; rcases hz with hz | hz <;> simp [hz])
      · exact .inr hc
end Go.Proofs.Ytkhkppehdgkboaa.Mk
end MkS_
section MkN_
namespace Go.Proofs.Ytkhkppehdgkboaa.Mk
open Go.RowKit Go.Proofs.Ytkhkppehdgkboaa.P Go.Proofs.YtkhkppehdgkboaaW.PrintWords Go.Proofs.YtkhkppehdgkboaaW.PrintLast Go.Proofs.YtkhkppehdgkboaaW.PrintMore
set_option linter.unusedVariables false
theorem wrap_nat (n : Nat) (h : n < 9223372036854775808) : wrap64 (n : Int) = (n : Int) := by rw [wrap64]; omega
end Go.Proofs.Ytkhkppehdgkboaa.Mk
end MkN_
section MkC_
namespace Go.Proofs.Ytkhkppehdgkboaa.Mk
open Go.RowKit Go.Proofs.Ytkhkppehdgkboaa.P Go.Proofs.YtkhkppehdgkboaaW.PrintWords Go.Proofs.YtkhkppehdgkboaaW.PrintLast Go.Proofs.YtkhkppehdgkboaaW.PrintMore
set_option linter.unusedVariables false
theorem bytes_inj {a b : ByteArray} (h : a.toList = b.toList) : a = b := by
  rw [Go.ByteArray.toList_eq, Go.ByteArray.toList_eq] at h
  exact ByteArray.ext (Array.toList_inj.1 h)
theorem rd_nat (l : List ByteArray) (i : Nat) : rdOf ByteArray.empty l (i : Int) = l.getD i ByteArray.empty := by rw [rdOf, Int.toNat_natCast]
theorem drop_getD (l : List ByteArray) (i : Nat) (h : i < l.length) : l.drop i = l.getD i ByteArray.empty :: l.drop (i + 1) := by
  rw [List.drop_eq_getElem_cons h, List.getD_eq_getElem?_getD, List.getElem?_eq_getElem h]; rfl
theorem same_l0 (a b : List ByteArray) (hl : a.length = b.length) (hb : a.length ≤ 100000) : ∀ (m k i : Nat), i + m = a.length → m < k → agoraref08_Same.l0 k a b (i : Int) = some (decide (a.drop i = b.drop i))
  | m, 0, i, _, h => by omega
  | 0, k + 1, i, h, _ => by rw [agoraref08_Same.l0, if_neg (by omega), List.drop_eq_nil_of_le (by omega), List.drop_eq_nil_of_le (by omega)]; rfl
  | m + 1, k + 1, i, h, hk => by
    rw [agoraref08_Same.l0, if_pos (by omega), if_pos (by omega), if_pos (by omega), rd_nat, rd_nat, drop_getD a i (by omega), drop_getD b i (by omega), show (i : Int) + 1 = ((i + 1 : Nat) : Int) by omega, wrap_nat _ (by omega)]
    by_cases e : a.getD i ByteArray.empty = b.getD i ByteArray.empty
    · rw [if_pos (by rw [e]), same_l0 a b hl hb m k (i + 1) (by omega) (by omega), e]
      simp
    · rw [if_neg (fun h => e (bytes_inj h))]
      rw [decide_eq_false]
      intro h
      injection h with h
      exact e h
theorem same_at (a b : List ByteArray) (hb : a.length ≤ 100000) (k : Nat) (hk : a.length < k) : agoraref08_Same.f k a b = some (decide (a = b)) := by
  rw [agoraref08_Same.f]
  by_cases h : a.length = b.length
  · rw [if_pos (by omega), show (0 : Int) = ((0 : Nat) : Int) from rfl, same_l0 a b h hb a.length k 0 (by omega) hk, List.drop_zero, List.drop_zero]
  · rw [if_neg (by omega), decide_eq_false (fun e => h (by rw [e]))]
end Go.Proofs.Ytkhkppehdgkboaa.Mk
end MkC_
section Path_
namespace Go.Proofs.Ytkhkppehdgkboaa.Mk
open Go.RowKit Go.Proofs.Ytkhkppehdgkboaa.P Go.Proofs.YtkhkppehdgkboaaW.PrintWords Go.Proofs.YtkhkppehdgkboaaW.PrintLast Go.Proofs.YtkhkppehdgkboaaW.PrintMore
attribute [local go_sem] max2_int min2_int max_two min_two max_three min_three max_four min_four   -- for this text's walks alone
set_option linter.unusedVariables false
set_option linter.unusedSimpArgs false
@[local go_sem] theorem run_makeFunc' (P : Program) (fn : Fn) (first cap : Array Value) (w : World) : (Instr.makeFunc fn first cap).run P w = .ok (.func fn first cap) w := rfl
@[local go_sem] theorem events_makeFunc' (P : Program) (fn : Fn) (first cap : Array Value) (w : World) (es : Array Event) : (Instr.makeFunc fn first cap).events P w es = es := rfl
@[local go_sem] theorem run_store_func_ (P : Program) (w : World) (a : Addr) (m : Mode) (fn : Fn) (x y : Array Value) : (store a (.func fn x y) m).run P w = stored P w a (.func fn x y) m := run_store P w a _ m rfl
set_option maxHeartbeats 4000000 in
set_option maxRecDepth 100000 in
theorem path_out (A0 : Option Addr) (c0 : Nat) (l0 : List ByteArray) (a1 : Int) (w : World) (h : a1 < 0 ∨ (l0.length : Int) ≤ a1) :
    Calls Try.prog 13 #[.slice A0 l0.length c0, .int .i64 a1] w fun e w' => ∃ v0_, e = .returned (.tuple #[v0_, .bool false]) ∧ Kd.R Kd.string 9 w' w.heap.size (fun _ => True) v0_ [] ∧ Below w.heap.size w w' := by
  by_cases h0 : a1 < 0
  · have c0b0 : decide (a1 < 0) = true := decide_eq_true h0
    clear h h0
    go_enter Try.func13, Try.ntmps13
    go_wp2
    go_ret2
    exact ⟨_, rfl, Kd.R_nil _ _ _ _ _, by repeat (first | exact Below.refl _ _ | apply pw_below_drewN | apply below_drew1)⟩
  · have c0b0 : decide (a1 < 0) = false := decide_eq_false (by omega)
    have c0b1 : decide (a1 ≥ (l0.length : Int)) = true := decide_eq_true (by omega)
    have c0b2 : decide ((l0.length : Int) ≤ a1) = true := decide_eq_true (by omega)
    clear h h0
    go_enter Try.func13, Try.ntmps13
    go_wp2
    go_ret2
    exact ⟨_, rfl, Kd.R_nil _ _ _ _ _, by repeat (first | exact Below.refl _ _ | apply pw_below_drewN | apply below_drew1)⟩
theorem St.box {fv : Value} {tv : TypeId} {w0 : World} {bv bp : Nat} {W : World} {v : Value} {xs : List ByteArray} (h : St fv tv w0 bv bp W v xs) : Boxed W bp 22 v := h.2.1
/-- the two variables at the start -/
theorem St.start (w : World) (fv : Value) (tv : TypeId) (h1 : tv ≠ 22) (h2 : tv ≠ 9) :
    St fv tv w (w.heap.size + 1) w.heap.size ((w.alloc (.cells #[.slice none 0 0] 22)).alloc (.cells #[fv] tv)) (.slice none 0 0) [] := by
  have b1 := Boxed.new (w.alloc (.cells #[.slice none 0 0] 22)) tv fv
  rw [World.size_alloc] at b1
  have b2 := (Boxed.new w 22 (.slice none 0 0)).alloc (.cells #[fv] tv)
  exact ⟨b1, b2, Kd.R_nil _ _ _ _ _, ((Below.refl _ w).alloc (Nat.le_refl _) _).alloc (by rw [World.size_alloc]; omega) _, Nat.le_refl _, h1, h2⟩
set_option maxHeartbeats 4000000 in
set_option maxRecDepth 100000 in
theorem path_in (A0 : Option Addr) (c0 : Nat) (l0 : List ByteArray) (i : Nat) (w : World) (hd : Dom l0) (hi : i < l0.length) (hr0 : Kd.C Kd.string w A0 l0.length l0) (hc0 : l0.length ≤ c0) :
    Calls Try.prog 13 #[.slice A0 l0.length c0, .int .i64 (i : Int)] w fun e w' => ∃ v0_, e = .returned (.tuple #[v0_, .bool true]) ∧ Kd.R Kd.string 9 w' w.heap.size (fun _ => True) v0_ (pathB l0 i) ∧ Below w.heap.size w w' := by
  have c0b0 : decide ((i : Int) < 0) = false := decide_eq_false (by omega)
  have c0b1 : decide ((i : Int) ≥ (l0.length : Int)) = false := decide_eq_false (by omega)
  have c0b2 : decide ((l0.length : Int) ≤ (i : Int)) = false := decide_eq_false (by omega)
  have c0b3 : decide (l0.length ≤ i) = false := decide_eq_false (by omega)
  have HV := Aside0.mk (fun W bv bp v xs hx h => visit_path l0.length A0 c0 l0 i w W bv bp v xs (Nat.le_refl _) hd hi hx hr0 hc0 h)
  have hl : ([] : List ByteArray).length + l0.length ≤ 1000 := by have := hd.1; simp only [List.length_nil]; omega
  have HL := Aside0.mk hl
  generalize pathB l0 i = ps at HV ⊢
  have hs := St.start w (.func (.func 29) #[] #[.pointer (some ⟨w.heap.size + 1, 0, none⟩), .pointer (some ⟨w.heap.size, 0, none⟩)]) 44 (by decide) (by decide)
  have HS := Aside0.mk hs
  have cV := hs.1.cell
  clear hd hi hr0 hc0 hl hs
  go_enter Try.func13, Try.ntmps13
  go_wp2_with (first
    | (go_at_call 29; with_reducible refine (HV.out _ _ _ _ _ HL.out HS.out).mono ?_; clear HS cV; rintro e W1 ⟨rfl, v2, hs2⟩; have HS := Aside0.mk hs2; clear hs2; have cP := HS.out.box.cell; rw [List.nil_append] at HS))

  go_ret2
  exact ⟨_, rfl, HS.out.2.2.1, HS.out.2.2.2.1⟩
end Go.Proofs.Ytkhkppehdgkboaa.Mk
namespace Go.Proofs.Ytkhkppehdgkboaa.P
open Go.RowKit Go.Proofs.YtkhkppehdgkboaaW.PrintWords
/-- merkle.Path, for the print -/
def merkle_Path.f (l0 : List ByteArray) (a1 : Int) : Option (List ByteArray × Bool) := if l0.length < 129 ∧ (l0.all fun x => decide (x.size ≤ 1000000000)) = true then (if 0 ≤ a1 ∧ a1 < (l0.length : Int) then some (Mk.pathB l0 a1.toNat, true) else some ([], false)) else none
theorem merkle_Path.calls (A0 : Option Addr) (c0 : Nat) (l0 : List ByteArray) (a1 : Int) (r1 : List ByteArray) (r2 : Bool) (w : World) (hr0 : Kd.C Kd.string w A0 l0.length l0) (hc0 : l0.length ≤ c0) (h : merkle_Path.f l0 a1 = some (r1, r2)) :
    Calls Try.prog 13 #[.slice A0 l0.length c0, .int .i64 a1] w fun e w' => ∃ v0_, e = .returned (.tuple #[v0_, .bool r2]) ∧ Kd.R Kd.string 9 w' w.heap.size (fun _ => True) v0_ r1 ∧ Below w.heap.size w w' := by
  unfold merkle_Path.f at h
  split at h
  · rename_i hh
    split at h
    · rename_i hi
      obtain ⟨i, rfl⟩ := Int.eq_ofNat_of_zero_le hi.1
      cases h
      exact Mk.path_in A0 c0 l0 i w (merkle_dom hh) (by omega) hr0 hc0
    · rename_i hi
      cases h
      exact Mk.path_out A0 c0 l0 a1 w (by omega)
  · cases h
end Go.Proofs.Ytkhkppehdgkboaa.P
end Path_
section Link_
namespace Go.Proofs.Ytkhkppehdgkboaa.Mk
open Go.RowKit Go.Proofs.Ytkhkppehdgkboaa.P Go.Proofs.YtkhkppehdgkboaaW.PrintWords Go.Proofs.YtkhkppehdgkboaaW.PrintLast Go.Proofs.YtkhkppehdgkboaaW.PrintMore
attribute [local go_sem] max2_int min2_int max_two min_two max_three min_three max_four min_four   -- for this text's walks alone
set_option linter.unusedVariables false
set_option linter.unusedSimpArgs false
@[local go_sem] theorem run_makeFuncL' (P : Program) (fn : Fn) (first cap : Array Value) (w : World) : (Instr.makeFunc fn first cap).run P w = .ok (.func fn first cap) w := rfl
@[local go_sem] theorem events_makeFuncL' (P : Program) (fn : Fn) (first cap : Array Value) (w : World) (es : Array Event) : (Instr.makeFunc fn first cap).events P w es = es := rfl
@[local go_sem] theorem run_store_funcL_ (P : Program) (w : World) (a : Addr) (m : Mode) (fn : Fn) (x y : Array Value) : (store a (.func fn x y) m).run P w = stored P w a (.func fn x y) m := run_store P w a _ m rfl
set_option maxHeartbeats 4000000 in
set_option maxRecDepth 100000 in
theorem link_out (A0 : Option Addr) (c0 : Nat) (l0 : List ByteArray) (a1 : Int) (w : World) (h : a1 < 0 ∨ (l0.length : Int) < a1) :
    Calls Try.prog 14 #[.slice A0 l0.length c0, .int .i64 a1] w fun e w' => ∃ v0_, e = .returned (.tuple #[v0_, .bool false]) ∧ Kd.R Kd.string 9 w' w.heap.size (fun _ => True) v0_ [] ∧ Below w.heap.size w w' := by
  by_cases h0 : a1 < 0
  · have c0b0 : decide (a1 < 0) = true := decide_eq_true h0
    clear h h0
    go_enter Try.func14, Try.ntmps14
    go_wp2
    go_ret2
    exact ⟨_, rfl, Kd.R_nil _ _ _ _ _, by repeat (first | exact Below.refl _ _ | apply pw_below_drewN | apply below_drew1)⟩
  · have c0b0 : decide (a1 < 0) = false := decide_eq_false (by omega)
    have c0b1 : decide (a1 > (l0.length : Int)) = true := decide_eq_true (by omega)
    have c0b2 : decide ((l0.length : Int) < a1) = true := decide_eq_true (by omega)
    clear h h0
    go_enter Try.func14, Try.ntmps14
    go_wp2
    go_ret2
    exact ⟨_, rfl, Kd.R_nil _ _ _ _ _, by repeat (first | exact Below.refl _ _ | apply pw_below_drewN | apply below_drew1)⟩
set_option maxHeartbeats 4000000 in
set_option maxRecDepth 100000 in
theorem link_in (A0 : Option Addr) (c0 : Nat) (l0 : List ByteArray) (i : Nat) (w : World) (hd : Dom l0) (h1 : 1 ≤ i) (hi : i ≤ l0.length) (hr0 : Kd.C Kd.string w A0 l0.length l0) (hc0 : l0.length ≤ c0) :
    Calls Try.prog 14 #[.slice A0 l0.length c0, .int .i64 (i : Int)] w fun e w' => ∃ v0_, e = .returned (.tuple #[v0_, .bool true]) ∧ Kd.R Kd.string 9 w' w.heap.size (fun _ => True) v0_ (linkB l0 i true) ∧ Below w.heap.size w w' := by
  have c0b0 : decide ((i : Int) < 0) = false := decide_eq_false (by omega)
  have c0b1 : decide ((i : Int) > (l0.length : Int)) = false := decide_eq_false (by omega)
  have c0b2 : decide ((l0.length : Int) < (i : Int)) = false := decide_eq_false (by omega)
  have c0b3 : decide (l0.length < i) = false := decide_eq_false (by omega)
  have c0b4 : decide ((i : Int) > 0) = true := decide_eq_true (by omega)
  have c0b5 : decide (0 < (i : Int)) = true := decide_eq_true (by omega)
  have c0b6 : decide (0 < i) = true := decide_eq_true (by omega)
  have HV := Aside0.mk (fun W bv bp v xs hx h => visit_link l0.length A0 c0 l0 i true w W bv bp v xs (Nat.le_refl _) hd h1 hi hx hr0 hc0 h)
  have hl : ([] : List ByteArray).length + l0.length + 1 ≤ 1000 := by have := hd.1; simp only [List.length_nil]; omega
  have HL := Aside0.mk hl
  generalize linkB l0 i true = ps at HV ⊢
  have hs := St.start w (.func (.func 31) #[] #[.pointer (some ⟨w.heap.size, 0, none⟩), .pointer (some ⟨w.heap.size + 1, 0, none⟩)]) 47 (by decide) (by decide)
  have HS := Aside0.mk hs
  have cV := hs.1.cell
  clear hd hi h1 hr0 hc0 hl hs
  go_enter Try.func14, Try.ntmps14
  go_wp2_with (first
    | (go_at_call 31; with_reducible refine (HV.out _ _ _ _ _ HL.out HS.out).mono ?_; clear HS cV; rintro e W1 ⟨rfl, v2, hs2⟩; have HS := Aside0.mk hs2; clear hs2; have cP := HS.out.box.cell; rw [List.nil_append] at HS))
  go_ret2
  exact ⟨_, rfl, HS.out.2.2.1, HS.out.2.2.2.1⟩
set_option maxHeartbeats 4000000 in
set_option maxRecDepth 100000 in
theorem link_zero (A0 : Option Addr) (c0 : Nat) (l0 : List ByteArray) (w : World) :
    Calls Try.prog 14 #[.slice A0 l0.length c0, .int .i64 0] w fun e w' => ∃ v0_, e = .returned (.tuple #[v0_, .bool true]) ∧ Kd.R Kd.string 9 w' w.heap.size (fun _ => True) v0_ [] ∧ Below w.heap.size w w' := by
  have c0b1 : decide ((0 : Int) > (l0.length : Int)) = false := decide_eq_false (by omega)
  have c0b2 : decide ((l0.length : Int) < (0 : Int)) = false := decide_eq_false (by omega)
  have hs := St.start w (.func (.func 31) #[] #[.pointer (some ⟨w.heap.size, 0, none⟩), .pointer (some ⟨w.heap.size + 1, 0, none⟩)]) 47 (by decide) (by decide)
  have HS := Aside0.mk hs
  have cP := hs.box.cell
  clear hs
  go_enter Try.func14, Try.ntmps14
  go_wp2
  go_ret2
  exact ⟨_, rfl, HS.out.2.2.1, HS.out.2.2.2.1⟩
end Go.Proofs.Ytkhkppehdgkboaa.Mk
namespace Go.Proofs.Ytkhkppehdgkboaa.P
open Go.RowKit Go.Proofs.YtkhkppehdgkboaaW.PrintWords
/-- merkle.Link, for the print -/
def merkle_Link.f (l0 : List ByteArray) (a1 : Int) : Option (List ByteArray × Bool) := if l0.length < 129 ∧ (l0.all fun x => decide (x.size ≤ 1000000000)) = true then (if a1 = 0 then some ([], true) else if 0 ≤ a1 ∧ a1 ≤ (l0.length : Int) then some (Mk.linkB l0 a1.toNat true, true) else some ([], false)) else none
theorem merkle_Link.calls (A0 : Option Addr) (c0 : Nat) (l0 : List ByteArray) (a1 : Int) (r1 : List ByteArray) (r2 : Bool) (w : World) (hr0 : Kd.C Kd.string w A0 l0.length l0) (hc0 : l0.length ≤ c0) (h : merkle_Link.f l0 a1 = some (r1, r2)) :
    Calls Try.prog 14 #[.slice A0 l0.length c0, .int .i64 a1] w fun e w' => ∃ v0_, e = .returned (.tuple #[v0_, .bool r2]) ∧ Kd.R Kd.string 9 w' w.heap.size (fun _ => True) v0_ r1 ∧ Below w.heap.size w w' := by
  unfold merkle_Link.f at h
  split at h
  · rename_i hh
    split at h
    · rename_i h0
      subst h0
      cases h
      exact Mk.link_zero A0 c0 l0 w
    split at h
    · rename_i h0 hi
      obtain ⟨i, rfl⟩ := Int.eq_ofNat_of_zero_le hi.1
      cases h
      exact Mk.link_in A0 c0 l0 i w (merkle_dom hh) (by omega) (by omega) hr0 hc0
    · rename_i h0 hi
      cases h
      exact Mk.link_out A0 c0 l0 a1 w (by omega)
  · cases h
end Go.Proofs.Ytkhkppehdgkboaa.P
end Link_
section P7_
namespace Go.Proofs.Ytkhkppehdgkboaa.P
open Go.RowKit Go.Proofs.YtkhkppehdgkboaaW.PrintWords Go.Proofs.YtkhkppehdgkboaaW.PrintLast Go.Proofs.YtkhkppehdgkboaaW.PrintMore
attribute [local go_sem] max2_int min2_int max_two min_two max_three min_three max_four min_four   -- for this text's walks alone
set_option linter.unusedVariables false
set_option linter.unusedSimpArgs false
def agoralaw08_small.f (k : Nat)  : Option (Bool) := (merkle_Leaf.f (⟨#[97]⟩ : ByteArray)).bind fun t150 => ((merkle_Leaf.f (⟨#[98]⟩ : ByteArray)).bind fun t151 => ((merkle_Leaf.f (⟨#[99]⟩ : ByteArray)).bind fun t152 => ((some (([t150, t151, t152] : List ByteArray) : List ByteArray)).bind fun y153 => (if 1 + t150.size ≤ 9223372036854775807 then (if ((⟨#[1]⟩ : ByteArray) ++ t150).size + t151.size ≤ 9223372036854775807 then ((sum_Sha.f (((⟨#[1]⟩ : ByteArray) ++ t150) ++ t151)).bind fun t156 => ((merkle_Path.f y153 2).bind fun bt157 => ((merkle_Link.f y153 2).bind fun bt161 => ((merkle_Root.f y153).bind fun t165 => ((sum_Sha.f (⟨#[0, 97]⟩ : ByteArray)).bind fun t166 => (if t150.toList = t166.toList then ((merkle_Root.f ([] : List ByteArray)).bind fun t167 => ((sum_Sha.f (⟨#[]⟩ : ByteArray)).bind fun t168 => (if t167.toList = t168.toList then (if 1 + t156.size ≤ 9223372036854775807 then (if ((⟨#[1]⟩ : ByteArray) ++ t156).size + t152.size ≤ 9223372036854775807 then ((sum_Sha.f (((⟨#[1]⟩ : ByteArray) ++ t156) ++ t152)).bind fun t169 => (if t165.toList = t169.toList then (if bt157.2 = true then ((agoraref08_Same.f k bt157.1 (([t156] : List ByteArray))).bind fun t173 => (if t173 = true then ((merkle_Includes.f k t152 2 3 t165 bt157.1).bind fun t174 => (if t174 = true then ((merkle_Includes.f k t152 1 3 t165 bt157.1).bind fun t175 => (if t175 = true then (none) else (if bt161.2 = true then ((agoraref08_Same.f k bt161.1 (([t152] : List ByteArray))).bind fun t179 => (if t179 = true then ((merkle_Extends.f k 2 3 t156 t165 bt161.1).bind fun t180 => (if t180 = true then ((merkle_Extends.f k 2 3 t165 t156 bt161.1).bind fun t181 => (some (!t181))) else (none))) else (none))) else (none)))) else (none))) else (none))) else (none)) else (none))) else (none)) else (none)) else (none)))) else (none))))))) else (none)) else (none)))))
set_option maxHeartbeats 8000000 in
set_option maxRecDepth 100000 in
theorem agoralaw08_small.calls (k : Nat)  (r : Bool) (w : World) (h : agoralaw08_small.f k  = some r) :
    Calls Try.prog 9 #[] w fun e w' => e = .returned (.bool r) ∧ Below w.heap.size w w' := by
  have HB := Aside0.mk (Below.refl w.heap.size w)
  have H : ((merkle_Leaf.f (⟨#[97]⟩ : ByteArray)).bind fun t150 => ((merkle_Leaf.f (⟨#[98]⟩ : ByteArray)).bind fun t151 => ((merkle_Leaf.f (⟨#[99]⟩ : ByteArray)).bind fun t152 => ((some (([t150, t151, t152] : List ByteArray) : List ByteArray)).bind fun y153 => (if 1 + t150.size ≤ 9223372036854775807 then (if ((⟨#[1]⟩ : ByteArray) ++ t150).size + t151.size ≤ 9223372036854775807 then ((sum_Sha.f (((⟨#[1]⟩ : ByteArray) ++ t150) ++ t151)).bind fun t156 => ((merkle_Path.f y153 2).bind fun bt157 => ((merkle_Link.f y153 2).bind fun bt161 => ((merkle_Root.f y153).bind fun t165 => ((sum_Sha.f (⟨#[0, 97]⟩ : ByteArray)).bind fun t166 => (if t150.toList = t166.toList then ((merkle_Root.f ([] : List ByteArray)).bind fun t167 => ((sum_Sha.f (⟨#[]⟩ : ByteArray)).bind fun t168 => (if t167.toList = t168.toList then (if 1 + t156.size ≤ 9223372036854775807 then (if ((⟨#[1]⟩ : ByteArray) ++ t156).size + t152.size ≤ 9223372036854775807 then ((sum_Sha.f (((⟨#[1]⟩ : ByteArray) ++ t156) ++ t152)).bind fun t169 => (if t165.toList = t169.toList then (if bt157.2 = true then ((agoraref08_Same.f k bt157.1 (([t156] : List ByteArray))).bind fun t173 => (if t173 = true then ((merkle_Includes.f k t152 2 3 t165 bt157.1).bind fun t174 => (if t174 = true then ((merkle_Includes.f k t152 1 3 t165 bt157.1).bind fun t175 => (if t175 = true then (none) else (if bt161.2 = true then ((agoraref08_Same.f k bt161.1 (([t152] : List ByteArray))).bind fun t179 => (if t179 = true then ((merkle_Extends.f k 2 3 t156 t165 bt161.1).bind fun t180 => (if t180 = true then ((merkle_Extends.f k 2 3 t165 t156 bt161.1).bind fun t181 => (some (!t181))) else (none))) else (none))) else (none)))) else (none))) else (none))) else (none)) else (none))) else (none)) else (none)) else (none)))) else (none))))))) else (none)) else (none)))))) = some r := h
  clear h
  replace H := Option.bind_eq_some_iff.mp H
  obtain ⟨t150, A10, H⟩ := H
  replace H : ((merkle_Leaf.f (⟨#[98]⟩ : ByteArray)).bind fun t151 => ((merkle_Leaf.f (⟨#[99]⟩ : ByteArray)).bind fun t152 => ((some (([t150, t151, t152] : List ByteArray) : List ByteArray)).bind fun y153 => (if 1 + t150.size ≤ 9223372036854775807 then (if ((⟨#[1]⟩ : ByteArray) ++ t150).size + t151.size ≤ 9223372036854775807 then ((sum_Sha.f (((⟨#[1]⟩ : ByteArray) ++ t150) ++ t151)).bind fun t156 => ((merkle_Path.f y153 2).bind fun bt157 => ((merkle_Link.f y153 2).bind fun bt161 => ((merkle_Root.f y153).bind fun t165 => ((sum_Sha.f (⟨#[0, 97]⟩ : ByteArray)).bind fun t166 => (if t150.toList = t166.toList then ((merkle_Root.f ([] : List ByteArray)).bind fun t167 => ((sum_Sha.f (⟨#[]⟩ : ByteArray)).bind fun t168 => (if t167.toList = t168.toList then (if 1 + t156.size ≤ 9223372036854775807 then (if ((⟨#[1]⟩ : ByteArray) ++ t156).size + t152.size ≤ 9223372036854775807 then ((sum_Sha.f (((⟨#[1]⟩ : ByteArray) ++ t156) ++ t152)).bind fun t169 => (if t165.toList = t169.toList then (if bt157.2 = true then ((agoraref08_Same.f k bt157.1 (([t156] : List ByteArray))).bind fun t173 => (if t173 = true then ((merkle_Includes.f k t152 2 3 t165 bt157.1).bind fun t174 => (if t174 = true then ((merkle_Includes.f k t152 1 3 t165 bt157.1).bind fun t175 => (if t175 = true then (none) else (if bt161.2 = true then ((agoraref08_Same.f k bt161.1 (([t152] : List ByteArray))).bind fun t179 => (if t179 = true then ((merkle_Extends.f k 2 3 t156 t165 bt161.1).bind fun t180 => (if t180 = true then ((merkle_Extends.f k 2 3 t165 t156 bt161.1).bind fun t181 => (some (!t181))) else (none))) else (none))) else (none)))) else (none))) else (none))) else (none)) else (none))) else (none)) else (none)) else (none)))) else (none))))))) else (none)) else (none))))) = some r := H
  have A1 := Aside0.mk A10
  clear A10
  replace H := Option.bind_eq_some_iff.mp H
  obtain ⟨t151, A20, H⟩ := H
  replace H : ((merkle_Leaf.f (⟨#[99]⟩ : ByteArray)).bind fun t152 => ((some (([t150, t151, t152] : List ByteArray) : List ByteArray)).bind fun y153 => (if 1 + t150.size ≤ 9223372036854775807 then (if ((⟨#[1]⟩ : ByteArray) ++ t150).size + t151.size ≤ 9223372036854775807 then ((sum_Sha.f (((⟨#[1]⟩ : ByteArray) ++ t150) ++ t151)).bind fun t156 => ((merkle_Path.f y153 2).bind fun bt157 => ((merkle_Link.f y153 2).bind fun bt161 => ((merkle_Root.f y153).bind fun t165 => ((sum_Sha.f (⟨#[0, 97]⟩ : ByteArray)).bind fun t166 => (if t150.toList = t166.toList then ((merkle_Root.f ([] : List ByteArray)).bind fun t167 => ((sum_Sha.f (⟨#[]⟩ : ByteArray)).bind fun t168 => (if t167.toList = t168.toList then (if 1 + t156.size ≤ 9223372036854775807 then (if ((⟨#[1]⟩ : ByteArray) ++ t156).size + t152.size ≤ 9223372036854775807 then ((sum_Sha.f (((⟨#[1]⟩ : ByteArray) ++ t156) ++ t152)).bind fun t169 => (if t165.toList = t169.toList then (if bt157.2 = true then ((agoraref08_Same.f k bt157.1 (([t156] : List ByteArray))).bind fun t173 => (if t173 = true then ((merkle_Includes.f k t152 2 3 t165 bt157.1).bind fun t174 => (if t174 = true then ((merkle_Includes.f k t152 1 3 t165 bt157.1).bind fun t175 => (if t175 = true then (none) else (if bt161.2 = true then ((agoraref08_Same.f k bt161.1 (([t152] : List ByteArray))).bind fun t179 => (if t179 = true then ((merkle_Extends.f k 2 3 t156 t165 bt161.1).bind fun t180 => (if t180 = true then ((merkle_Extends.f k 2 3 t165 t156 bt161.1).bind fun t181 => (some (!t181))) else (none))) else (none))) else (none)))) else (none))) else (none))) else (none)) else (none))) else (none)) else (none)) else (none)))) else (none))))))) else (none)) else (none)))) = some r := H
  have A2 := Aside0.mk A20
  clear A20
  replace H := Option.bind_eq_some_iff.mp H
  obtain ⟨t152, A30, H⟩ := H
  replace H : ((some (([t150, t151, t152] : List ByteArray) : List ByteArray)).bind fun y153 => (if 1 + t150.size ≤ 9223372036854775807 then (if ((⟨#[1]⟩ : ByteArray) ++ t150).size + t151.size ≤ 9223372036854775807 then ((sum_Sha.f (((⟨#[1]⟩ : ByteArray) ++ t150) ++ t151)).bind fun t156 => ((merkle_Path.f y153 2).bind fun bt157 => ((merkle_Link.f y153 2).bind fun bt161 => ((merkle_Root.f y153).bind fun t165 => ((sum_Sha.f (⟨#[0, 97]⟩ : ByteArray)).bind fun t166 => (if t150.toList = t166.toList then ((merkle_Root.f ([] : List ByteArray)).bind fun t167 => ((sum_Sha.f (⟨#[]⟩ : ByteArray)).bind fun t168 => (if t167.toList = t168.toList then (if 1 + t156.size ≤ 9223372036854775807 then (if ((⟨#[1]⟩ : ByteArray) ++ t156).size + t152.size ≤ 9223372036854775807 then ((sum_Sha.f (((⟨#[1]⟩ : ByteArray) ++ t156) ++ t152)).bind fun t169 => (if t165.toList = t169.toList then (if bt157.2 = true then ((agoraref08_Same.f k bt157.1 (([t156] : List ByteArray))).bind fun t173 => (if t173 = true then ((merkle_Includes.f k t152 2 3 t165 bt157.1).bind fun t174 => (if t174 = true then ((merkle_Includes.f k t152 1 3 t165 bt157.1).bind fun t175 => (if t175 = true then (none) else (if bt161.2 = true then ((agoraref08_Same.f k bt161.1 (([t152] : List ByteArray))).bind fun t179 => (if t179 = true then ((merkle_Extends.f k 2 3 t156 t165 bt161.1).bind fun t180 => (if t180 = true then ((merkle_Extends.f k 2 3 t165 t156 bt161.1).bind fun t181 => (some (!t181))) else (none))) else (none))) else (none)))) else (none))) else (none))) else (none)) else (none))) else (none)) else (none)) else (none)))) else (none))))))) else (none)) else (none))) = some r := H
  have A3 := Aside0.mk A30
  clear A30
  obtain ⟨y153, hy153⟩ : ∃ y_ : List ByteArray, y_ = (([t150, t151, t152] : List ByteArray)) := ⟨_, rfl⟩
  replace H : (if 1 + t150.size ≤ 9223372036854775807 then (if ((⟨#[1]⟩ : ByteArray) ++ t150).size + t151.size ≤ 9223372036854775807 then ((sum_Sha.f (((⟨#[1]⟩ : ByteArray) ++ t150) ++ t151)).bind fun t156 => ((merkle_Path.f y153 2).bind fun bt157 => ((merkle_Link.f y153 2).bind fun bt161 => ((merkle_Root.f y153).bind fun t165 => ((sum_Sha.f (⟨#[0, 97]⟩ : ByteArray)).bind fun t166 => (if t150.toList = t166.toList then ((merkle_Root.f ([] : List ByteArray)).bind fun t167 => ((sum_Sha.f (⟨#[]⟩ : ByteArray)).bind fun t168 => (if t167.toList = t168.toList then (if 1 + t156.size ≤ 9223372036854775807 then (if ((⟨#[1]⟩ : ByteArray) ++ t156).size + t152.size ≤ 9223372036854775807 then ((sum_Sha.f (((⟨#[1]⟩ : ByteArray) ++ t156) ++ t152)).bind fun t169 => (if t165.toList = t169.toList then (if bt157.2 = true then ((agoraref08_Same.f k bt157.1 (([t156] : List ByteArray))).bind fun t173 => (if t173 = true then ((merkle_Includes.f k t152 2 3 t165 bt157.1).bind fun t174 => (if t174 = true then ((merkle_Includes.f k t152 1 3 t165 bt157.1).bind fun t175 => (if t175 = true then (none) else (if bt161.2 = true then ((agoraref08_Same.f k bt161.1 (([t152] : List ByteArray))).bind fun t179 => (if t179 = true then ((merkle_Extends.f k 2 3 t156 t165 bt161.1).bind fun t180 => (if t180 = true then ((merkle_Extends.f k 2 3 t165 t156 bt161.1).bind fun t181 => (some (!t181))) else (none))) else (none))) else (none)))) else (none))) else (none))) else (none)) else (none))) else (none)) else (none)) else (none)))) else (none))))))) else (none)) else (none)) = some r := by first | (rw [hy153]; with_reducible exact H) | (have H2_ := (Option.bind_some _ _).symm.trans H; rw [hy153]; with_reducible exact H2_) | (have H2_ := (Option.bind_some _ _).symm.trans H; with_reducible exact H2_) | with_reducible exact H | (rw [hy153]; exact H) | exact H
  have Ny153 := Aside0.mk hy153
  clear hy153
  by_cases c4 : 1 + t150.size ≤ 9223372036854775807
  · rw [if_pos c4] at H
    have c4b0 := eq_true c4
    have c4b1 : decide (1 + t150.size ≤ 9223372036854775807) = true := decide_eq_true c4
    try have c4b2 : (9223372036854775807 < 1 + t150.size) = False := eq_false (Nat.not_lt.2 c4)
    by_cases c5 : ((⟨#[1]⟩ : ByteArray) ++ t150).size + t151.size ≤ 9223372036854775807
    · rw [if_pos c5] at H
      have c5b0 := eq_true c5
      have c5b1 : decide (((⟨#[1]⟩ : ByteArray) ++ t150).size + t151.size ≤ 9223372036854775807) = true := decide_eq_true c5
      try have c5b2 : (9223372036854775807 < ((⟨#[1]⟩ : ByteArray) ++ t150).size + t151.size) = False := eq_false (Nat.not_lt.2 c5)
      try (have c5b3 := c5b2; simp only [ByteArray.size_append] at c5b3)
      replace H := Option.bind_eq_some_iff.mp H
      obtain ⟨t156, A60, H⟩ := H
      replace H : ((merkle_Path.f y153 2).bind fun bt157 => ((merkle_Link.f y153 2).bind fun bt161 => ((merkle_Root.f y153).bind fun t165 => ((sum_Sha.f (⟨#[0, 97]⟩ : ByteArray)).bind fun t166 => (if t150.toList = t166.toList then ((merkle_Root.f ([] : List ByteArray)).bind fun t167 => ((sum_Sha.f (⟨#[]⟩ : ByteArray)).bind fun t168 => (if t167.toList = t168.toList then (if 1 + t156.size ≤ 9223372036854775807 then (if ((⟨#[1]⟩ : ByteArray) ++ t156).size + t152.size ≤ 9223372036854775807 then ((sum_Sha.f (((⟨#[1]⟩ : ByteArray) ++ t156) ++ t152)).bind fun t169 => (if t165.toList = t169.toList then (if bt157.2 = true then ((agoraref08_Same.f k bt157.1 (([t156] : List ByteArray))).bind fun t173 => (if t173 = true then ((merkle_Includes.f k t152 2 3 t165 bt157.1).bind fun t174 => (if t174 = true then ((merkle_Includes.f k t152 1 3 t165 bt157.1).bind fun t175 => (if t175 = true then (none) else (if bt161.2 = true then ((agoraref08_Same.f k bt161.1 (([t152] : List ByteArray))).bind fun t179 => (if t179 = true then ((merkle_Extends.f k 2 3 t156 t165 bt161.1).bind fun t180 => (if t180 = true then ((merkle_Extends.f k 2 3 t165 t156 bt161.1).bind fun t181 => (some (!t181))) else (none))) else (none))) else (none)))) else (none))) else (none))) else (none)) else (none))) else (none)) else (none)) else (none)))) else (none)))))) = some r := H
      have A6 := Aside0.mk A60
      clear A60
      replace H := Option.bind_eq_some_iff.mp H
      obtain ⟨⟨t157, t158⟩, A70, H⟩ := H
      replace H : ((merkle_Link.f y153 2).bind fun bt161 => ((merkle_Root.f y153).bind fun t165 => ((sum_Sha.f (⟨#[0, 97]⟩ : ByteArray)).bind fun t166 => (if t150.toList = t166.toList then ((merkle_Root.f ([] : List ByteArray)).bind fun t167 => ((sum_Sha.f (⟨#[]⟩ : ByteArray)).bind fun t168 => (if t167.toList = t168.toList then (if 1 + t156.size ≤ 9223372036854775807 then (if ((⟨#[1]⟩ : ByteArray) ++ t156).size + t152.size ≤ 9223372036854775807 then ((sum_Sha.f (((⟨#[1]⟩ : ByteArray) ++ t156) ++ t152)).bind fun t169 => (if t165.toList = t169.toList then (if t158 = true then ((agoraref08_Same.f k t157 (([t156] : List ByteArray))).bind fun t173 => (if t173 = true then ((merkle_Includes.f k t152 2 3 t165 t157).bind fun t174 => (if t174 = true then ((merkle_Includes.f k t152 1 3 t165 t157).bind fun t175 => (if t175 = true then (none) else (if bt161.2 = true then ((agoraref08_Same.f k bt161.1 (([t152] : List ByteArray))).bind fun t179 => (if t179 = true then ((merkle_Extends.f k 2 3 t156 t165 bt161.1).bind fun t180 => (if t180 = true then ((merkle_Extends.f k 2 3 t165 t156 bt161.1).bind fun t181 => (some (!t181))) else (none))) else (none))) else (none)))) else (none))) else (none))) else (none)) else (none))) else (none)) else (none)) else (none)))) else (none))))) = some r := H
      have A7 := Aside0.mk A70
      clear A70
      replace H := Option.bind_eq_some_iff.mp H
      obtain ⟨⟨t161, t162⟩, A80, H⟩ := H
      replace H : ((merkle_Root.f y153).bind fun t165 => ((sum_Sha.f (⟨#[0, 97]⟩ : ByteArray)).bind fun t166 => (if t150.toList = t166.toList then ((merkle_Root.f ([] : List ByteArray)).bind fun t167 => ((sum_Sha.f (⟨#[]⟩ : ByteArray)).bind fun t168 => (if t167.toList = t168.toList then (if 1 + t156.size ≤ 9223372036854775807 then (if ((⟨#[1]⟩ : ByteArray) ++ t156).size + t152.size ≤ 9223372036854775807 then ((sum_Sha.f (((⟨#[1]⟩ : ByteArray) ++ t156) ++ t152)).bind fun t169 => (if t165.toList = t169.toList then (if t158 = true then ((agoraref08_Same.f k t157 (([t156] : List ByteArray))).bind fun t173 => (if t173 = true then ((merkle_Includes.f k t152 2 3 t165 t157).bind fun t174 => (if t174 = true then ((merkle_Includes.f k t152 1 3 t165 t157).bind fun t175 => (if t175 = true then (none) else (if t162 = true then ((agoraref08_Same.f k t161 (([t152] : List ByteArray))).bind fun t179 => (if t179 = true then ((merkle_Extends.f k 2 3 t156 t165 t161).bind fun t180 => (if t180 = true then ((merkle_Extends.f k 2 3 t165 t156 t161).bind fun t181 => (some (!t181))) else (none))) else (none))) else (none)))) else (none))) else (none))) else (none)) else (none))) else (none)) else (none)) else (none)))) else (none)))) = some r := H
      have A8 := Aside0.mk A80
      clear A80
      replace H := Option.bind_eq_some_iff.mp H
      obtain ⟨t165, A90, H⟩ := H
      replace H : ((sum_Sha.f (⟨#[0, 97]⟩ : ByteArray)).bind fun t166 => (if t150.toList = t166.toList then ((merkle_Root.f ([] : List ByteArray)).bind fun t167 => ((sum_Sha.f (⟨#[]⟩ : ByteArray)).bind fun t168 => (if t167.toList = t168.toList then (if 1 + t156.size ≤ 9223372036854775807 then (if ((⟨#[1]⟩ : ByteArray) ++ t156).size + t152.size ≤ 9223372036854775807 then ((sum_Sha.f (((⟨#[1]⟩ : ByteArray) ++ t156) ++ t152)).bind fun t169 => (if t165.toList = t169.toList then (if t158 = true then ((agoraref08_Same.f k t157 (([t156] : List ByteArray))).bind fun t173 => (if t173 = true then ((merkle_Includes.f k t152 2 3 t165 t157).bind fun t174 => (if t174 = true then ((merkle_Includes.f k t152 1 3 t165 t157).bind fun t175 => (if t175 = true then (none) else (if t162 = true then ((agoraref08_Same.f k t161 (([t152] : List ByteArray))).bind fun t179 => (if t179 = true then ((merkle_Extends.f k 2 3 t156 t165 t161).bind fun t180 => (if t180 = true then ((merkle_Extends.f k 2 3 t165 t156 t161).bind fun t181 => (some (!t181))) else (none))) else (none))) else (none)))) else (none))) else (none))) else (none)) else (none))) else (none)) else (none)) else (none)))) else (none))) = some r := H
      have A9 := Aside0.mk A90
      clear A90
      replace H := Option.bind_eq_some_iff.mp H
      obtain ⟨t166, A100, H⟩ := H
      replace H : (if t150.toList = t166.toList then ((merkle_Root.f ([] : List ByteArray)).bind fun t167 => ((sum_Sha.f (⟨#[]⟩ : ByteArray)).bind fun t168 => (if t167.toList = t168.toList then (if 1 + t156.size ≤ 9223372036854775807 then (if ((⟨#[1]⟩ : ByteArray) ++ t156).size + t152.size ≤ 9223372036854775807 then ((sum_Sha.f (((⟨#[1]⟩ : ByteArray) ++ t156) ++ t152)).bind fun t169 => (if t165.toList = t169.toList then (if t158 = true then ((agoraref08_Same.f k t157 (([t156] : List ByteArray))).bind fun t173 => (if t173 = true then ((merkle_Includes.f k t152 2 3 t165 t157).bind fun t174 => (if t174 = true then ((merkle_Includes.f k t152 1 3 t165 t157).bind fun t175 => (if t175 = true then (none) else (if t162 = true then ((agoraref08_Same.f k t161 (([t152] : List ByteArray))).bind fun t179 => (if t179 = true then ((merkle_Extends.f k 2 3 t156 t165 t161).bind fun t180 => (if t180 = true then ((merkle_Extends.f k 2 3 t165 t156 t161).bind fun t181 => (some (!t181))) else (none))) else (none))) else (none)))) else (none))) else (none))) else (none)) else (none))) else (none)) else (none)) else (none)))) else (none)) = some r := H
      have A10 := Aside0.mk A100
      clear A100
      by_cases c11 : t150.toList = t166.toList
      · rw [if_pos c11] at H
        have c11b0 : (t150.toList == t166.toList) = true := beq_iff_eq.mpr c11
        have c11b1 : (t150.toList != t166.toList) = false := bne_eq_false_iff_eq.mpr c11
        clear c11
        replace H := Option.bind_eq_some_iff.mp H
        obtain ⟨t167, A120, H⟩ := H
        replace H : ((sum_Sha.f (⟨#[]⟩ : ByteArray)).bind fun t168 => (if t167.toList = t168.toList then (if 1 + t156.size ≤ 9223372036854775807 then (if ((⟨#[1]⟩ : ByteArray) ++ t156).size + t152.size ≤ 9223372036854775807 then ((sum_Sha.f (((⟨#[1]⟩ : ByteArray) ++ t156) ++ t152)).bind fun t169 => (if t165.toList = t169.toList then (if t158 = true then ((agoraref08_Same.f k t157 (([t156] : List ByteArray))).bind fun t173 => (if t173 = true then ((merkle_Includes.f k t152 2 3 t165 t157).bind fun t174 => (if t174 = true then ((merkle_Includes.f k t152 1 3 t165 t157).bind fun t175 => (if t175 = true then (none) else (if t162 = true then ((agoraref08_Same.f k t161 (([t152] : List ByteArray))).bind fun t179 => (if t179 = true then ((merkle_Extends.f k 2 3 t156 t165 t161).bind fun t180 => (if t180 = true then ((merkle_Extends.f k 2 3 t165 t156 t161).bind fun t181 => (some (!t181))) else (none))) else (none))) else (none)))) else (none))) else (none))) else (none)) else (none))) else (none)) else (none)) else (none))) = some r := H
        have A12 := Aside0.mk A120
        clear A120
        replace H := Option.bind_eq_some_iff.mp H
        obtain ⟨t168, A130, H⟩ := H
        replace H : (if t167.toList = t168.toList then (if 1 + t156.size ≤ 9223372036854775807 then (if ((⟨#[1]⟩ : ByteArray) ++ t156).size + t152.size ≤ 9223372036854775807 then ((sum_Sha.f (((⟨#[1]⟩ : ByteArray) ++ t156) ++ t152)).bind fun t169 => (if t165.toList = t169.toList then (if t158 = true then ((agoraref08_Same.f k t157 (([t156] : List ByteArray))).bind fun t173 => (if t173 = true then ((merkle_Includes.f k t152 2 3 t165 t157).bind fun t174 => (if t174 = true then ((merkle_Includes.f k t152 1 3 t165 t157).bind fun t175 => (if t175 = true then (none) else (if t162 = true then ((agoraref08_Same.f k t161 (([t152] : List ByteArray))).bind fun t179 => (if t179 = true then ((merkle_Extends.f k 2 3 t156 t165 t161).bind fun t180 => (if t180 = true then ((merkle_Extends.f k 2 3 t165 t156 t161).bind fun t181 => (some (!t181))) else (none))) else (none))) else (none)))) else (none))) else (none))) else (none)) else (none))) else (none)) else (none)) else (none)) = some r := H
        have A13 := Aside0.mk A130
        clear A130
        by_cases c14 : t167.toList = t168.toList
        · rw [if_pos c14] at H
          have c14b0 : (t167.toList == t168.toList) = true := beq_iff_eq.mpr c14
          have c14b1 : (t167.toList != t168.toList) = false := bne_eq_false_iff_eq.mpr c14
          clear c14
          by_cases c15 : 1 + t156.size ≤ 9223372036854775807
          · rw [if_pos c15] at H
            have c15b0 := eq_true c15
            have c15b1 : decide (1 + t156.size ≤ 9223372036854775807) = true := decide_eq_true c15
            try have c15b2 : (9223372036854775807 < 1 + t156.size) = False := eq_false (Nat.not_lt.2 c15)
            by_cases c16 : ((⟨#[1]⟩ : ByteArray) ++ t156).size + t152.size ≤ 9223372036854775807
            · rw [if_pos c16] at H
              have c16b0 := eq_true c16
              have c16b1 : decide (((⟨#[1]⟩ : ByteArray) ++ t156).size + t152.size ≤ 9223372036854775807) = true := decide_eq_true c16
              try have c16b2 : (9223372036854775807 < ((⟨#[1]⟩ : ByteArray) ++ t156).size + t152.size) = False := eq_false (Nat.not_lt.2 c16)
              try (have c16b3 := c16b2; simp only [ByteArray.size_append] at c16b3)
              replace H := Option.bind_eq_some_iff.mp H
              obtain ⟨t169, A170, H⟩ := H
              replace H : (if t165.toList = t169.toList then (if t158 = true then ((agoraref08_Same.f k t157 (([t156] : List ByteArray))).bind fun t173 => (if t173 = true then ((merkle_Includes.f k t152 2 3 t165 t157).bind fun t174 => (if t174 = true then ((merkle_Includes.f k t152 1 3 t165 t157).bind fun t175 => (if t175 = true then (none) else (if t162 = true then ((agoraref08_Same.f k t161 (([t152] : List ByteArray))).bind fun t179 => (if t179 = true then ((merkle_Extends.f k 2 3 t156 t165 t161).bind fun t180 => (if t180 = true then ((merkle_Extends.f k 2 3 t165 t156 t161).bind fun t181 => (some (!t181))) else (none))) else (none))) else (none)))) else (none))) else (none))) else (none)) else (none)) = some r := H
              have A17 := Aside0.mk A170
              clear A170
              by_cases c18 : t165.toList = t169.toList
              · rw [if_pos c18] at H
                have c18b0 : (t165.toList == t169.toList) = true := beq_iff_eq.mpr c18
                have c18b1 : (t165.toList != t169.toList) = false := bne_eq_false_iff_eq.mpr c18
                clear c18
                by_cases c19 : t158 = true
                · subst c19
                  have H1 : ((agoraref08_Same.f k t157 (([t156] : List ByteArray))).bind fun t173 => (if t173 = true then ((merkle_Includes.f k t152 2 3 t165 t157).bind fun t174 => (if t174 = true then ((merkle_Includes.f k t152 1 3 t165 t157).bind fun t175 => (if t175 = true then (none) else (if t162 = true then ((agoraref08_Same.f k t161 (([t152] : List ByteArray))).bind fun t179 => (if t179 = true then ((merkle_Extends.f k 2 3 t156 t165 t161).bind fun t180 => (if t180 = true then ((merkle_Extends.f k 2 3 t165 t156 t161).bind fun t181 => (some (!t181))) else (none))) else (none))) else (none)))) else (none))) else (none))) = some r := by rw [if_pos rfl] at H; exact H
                  clear H
                  have H := H1
                  clear H1
                  obtain ⟨y170, hy170⟩ : ∃ y_ : List ByteArray, y_ = (([t156] : List ByteArray)) := ⟨_, rfl⟩
                  replace H : ((agoraref08_Same.f k t157 y170).bind fun t173 => (if t173 = true then ((merkle_Includes.f k t152 2 3 t165 t157).bind fun t174 => (if t174 = true then ((merkle_Includes.f k t152 1 3 t165 t157).bind fun t175 => (if t175 = true then (none) else (if t162 = true then ((agoraref08_Same.f k t161 (([t152] : List ByteArray))).bind fun t179 => (if t179 = true then ((merkle_Extends.f k 2 3 t156 t165 t161).bind fun t180 => (if t180 = true then ((merkle_Extends.f k 2 3 t165 t156 t161).bind fun t181 => (some (!t181))) else (none))) else (none))) else (none)))) else (none))) else (none))) = some r := by first | (rw [hy170]; with_reducible exact H) | (have H2_ := (Option.bind_some _ _).symm.trans H; rw [hy170]; with_reducible exact H2_) | (have H2_ := (Option.bind_some _ _).symm.trans H; with_reducible exact H2_) | with_reducible exact H | (rw [hy170]; exact H) | exact H
                  have Ny170 := Aside0.mk hy170
                  clear hy170
                  replace H := Option.bind_eq_some_iff.mp H
                  obtain ⟨t173, A200, H⟩ := H
                  replace H : (if t173 = true then ((merkle_Includes.f k t152 2 3 t165 t157).bind fun t174 => (if t174 = true then ((merkle_Includes.f k t152 1 3 t165 t157).bind fun t175 => (if t175 = true then (none) else (if t162 = true then ((agoraref08_Same.f k t161 (([t152] : List ByteArray))).bind fun t179 => (if t179 = true then ((merkle_Extends.f k 2 3 t156 t165 t161).bind fun t180 => (if t180 = true then ((merkle_Extends.f k 2 3 t165 t156 t161).bind fun t181 => (some (!t181))) else (none))) else (none))) else (none)))) else (none))) else (none)) = some r := H
                  have A20 := Aside0.mk A200
                  clear A200
                  by_cases c21 : t173 = true
                  · subst c21
                    have H1 : ((merkle_Includes.f k t152 2 3 t165 t157).bind fun t174 => (if t174 = true then ((merkle_Includes.f k t152 1 3 t165 t157).bind fun t175 => (if t175 = true then (none) else (if t162 = true then ((agoraref08_Same.f k t161 (([t152] : List ByteArray))).bind fun t179 => (if t179 = true then ((merkle_Extends.f k 2 3 t156 t165 t161).bind fun t180 => (if t180 = true then ((merkle_Extends.f k 2 3 t165 t156 t161).bind fun t181 => (some (!t181))) else (none))) else (none))) else (none)))) else (none))) = some r := by rw [if_pos rfl] at H; exact H
                    clear H
                    have H := H1
                    clear H1
                    replace H := Option.bind_eq_some_iff.mp H
                    obtain ⟨t174, A220, H⟩ := H
                    replace H : (if t174 = true then ((merkle_Includes.f k t152 1 3 t165 t157).bind fun t175 => (if t175 = true then (none) else (if t162 = true then ((agoraref08_Same.f k t161 (([t152] : List ByteArray))).bind fun t179 => (if t179 = true then ((merkle_Extends.f k 2 3 t156 t165 t161).bind fun t180 => (if t180 = true then ((merkle_Extends.f k 2 3 t165 t156 t161).bind fun t181 => (some (!t181))) else (none))) else (none))) else (none)))) else (none)) = some r := H
                    have A22 := Aside0.mk A220
                    clear A220
                    by_cases c23 : t174 = true
                    · subst c23
                      have H1 : ((merkle_Includes.f k t152 1 3 t165 t157).bind fun t175 => (if t175 = true then (none) else (if t162 = true then ((agoraref08_Same.f k t161 (([t152] : List ByteArray))).bind fun t179 => (if t179 = true then ((merkle_Extends.f k 2 3 t156 t165 t161).bind fun t180 => (if t180 = true then ((merkle_Extends.f k 2 3 t165 t156 t161).bind fun t181 => (some (!t181))) else (none))) else (none))) else (none)))) = some r := by rw [if_pos rfl] at H; exact H
                      clear H
                      have H := H1
                      clear H1
                      replace H := Option.bind_eq_some_iff.mp H
                      obtain ⟨t175, A240, H⟩ := H
                      replace H : (if t175 = true then (none) else (if t162 = true then ((agoraref08_Same.f k t161 (([t152] : List ByteArray))).bind fun t179 => (if t179 = true then ((merkle_Extends.f k 2 3 t156 t165 t161).bind fun t180 => (if t180 = true then ((merkle_Extends.f k 2 3 t165 t156 t161).bind fun t181 => (some (!t181))) else (none))) else (none))) else (none))) = some r := H
                      have A24 := Aside0.mk A240
                      clear A240
                      by_cases c25 : t175 = true
                      · subst c25
                        have H1 : (none) = some r := by rw [if_pos rfl] at H; exact H
                        clear H
                        have H := H1
                        clear H1
                        exact absurd H (by simp)
                      · replace c25 := Bool.eq_false_iff.mpr c25
                        subst c25
                        have H1 : (if t162 = true then ((agoraref08_Same.f k t161 (([t152] : List ByteArray))).bind fun t179 => (if t179 = true then ((merkle_Extends.f k 2 3 t156 t165 t161).bind fun t180 => (if t180 = true then ((merkle_Extends.f k 2 3 t165 t156 t161).bind fun t181 => (some (!t181))) else (none))) else (none))) else (none)) = some r := by rw [if_neg (show ¬ (false = true) by decide)] at H; exact H
                        clear H
                        have H := H1
                        clear H1
                        by_cases c26 : t162 = true
                        · subst c26
                          have H1 : ((agoraref08_Same.f k t161 (([t152] : List ByteArray))).bind fun t179 => (if t179 = true then ((merkle_Extends.f k 2 3 t156 t165 t161).bind fun t180 => (if t180 = true then ((merkle_Extends.f k 2 3 t165 t156 t161).bind fun t181 => (some (!t181))) else (none))) else (none))) = some r := by rw [if_pos rfl] at H; exact H
                          clear H
                          have H := H1
                          clear H1
                          obtain ⟨y176, hy176⟩ : ∃ y_ : List ByteArray, y_ = (([t152] : List ByteArray)) := ⟨_, rfl⟩
                          replace H : ((agoraref08_Same.f k t161 y176).bind fun t179 => (if t179 = true then ((merkle_Extends.f k 2 3 t156 t165 t161).bind fun t180 => (if t180 = true then ((merkle_Extends.f k 2 3 t165 t156 t161).bind fun t181 => (some (!t181))) else (none))) else (none))) = some r := by first | (rw [hy176]; with_reducible exact H) | (have H2_ := (Option.bind_some _ _).symm.trans H; rw [hy176]; with_reducible exact H2_) | (have H2_ := (Option.bind_some _ _).symm.trans H; with_reducible exact H2_) | with_reducible exact H | (rw [hy176]; exact H) | exact H
                          have Ny176 := Aside0.mk hy176
                          clear hy176
                          replace H := Option.bind_eq_some_iff.mp H
                          obtain ⟨t179, A270, H⟩ := H
                          replace H : (if t179 = true then ((merkle_Extends.f k 2 3 t156 t165 t161).bind fun t180 => (if t180 = true then ((merkle_Extends.f k 2 3 t165 t156 t161).bind fun t181 => (some (!t181))) else (none))) else (none)) = some r := H
                          have A27 := Aside0.mk A270
                          clear A270
                          by_cases c28 : t179 = true
                          · subst c28
                            have H1 : ((merkle_Extends.f k 2 3 t156 t165 t161).bind fun t180 => (if t180 = true then ((merkle_Extends.f k 2 3 t165 t156 t161).bind fun t181 => (some (!t181))) else (none))) = some r := by rw [if_pos rfl] at H; exact H
                            clear H
                            have H := H1
                            clear H1
                            replace H := Option.bind_eq_some_iff.mp H
                            obtain ⟨t180, A290, H⟩ := H
                            replace H : (if t180 = true then ((merkle_Extends.f k 2 3 t165 t156 t161).bind fun t181 => (some (!t181))) else (none)) = some r := H
                            have A29 := Aside0.mk A290
                            clear A290
                            by_cases c30 : t180 = true
                            · subst c30
                              have H1 : ((merkle_Extends.f k 2 3 t165 t156 t161).bind fun t181 => (some (!t181))) = some r := by rw [if_pos rfl] at H; exact H
                              clear H
                              have H := H1
                              clear H1
                              replace H := Option.bind_eq_some_iff.mp H
                              obtain ⟨t181, A310, H⟩ := H
                              replace H : (some (!t181)) = some r := H
                              have A31 := Aside0.mk A310
                              clear A310
                              obtain rfl := Option.some.inj H
                              go_enter Try.func9, Try.ntmps9
                              go_wp2_with (first | ((with_reducible refine gate_callee (f := 11) rfl ?_); refine goesL_ (some 11) rfl rfl Try.func11 (by kernel_rfl) rfl #[.string (⟨#[97]⟩ : ByteArray)] rfl (by (try simp only [List.map_toArray, List.map_cons, List.map_nil]); first | done | rfl | (simp only [List.length_drop, List.length_take]; rfl)) ?_; (with_reducible refine (merkle_Leaf.calls (⟨#[97]⟩ : ByteArray) t150 _ A1.out).mono ?_); rintro e w32 ⟨rfl, hb⟩; refine ⟨_, rfl, ?_⟩; have n0_ := Aside0.mk (below_step (by repeat (first | (with_reducible first | exact HB.out | apply below_alloc | apply pw_below_drewN | apply below_drew1) | exact HB.out)) hb); clear HB; have HB := n0_; clear n0_; (try clear hb); (try clear hb2); (try clear hk); (try clear hi)) | ((with_reducible refine gate_callee (f := 11) rfl ?_); refine goesL_ (some 12) rfl rfl Try.func11 (by kernel_rfl) rfl #[.string (⟨#[98]⟩ : ByteArray)] rfl (by (try simp only [List.map_toArray, List.map_cons, List.map_nil]); first | done | rfl | (simp only [List.length_drop, List.length_take]; rfl)) ?_; (with_reducible refine (merkle_Leaf.calls (⟨#[98]⟩ : ByteArray) t151 _ A2.out).mono ?_); rintro e w33 ⟨rfl, hb⟩; refine ⟨_, rfl, ?_⟩; have n0_ := Aside0.mk (below_step (by repeat (first | (with_reducible first | exact HB.out | apply below_alloc | apply pw_below_drewN | apply below_drew1) | exact HB.out)) hb); clear HB; have HB := n0_; clear n0_; (try clear hb); (try clear hb2); (try clear hk); (try clear hi)) | ((with_reducible refine gate_callee (f := 11) rfl ?_); refine goesL_ (some 13) rfl rfl Try.func11 (by kernel_rfl) rfl #[.string (⟨#[99]⟩ : ByteArray)] rfl (by (try simp only [List.map_toArray, List.map_cons, List.map_nil]); first | done | rfl | (simp only [List.length_drop, List.length_take]; rfl)) ?_; (with_reducible refine (merkle_Leaf.calls (⟨#[99]⟩ : ByteArray) t152 _ A3.out).mono ?_); rintro e w34 ⟨rfl, hb⟩; refine ⟨_, rfl, ?_⟩; have n0_ := Aside0.mk (below_step (by repeat (first | (with_reducible first | exact HB.out | apply below_alloc | apply pw_below_drewN | apply below_drew1) | exact HB.out)) hb); clear HB; have HB := n0_; clear n0_; (try clear hb); (try clear hb2); (try clear hk); (try clear hi)) | ((with_reducible refine gate_dst (N := 17) rfl ?_); (try (refine gate_guard (by rfl) ?_; dsimp only)); refine Kd.R_lit Kd.string _ 9 ?hg (N := 17) ?hd (xs := ([t150, t151, t152] : List ByteArray)) (inner := [.string t150, .string t151, .string t152]) (ok := fun _ => True) (okp := fun _ => True) ?hr ?hp (fun _ hk => hk) trivial (Below.refl _ _) (Nat.le_refl _) (by simp) ?_; (case hd => rfl); (case hg => rfl); (case hr => first | (go_simp; done) | (go_simp; rfl) | (go_simp; simp only [IntKind.wrap_u32', Int.emod_add_emod, Int.add_emod_emod])); (case hp => exact (Reps.one (show Kd.M Kd.string _ _ _ t150 [.string t150] from rfl) (Reps.one (show Kd.M Kd.string _ _ _ t151 [.string t151] from rfl) (Reps.one (show Kd.M Kd.string _ _ _ t152 [.string t152] from rfl) (Reps.none _ _))))); intro v154 w35 ho36 hb hg_ hnew_; clear hg_ hnew_; (first | rw [← Ny153.out] at ho36 | (simp only [Int.reduceToNat] at ho36; rw [← Ny153.out] at ho36)); have n0_ := Aside0.mk (Kd.R_lower ho36 (below_size (by repeat (first | (with_reducible first | exact HB.out | apply below_alloc | apply pw_below_drewN | apply below_drew1) | exact HB.out)))); have n1_ := Aside0.mk (below_step (by repeat (first | (with_reducible first | exact HB.out | apply below_alloc | apply pw_below_drewN | apply below_drew1) | exact HB.out)) hb); clear HB; have HO155 := n0_; have HB := n1_; clear n0_ n1_; clear hb ho36) | ((with_reducible refine gate_callee (f := 27) rfl ?_); refine goesL_ (some 22) rfl rfl Try.func27 (by kernel_rfl) rfl #[.string (((⟨#[1]⟩ : ByteArray) ++ t150) ++ t151)] rfl (by (try simp only [List.map_toArray, List.map_cons, List.map_nil]); first | done | rfl | (simp only [List.length_drop, List.length_take]; rfl)) ?_; (with_reducible refine (sum_Sha.calls (((⟨#[1]⟩ : ByteArray) ++ t150) ++ t151) t156 _ A6.out).mono ?_); rintro e w37 ⟨rfl, hb⟩; refine ⟨_, rfl, ?_⟩; have n0_ := Aside0.mk (Kd.R_below (by (with_reducible repeat (first | apply Kd.R_alloc | apply Kd.R_drewN | apply Kd.R_drew)); exact HO155.out) hb); have n1_ := Aside0.mk (below_step (by repeat (first | (with_reducible first | exact HB.out | apply below_alloc | apply pw_below_drewN | apply below_drew1) | exact HB.out)) hb); clear HO155; clear HB; have HO155 := n0_; have HB := n1_; clear n0_ n1_; (try clear hb); (try clear hb2); (try clear hk); (try clear hi); obtain ⟨Ao38, co38, eo38⟩ := Kd.R_slice HO155.out; subst eo38) | ((with_reducible refine gate_callee (f := 13) rfl ?_); refine goesL_ (some 25) rfl rfl Try.func13 (by kernel_rfl) rfl #[.slice Ao38 y153.length co38, .int .i64 2] rfl (by (try simp only [List.map_toArray, List.map_cons, List.map_nil]); first | done | rfl | (simp only [List.length_drop, List.length_take]; rfl)) ?_; (with_reducible refine (merkle_Path.calls _ _ y153 2 t157 true _ ?side1 ?side2 A7.out).mono ?_); (case side1 => repeat (first | exact (Kd.R_reads' HO155.out).2.2 | (with_reducible refine Kd.C_alloc ?_ _) | (with_reducible refine Kd.C_drewN ?_ _) | (with_reducible refine Kd.C_drew ?_))); (case side2 => exact (Kd.R_reads' HO155.out).2.1); rintro e w39 ⟨v159, rfl, ho0, hb⟩; refine ⟨_, rfl, ?_⟩; have n0_ := Aside0.mk (Kd.R_elder' (by (with_reducible repeat (first | apply Kd.R_alloc | apply Kd.R_drewN | apply Kd.R_drew)); exact HO155.out) (Kd.R_base ho0) hb); have n1_ := Aside0.mk (Kd.R_lower (Kd.R_new' ho0 (Kd.R_lt (by (with_reducible repeat (first | apply Kd.R_alloc | apply Kd.R_drewN | apply Kd.R_drew)); exact HO155.out))) (below_size (by repeat (first | (with_reducible first | exact HB.out | apply below_alloc | apply pw_below_drewN | apply below_drew1) | exact HB.out)))); have n2_ := Aside0.mk (below_step (by repeat (first | (with_reducible first | exact HB.out | apply below_alloc | apply pw_below_drewN | apply below_drew1) | exact HB.out)) hb); clear HO155; clear HB; have HO155 := n0_; have HO160 := n1_; have HB := n2_; clear n0_ n1_ n2_; (try clear hb); (try clear hb2); (try clear hk); (try clear hi); (try clear ho0)) | ((with_reducible refine gate_callee (f := 14) rfl ?_); refine goesL_ (some 30) rfl rfl Try.func14 (by kernel_rfl) rfl #[.slice Ao38 y153.length co38, .int .i64 2] rfl (by (try simp only [List.map_toArray, List.map_cons, List.map_nil]); first | done | rfl | (simp only [List.length_drop, List.length_take]; rfl)) ?_; (with_reducible refine (merkle_Link.calls _ _ y153 2 t161 true _ ?side1 ?side2 A8.out).mono ?_); (case side1 => repeat (first | exact (Kd.R_reads' HO155.out).2.2 | (with_reducible refine Kd.C_alloc ?_ _) | (with_reducible refine Kd.C_drewN ?_ _) | (with_reducible refine Kd.C_drew ?_))); (case side2 => exact (Kd.R_reads' HO155.out).2.1); rintro e w40 ⟨v163, rfl, ho0, hb⟩; refine ⟨_, rfl, ?_⟩; have n0_ := Aside0.mk (Kd.R_elder' (by (with_reducible repeat (first | apply Kd.R_alloc | apply Kd.R_drewN | apply Kd.R_drew)); exact HO155.out) (Kd.R_base ho0) hb); have n1_ := Aside0.mk (Kd.R_elder' (by (with_reducible repeat (first | apply Kd.R_alloc | apply Kd.R_drewN | apply Kd.R_drew)); exact HO160.out) (Kd.R_base ho0) hb); have n2_ := Aside0.mk (Kd.R_lower (Kd.R_new' (Kd.R_new' ho0 (Kd.R_lt (by (with_reducible repeat (first | apply Kd.R_alloc | apply Kd.R_drewN | apply Kd.R_drew)); exact HO155.out))) (Kd.R_lt (by (with_reducible repeat (first | apply Kd.R_alloc | apply Kd.R_drewN | apply Kd.R_drew)); exact HO160.out))) (below_size (by repeat (first | (with_reducible first | exact HB.out | apply below_alloc | apply pw_below_drewN | apply below_drew1) | exact HB.out)))); have n3_ := Aside0.mk (below_step (by repeat (first | (with_reducible first | exact HB.out | apply below_alloc | apply pw_below_drewN | apply below_drew1) | exact HB.out)) hb); clear HO155; clear HO160; clear HB; have HO155 := n0_; have HO160 := n1_; have HO164 := n2_; have HB := n3_; clear n0_ n1_ n2_ n3_; (try clear hb); (try clear hb2); (try clear hk); (try clear hi); (try clear ho0)) | ((with_reducible refine gate_callee (f := 15) rfl ?_); refine goesL_ (some 34) rfl rfl Try.func15 (by kernel_rfl) rfl #[.slice Ao38 y153.length co38] rfl (by (try simp only [List.map_toArray, List.map_cons, List.map_nil]); first | done | rfl | (simp only [List.length_drop, List.length_take]; rfl)) ?_; (with_reducible refine (merkle_Root.calls _ _ y153 t165 _ ?side1 ?side2 A9.out).mono ?_); (case side1 => repeat (first | exact (Kd.R_reads' HO155.out).2.2 | (with_reducible refine Kd.C_alloc ?_ _) | (with_reducible refine Kd.C_drewN ?_ _) | (with_reducible refine Kd.C_drew ?_))); (case side2 => exact (Kd.R_reads' HO155.out).2.1); rintro e w41 ⟨rfl, hb⟩; refine ⟨_, rfl, ?_⟩; have n0_ := Aside0.mk (Kd.R_below (by (with_reducible repeat (first | apply Kd.R_alloc | apply Kd.R_drewN | apply Kd.R_drew)); exact HO155.out) hb); have n1_ := Aside0.mk (Kd.R_below (by (with_reducible repeat (first | apply Kd.R_alloc | apply Kd.R_drewN | apply Kd.R_drew)); exact HO160.out) hb); have n2_ := Aside0.mk (Kd.R_below (by (with_reducible repeat (first | apply Kd.R_alloc | apply Kd.R_drewN | apply Kd.R_drew)); exact HO164.out) hb); have n3_ := Aside0.mk (below_step (by repeat (first | (with_reducible first | exact HB.out | apply below_alloc | apply pw_below_drewN | apply below_drew1) | exact HB.out)) hb); clear HO155; clear HO160; clear HO164; clear HB; have HO155 := n0_; have HO160 := n1_; have HO164 := n2_; have HB := n3_; clear n0_ n1_ n2_ n3_; (try clear hb); (try clear hb2); (try clear hk); (try clear hi)) | ((with_reducible refine gate_callee (f := 27) rfl ?_); refine goesL_ (some 36) rfl rfl Try.func27 (by kernel_rfl) rfl #[.string (⟨#[0, 97]⟩ : ByteArray)] rfl (by (try simp only [List.map_toArray, List.map_cons, List.map_nil]); first | done | rfl | (simp only [List.length_drop, List.length_take]; rfl)) ?_; (with_reducible refine (sum_Sha.calls (⟨#[0, 97]⟩ : ByteArray) t166 _ A10.out).mono ?_); rintro e w42 ⟨rfl, hb⟩; refine ⟨_, rfl, ?_⟩; have n0_ := Aside0.mk (Kd.R_below (by (with_reducible repeat (first | apply Kd.R_alloc | apply Kd.R_drewN | apply Kd.R_drew)); exact HO155.out) hb); have n1_ := Aside0.mk (Kd.R_below (by (with_reducible repeat (first | apply Kd.R_alloc | apply Kd.R_drewN | apply Kd.R_drew)); exact HO160.out) hb); have n2_ := Aside0.mk (Kd.R_below (by (with_reducible repeat (first | apply Kd.R_alloc | apply Kd.R_drewN | apply Kd.R_drew)); exact HO164.out) hb); have n3_ := Aside0.mk (below_step (by repeat (first | (with_reducible first | exact HB.out | apply below_alloc | apply pw_below_drewN | apply below_drew1) | exact HB.out)) hb); clear HO155; clear HO160; clear HO164; clear HB; have HO155 := n0_; have HO160 := n1_; have HO164 := n2_; have HB := n3_; clear n0_ n1_ n2_ n3_; (try clear hb); (try clear hb2); (try clear hk); (try clear hi)) | (go_at_call 15; (refine (merkle_Root.calls _ _ ([] : List ByteArray) t167 _ ?side1 ?side2 A12.out).mono ?_); (case side1 => exact Kd.C_nil _ _); (case side2 => exact Nat.le_refl _); rintro e w43 ⟨rfl, hb⟩; have n0_ := Aside0.mk (Kd.R_below (by (with_reducible repeat (first | apply Kd.R_alloc | apply Kd.R_drewN | apply Kd.R_drew)); exact HO155.out) hb); have n1_ := Aside0.mk (Kd.R_below (by (with_reducible repeat (first | apply Kd.R_alloc | apply Kd.R_drewN | apply Kd.R_drew)); exact HO160.out) hb); have n2_ := Aside0.mk (Kd.R_below (by (with_reducible repeat (first | apply Kd.R_alloc | apply Kd.R_drewN | apply Kd.R_drew)); exact HO164.out) hb); have n3_ := Aside0.mk (below_step (by repeat (first | (with_reducible first | exact HB.out | apply below_alloc | apply pw_below_drewN | apply below_drew1) | exact HB.out)) hb); clear HO155; clear HO160; clear HO164; clear HB; have HO155 := n0_; have HO160 := n1_; have HO164 := n2_; have HB := n3_; clear n0_ n1_ n2_ n3_; (try clear hb); (try clear hb2); (try clear hk); (try clear hi)) | (go_at_call 27; (with_reducible refine (sum_Sha.calls (⟨#[]⟩ : ByteArray) t168 _ A13.out).mono ?_); rintro e w44 ⟨rfl, hb⟩; have n0_ := Aside0.mk (Kd.R_below (by (with_reducible repeat (first | apply Kd.R_alloc | apply Kd.R_drewN | apply Kd.R_drew)); exact HO155.out) hb); have n1_ := Aside0.mk (Kd.R_below (by (with_reducible repeat (first | apply Kd.R_alloc | apply Kd.R_drewN | apply Kd.R_drew)); exact HO160.out) hb); have n2_ := Aside0.mk (Kd.R_below (by (with_reducible repeat (first | apply Kd.R_alloc | apply Kd.R_drewN | apply Kd.R_drew)); exact HO164.out) hb); have n3_ := Aside0.mk (below_step (by repeat (first | (with_reducible first | exact HB.out | apply below_alloc | apply pw_below_drewN | apply below_drew1) | exact HB.out)) hb); clear HO155; clear HO160; clear HO164; clear HB; have HO155 := n0_; have HO160 := n1_; have HO164 := n2_; have HB := n3_; clear n0_ n1_ n2_ n3_; (try clear hb); (try clear hb2); (try clear hk); (try clear hi)) | (go_at_call 27; (with_reducible refine (sum_Sha.calls (((⟨#[1]⟩ : ByteArray) ++ t156) ++ t152) t169 _ A17.out).mono ?_); rintro e w45 ⟨rfl, hb⟩; have n0_ := Aside0.mk (Kd.R_below (by (with_reducible repeat (first | apply Kd.R_alloc | apply Kd.R_drewN | apply Kd.R_drew)); exact HO155.out) hb); have n1_ := Aside0.mk (Kd.R_below (by (with_reducible repeat (first | apply Kd.R_alloc | apply Kd.R_drewN | apply Kd.R_drew)); exact HO160.out) hb); have n2_ := Aside0.mk (Kd.R_below (by (with_reducible repeat (first | apply Kd.R_alloc | apply Kd.R_drewN | apply Kd.R_drew)); exact HO164.out) hb); have n3_ := Aside0.mk (below_step (by repeat (first | (with_reducible first | exact HB.out | apply below_alloc | apply pw_below_drewN | apply below_drew1) | exact HB.out)) hb); clear HO155; clear HO160; clear HO164; clear HB; have HO155 := n0_; have HO160 := n1_; have HO164 := n2_; have HB := n3_; clear n0_ n1_ n2_ n3_; (try clear hb); (try clear hb2); (try clear hk); (try clear hi)) | ((with_reducible refine gate_dst (N := 58) rfl ?_); (try (refine gate_guard (by rfl) ?_; dsimp only)); refine Kd.R_lit Kd.string _ 9 ?hg (N := 58) ?hd (xs := ([t156] : List ByteArray)) (inner := [.string t156]) (ok := fun _ => True) (okp := fun _ => True) ?hr ?hp (fun _ hk => hk) trivial (Below.refl _ _) (Nat.le_refl _) (by simp) ?_; (case hd => rfl); (case hg => rfl); (case hr => first | (go_simp; done) | (go_simp; rfl) | (go_simp; simp only [IntKind.wrap_u32', Int.emod_add_emod, Int.add_emod_emod])); (case hp => exact (Reps.one (show Kd.M Kd.string _ _ _ t156 [.string t156] from rfl) (Reps.none _ _))); intro v171 w46 ho47 hb hg_ hnew_; clear hg_ hnew_; (first | rw [← Ny170.out] at ho47 | (simp only [Int.reduceToNat] at ho47; rw [← Ny170.out] at ho47)); have n0_ := Aside0.mk (Kd.R_elder' (by (with_reducible repeat (first | apply Kd.R_alloc | apply Kd.R_drewN | apply Kd.R_drew)); exact HO155.out) (Kd.R_base ho47) hb); have n1_ := Aside0.mk (Kd.R_elder' (by (with_reducible repeat (first | apply Kd.R_alloc | apply Kd.R_drewN | apply Kd.R_drew)); exact HO160.out) (Kd.R_base ho47) hb); have n2_ := Aside0.mk (Kd.R_elder' (by (with_reducible repeat (first | apply Kd.R_alloc | apply Kd.R_drewN | apply Kd.R_drew)); exact HO164.out) (Kd.R_base ho47) hb); have n3_ := Aside0.mk (Kd.R_lower (Kd.R_new' (Kd.R_new' (Kd.R_new' ho47 (Kd.R_lt (by (with_reducible repeat (first | apply Kd.R_alloc | apply Kd.R_drewN | apply Kd.R_drew)); exact HO155.out))) (Kd.R_lt (by (with_reducible repeat (first | apply Kd.R_alloc | apply Kd.R_drewN | apply Kd.R_drew)); exact HO160.out))) (Kd.R_lt (by (with_reducible repeat (first | apply Kd.R_alloc | apply Kd.R_drewN | apply Kd.R_drew)); exact HO164.out))) (below_size (by repeat (first | (with_reducible first | exact HB.out | apply below_alloc | apply pw_below_drewN | apply below_drew1) | exact HB.out)))); have n4_ := Aside0.mk (below_step (by repeat (first | (with_reducible first | exact HB.out | apply below_alloc | apply pw_below_drewN | apply below_drew1) | exact HB.out)) hb); clear HO155; clear HO160; clear HO164; clear HB; have HO155 := n0_; have HO160 := n1_; have HO164 := n2_; have HO172 := n3_; have HB := n4_; clear n0_ n1_ n2_ n3_ n4_; clear hb ho47; obtain ⟨Ao48, co48, eo48⟩ := Kd.R_slice HO160.out; subst eo48; obtain ⟨Ao49, co49, eo49⟩ := Kd.R_slice HO172.out; subst eo49) | (go_at_call 17; (with_reducible refine (agoraref08_Same.calls k _ _ t157 _ _ y170 true _ ?side1 ?side2 ?side3 ?side4 A20.out).mono ?_); (case side1 => repeat (first | exact (Kd.R_reads' HO160.out).2.2 | (with_reducible refine Kd.C_alloc ?_ _) | (with_reducible refine Kd.C_drewN ?_ _) | (with_reducible refine Kd.C_drew ?_))); (case side2 => exact (Kd.R_reads' HO160.out).2.1); (case side3 => repeat (first | exact (Kd.R_reads' HO172.out).2.2 | (with_reducible refine Kd.C_alloc ?_ _) | (with_reducible refine Kd.C_drewN ?_ _) | (with_reducible refine Kd.C_drew ?_))); (case side4 => exact (Kd.R_reads' HO172.out).2.1); rintro e w' ⟨rfl, ⟨nd, rfl⟩⟩) | (go_at_call 21; (with_reducible refine (merkle_Includes.calls k t152 2 3 t165 _ _ t157 true _ ?side1 ?side2 A22.out).mono ?_); (case side1 => repeat (first | exact (Kd.R_reads' HO160.out).2.2 | (with_reducible refine Kd.C_alloc ?_ _) | (with_reducible refine Kd.C_drewN ?_ _) | (with_reducible refine Kd.C_drew ?_))); (case side2 => exact (Kd.R_reads' HO160.out).2.1); rintro e w50 ⟨rfl, hb⟩; have n0_ := Aside0.mk (Kd.R_below (by (with_reducible repeat (first | apply Kd.R_alloc | apply Kd.R_drewN | apply Kd.R_drew)); exact HO155.out) hb); have n1_ := Aside0.mk (Kd.R_below (by (with_reducible repeat (first | apply Kd.R_alloc | apply Kd.R_drewN | apply Kd.R_drew)); exact HO160.out) hb); have n2_ := Aside0.mk (Kd.R_below (by (with_reducible repeat (first | apply Kd.R_alloc | apply Kd.R_drewN | apply Kd.R_drew)); exact HO164.out) hb); have n3_ := Aside0.mk (Kd.R_below (by (with_reducible repeat (first | apply Kd.R_alloc | apply Kd.R_drewN | apply Kd.R_drew)); exact HO172.out) hb); have n4_ := Aside0.mk (below_step (by repeat (first | (with_reducible first | exact HB.out | apply below_alloc | apply pw_below_drewN | apply below_drew1) | exact HB.out)) hb); clear HO155; clear HO160; clear HO164; clear HO172; clear HB; have HO155 := n0_; have HO160 := n1_; have HO164 := n2_; have HO172 := n3_; have HB := n4_; clear n0_ n1_ n2_ n3_ n4_; (try clear hb); (try clear hb2); (try clear hk); (try clear hi)) | (go_at_call 21; (with_reducible refine (merkle_Includes.calls k t152 1 3 t165 _ _ t157 false _ ?side1 ?side2 A24.out).mono ?_); (case side1 => repeat (first | exact (Kd.R_reads' HO160.out).2.2 | (with_reducible refine Kd.C_alloc ?_ _) | (with_reducible refine Kd.C_drewN ?_ _) | (with_reducible refine Kd.C_drew ?_))); (case side2 => exact (Kd.R_reads' HO160.out).2.1); rintro e w51 ⟨rfl, hb⟩; have n0_ := Aside0.mk (Kd.R_below (by (with_reducible repeat (first | apply Kd.R_alloc | apply Kd.R_drewN | apply Kd.R_drew)); exact HO155.out) hb); have n1_ := Aside0.mk (Kd.R_below (by (with_reducible repeat (first | apply Kd.R_alloc | apply Kd.R_drewN | apply Kd.R_drew)); exact HO160.out) hb); have n2_ := Aside0.mk (Kd.R_below (by (with_reducible repeat (first | apply Kd.R_alloc | apply Kd.R_drewN | apply Kd.R_drew)); exact HO164.out) hb); have n3_ := Aside0.mk (Kd.R_below (by (with_reducible repeat (first | apply Kd.R_alloc | apply Kd.R_drewN | apply Kd.R_drew)); exact HO172.out) hb); have n4_ := Aside0.mk (below_step (by repeat (first | (with_reducible first | exact HB.out | apply below_alloc | apply pw_below_drewN | apply below_drew1) | exact HB.out)) hb); clear HO155; clear HO160; clear HO164; clear HO172; clear HB; have HO155 := n0_; have HO160 := n1_; have HO164 := n2_; have HO172 := n3_; have HB := n4_; clear n0_ n1_ n2_ n3_ n4_; (try clear hb); (try clear hb2); (try clear hk); (try clear hi)) | ((with_reducible refine gate_dst (N := 80) rfl ?_); (try (refine gate_guard (by rfl) ?_; dsimp only)); refine Kd.R_lit Kd.string _ 9 ?hg (N := 80) ?hd (xs := ([t152] : List ByteArray)) (inner := [.string t152]) (ok := fun _ => True) (okp := fun _ => True) ?hr ?hp (fun _ hk => hk) trivial (Below.refl _ _) (Nat.le_refl _) (by simp) ?_; (case hd => rfl); (case hg => rfl); (case hr => first | (go_simp; done) | (go_simp; rfl) | (go_simp; simp only [IntKind.wrap_u32', Int.emod_add_emod, Int.add_emod_emod])); (case hp => exact (Reps.one (show Kd.M Kd.string _ _ _ t152 [.string t152] from rfl) (Reps.none _ _))); intro v177 w52 ho53 hb hg_ hnew_; clear hg_ hnew_; (first | rw [← Ny176.out] at ho53 | (simp only [Int.reduceToNat] at ho53; rw [← Ny176.out] at ho53)); have n0_ := Aside0.mk (Kd.R_elder' (by (with_reducible repeat (first | apply Kd.R_alloc | apply Kd.R_drewN | apply Kd.R_drew)); exact HO155.out) (Kd.R_base ho53) hb); have n1_ := Aside0.mk (Kd.R_elder' (by (with_reducible repeat (first | apply Kd.R_alloc | apply Kd.R_drewN | apply Kd.R_drew)); exact HO160.out) (Kd.R_base ho53) hb); have n2_ := Aside0.mk (Kd.R_elder' (by (with_reducible repeat (first | apply Kd.R_alloc | apply Kd.R_drewN | apply Kd.R_drew)); exact HO164.out) (Kd.R_base ho53) hb); have n3_ := Aside0.mk (Kd.R_elder' (by (with_reducible repeat (first | apply Kd.R_alloc | apply Kd.R_drewN | apply Kd.R_drew)); exact HO172.out) (Kd.R_base ho53) hb); have n4_ := Aside0.mk (Kd.R_lower (Kd.R_new' (Kd.R_new' (Kd.R_new' (Kd.R_new' ho53 (Kd.R_lt (by (with_reducible repeat (first | apply Kd.R_alloc | apply Kd.R_drewN | apply Kd.R_drew)); exact HO155.out))) (Kd.R_lt (by (with_reducible repeat (first | apply Kd.R_alloc | apply Kd.R_drewN | apply Kd.R_drew)); exact HO160.out))) (Kd.R_lt (by (with_reducible repeat (first | apply Kd.R_alloc | apply Kd.R_drewN | apply Kd.R_drew)); exact HO164.out))) (Kd.R_lt (by (with_reducible repeat (first | apply Kd.R_alloc | apply Kd.R_drewN | apply Kd.R_drew)); exact HO172.out))) (below_size (by repeat (first | (with_reducible first | exact HB.out | apply below_alloc | apply pw_below_drewN | apply below_drew1) | exact HB.out)))); have n5_ := Aside0.mk (below_step (by repeat (first | (with_reducible first | exact HB.out | apply below_alloc | apply pw_below_drewN | apply below_drew1) | exact HB.out)) hb); clear HO155; clear HO160; clear HO164; clear HO172; clear HB; have HO155 := n0_; have HO160 := n1_; have HO164 := n2_; have HO172 := n3_; have HO178 := n4_; have HB := n5_; clear n0_ n1_ n2_ n3_ n4_ n5_; clear hb ho53; obtain ⟨Ao54, co54, eo54⟩ := Kd.R_slice HO164.out; subst eo54; obtain ⟨Ao55, co55, eo55⟩ := Kd.R_slice HO178.out; subst eo55) | (go_at_call 17; (with_reducible refine (agoraref08_Same.calls k _ _ t161 _ _ y176 true _ ?side1 ?side2 ?side3 ?side4 A27.out).mono ?_); (case side1 => repeat (first | exact (Kd.R_reads' HO164.out).2.2 | (with_reducible refine Kd.C_alloc ?_ _) | (with_reducible refine Kd.C_drewN ?_ _) | (with_reducible refine Kd.C_drew ?_))); (case side2 => exact (Kd.R_reads' HO164.out).2.1); (case side3 => repeat (first | exact (Kd.R_reads' HO178.out).2.2 | (with_reducible refine Kd.C_alloc ?_ _) | (with_reducible refine Kd.C_drewN ?_ _) | (with_reducible refine Kd.C_drew ?_))); (case side4 => exact (Kd.R_reads' HO178.out).2.1); rintro e w' ⟨rfl, ⟨nd, rfl⟩⟩) | (go_at_call 22; (with_reducible refine (merkle_Extends.calls k 2 3 t156 t165 (fun k_ => some k_ = (.slice Ao54 t161.length co54 : Value).ownBlock) _ _ t161 true _ ?side1 A29.out).mono ?_); (case side1 => exact Kd.R_V (Kd.R_tight rfl (HO164.out))); rintro e w56 ⟨rfl, hb⟩; have n0_ := Aside0.mk (Kd.R_below (by (with_reducible repeat (first | apply Kd.R_alloc | apply Kd.R_drewN | apply Kd.R_drew)); exact HO155.out) hb); have n1_ := Aside0.mk (Kd.R_below (by (with_reducible repeat (first | apply Kd.R_alloc | apply Kd.R_drewN | apply Kd.R_drew)); exact HO160.out) hb); have n2_ := Aside0.mk (Kd.R_below (by (with_reducible repeat (first | apply Kd.R_alloc | apply Kd.R_drewN | apply Kd.R_drew)); exact HO164.out) hb); have n3_ := Aside0.mk (Kd.R_below (by (with_reducible repeat (first | apply Kd.R_alloc | apply Kd.R_drewN | apply Kd.R_drew)); exact HO172.out) hb); have n4_ := Aside0.mk (Kd.R_below (by (with_reducible repeat (first | apply Kd.R_alloc | apply Kd.R_drewN | apply Kd.R_drew)); exact HO178.out) hb); have n5_ := Aside0.mk (below_step (by repeat (first | (with_reducible first | exact HB.out | apply below_alloc | apply pw_below_drewN | apply below_drew1) | exact HB.out)) hb); clear HO155; clear HO160; clear HO164; clear HO172; clear HO178; clear HB; have HO155 := n0_; have HO160 := n1_; have HO164 := n2_; have HO172 := n3_; have HO178 := n4_; have HB := n5_; clear n0_ n1_ n2_ n3_ n4_ n5_; (try clear hb); (try clear hb2); (try clear hk); (try clear hi)) | (go_at_call 22; (with_reducible refine (merkle_Extends.calls k 2 3 t165 t156 (fun k_ => some k_ = (.slice Ao54 t161.length co54 : Value).ownBlock) _ _ t161 t181 _ ?side1 A31.out).mono ?_); (case side1 => exact Kd.R_V (Kd.R_tight rfl (HO164.out))); rintro e w57 ⟨rfl, hb⟩; have n0_ := Aside0.mk (Kd.R_below (by (with_reducible repeat (first | apply Kd.R_alloc | apply Kd.R_drewN | apply Kd.R_drew)); exact HO155.out) hb); have n1_ := Aside0.mk (Kd.R_below (by (with_reducible repeat (first | apply Kd.R_alloc | apply Kd.R_drewN | apply Kd.R_drew)); exact HO160.out) hb); have n2_ := Aside0.mk (Kd.R_below (by (with_reducible repeat (first | apply Kd.R_alloc | apply Kd.R_drewN | apply Kd.R_drew)); exact HO164.out) hb); have n3_ := Aside0.mk (Kd.R_below (by (with_reducible repeat (first | apply Kd.R_alloc | apply Kd.R_drewN | apply Kd.R_drew)); exact HO172.out) hb); have n4_ := Aside0.mk (Kd.R_below (by (with_reducible repeat (first | apply Kd.R_alloc | apply Kd.R_drewN | apply Kd.R_drew)); exact HO178.out) hb); have n5_ := Aside0.mk (below_step (by repeat (first | (with_reducible first | exact HB.out | apply below_alloc | apply pw_below_drewN | apply below_drew1) | exact HB.out)) hb); clear HO155; clear HO160; clear HO164; clear HO172; clear HO178; clear HB; have HO155 := n0_; have HO160 := n1_; have HO164 := n2_; have HO172 := n3_; have HO178 := n4_; have HB := n5_; clear n0_ n1_ n2_ n3_ n4_ n5_; (try clear hb); (try clear hb2); (try clear hk); (try clear hi)))
                              go_ret
                              exact ⟨by first | rfl | (simp [errW_none, errW_some] <;> rfl) | (simp [*, errW_none, errW_some] <;> rfl), by repeat (first | (with_reducible first | exact HB.out | apply below_alloc | apply pw_below_drewN | apply below_drew1) | exact HB.out)⟩
                            · replace c30 := Bool.eq_false_iff.mpr c30
                              subst c30
                              have H1 : (none) = some r := by rw [if_neg (show ¬ (false = true) by decide)] at H; exact H
                              clear H
                              have H := H1
                              clear H1
                              exact absurd H (by simp)
                          · replace c28 := Bool.eq_false_iff.mpr c28
                            subst c28
                            have H1 : (none) = some r := by rw [if_neg (show ¬ (false = true) by decide)] at H; exact H
                            clear H
                            have H := H1
                            clear H1
                            exact absurd H (by simp)
                        · replace c26 := Bool.eq_false_iff.mpr c26
                          subst c26
                          have H1 : (none) = some r := by rw [if_neg (show ¬ (false = true) by decide)] at H; exact H
                          clear H
                          have H := H1
                          clear H1
                          exact absurd H (by simp)
                    · replace c23 := Bool.eq_false_iff.mpr c23
                      subst c23
                      have H1 : (none) = some r := by rw [if_neg (show ¬ (false = true) by decide)] at H; exact H
                      clear H
                      have H := H1
                      clear H1
                      exact absurd H (by simp)
                  · replace c21 := Bool.eq_false_iff.mpr c21
                    subst c21
                    have H1 : (none) = some r := by rw [if_neg (show ¬ (false = true) by decide)] at H; exact H
                    clear H
                    have H := H1
                    clear H1
                    exact absurd H (by simp)
                · replace c19 := Bool.eq_false_iff.mpr c19
                  subst c19
                  have H1 : (none) = some r := by rw [if_neg (show ¬ (false = true) by decide)] at H; exact H
                  clear H
                  have H := H1
                  clear H1
                  exact absurd H (by simp)
              · rw [if_neg c18] at H
                exact absurd H (by simp)
            · rw [if_neg c16] at H
              exact absurd H (by simp)
          · rw [if_neg c15] at H
            exact absurd H (by simp)
        · rw [if_neg c14] at H
          exact absurd H (by simp)
      · rw [if_neg c11] at H
        exact absurd H (by simp)
    · rw [if_neg c5] at H
      exact absurd H (by simp)
  · rw [if_neg c4] at H
    exact absurd H (by simp)
def agoralaw08_short.l0 : Nat → List ByteArray → Int → Option (Bool)
  | 0, _, _ => none
  | k + 1, x0, x3 => if x3 < (x0.length : Int) then (if 0 ≤ x3 then (if ((rdOf ByteArray.empty x0 x3).size : Int) > 200 then (some false) else (agoralaw08_short.l0 k x0 (wrap64 (x3 + 1)))) else (none)) else (some true)
def agoralaw08_short.f (k : Nat) (l0 : List ByteArray) : Option (Bool) := if (l0.length : Int) > 100 then (some false) else (agoralaw08_short.l0 k l0 0)
set_option maxHeartbeats 8000000 in
set_option maxRecDepth 100000 in
theorem agoralaw08_short.calls (k : Nat) (A0 : Option Addr) (c0 : Nat) (l0 : List ByteArray) (r : Bool) (w : World) (hr0 : Kd.C Kd.string w A0 l0.length l0) (hc0 : l0.length ≤ c0) (h : agoralaw08_short.f k l0 = some r) :
    Calls Try.prog 10 #[.slice A0 l0.length c0] w fun e w' => e = .returned (.bool r) ∧ Drawn0 w w' := by
  have HR0 := Aside0.mk hr0
  have HC0 := Aside0.mk hc0
  clear hr0 hc0
  have H : (if (l0.length : Int) > 100 then (some false) else (agoralaw08_short.l0 k l0 0)) = some r := h
  clear h
  by_cases c2 : (l0.length : Int) > 100
  · rw [if_pos c2] at H
    have c2b0 : decide (100 < (l0.length : Int)) = true := decide_eq_true c2
    have c2b1 : decide (100 < l0.length) = true := decide_eq_true (by omega)
    clear c2
    obtain rfl := Option.some.inj H
    go_enter Try.func10, Try.ntmps10
    go_wp2
    go_ret
    exact ⟨by first | rfl | (simp; done) | (simp [*]; done), by repeat (first | exact Drawn0.refl _ | apply Drawn0.step)⟩
  · rw [if_neg c2] at H
    have c2b0 : decide (100 < (l0.length : Int)) = false := decide_eq_false c2
    have c2b1 : decide (100 < l0.length) = false := decide_eq_false (by omega)
    clear c2
    have H' := Aside0.mk H
    clear H
    go_enter Try.func10, Try.ntmps10
    go_wp2
    go_loopg [3] k (fun kq v3 w' => ∃ (x3_1 : Int), v3 = .int .i64 x3_1 ∧ Aside0 (agoralaw08_short.l0 kq l0 x3_1 = some r) ∧ Aside0 (kq ≤ k) ∧ Drawn0 w w')
    case atStart => exact ⟨(0), (by first | rfl | (simp; done) | (simp [*]; done)), H', ⟨Nat.le_refl _⟩, by repeat (first | exact Drawn0.refl _ | apply Drawn0.step)⟩
    case round =>
      clear H'
      try clear c1
      try clear c2
      try clear c2b0
      try clear c2b1
      try clear p2
      obtain ⟨x3_1, rfl, HA, HK1, ⟨m1, rfl⟩⟩ := hrel
      cases gk with
      | zero => exact absurd HA.out (by simp [agoralaw08_short.l0])
      | succ k1 =>
        have H := HA.out
        clear HA
        simp only [agoralaw08_short.l0] at H
        by_cases c3 : x3_1 < (l0.length : Int)
        · rw [if_pos c3] at H
          have c3b0 : decide (x3_1 < (l0.length : Int)) = true := decide_eq_true c3
          clear c3
          by_cases c4 : 0 ≤ x3_1
          · rw [if_pos c4] at H
            have c4b0 : decide (0 ≤ x3_1) = true := decide_eq_true c4
            clear c4
            by_cases c5 : ((rdOf ByteArray.empty l0 x3_1).size : Int) > 200
            · rw [if_pos c5] at H
              have c5b0 : decide (200 < ((rdOf ByteArray.empty l0 x3_1).size : Int)) = true := decide_eq_true c5
              have c5b1 : decide (200 < (rdOf ByteArray.empty l0 x3_1).size) = true := decide_eq_true (by omega)
              clear c5
              obtain rfl := Option.some.inj H
              have p182 : 0 ≤ (x3_1 : Int) := of_decide_eq_true (by first | (with_reducible assumption) | assumption)
              have q182 : x3_1 < (l0.length : Int) := of_decide_eq_true (by first | (with_reducible assumption) | assumption)
              obtain ⟨ad182, e182, hx182_0⟩ := Kd.at_string HR0.out x3_1 p182 q182
              cases e182
              replace p182 := eq_true p182
              replace q182 := eq_true q182
              go_wp2
              go_ret
              exact ⟨by first | rfl | (simp; done) | (simp [*]; done), by repeat (first | exact Drawn0.refl _ | apply Drawn0.step)⟩
            · rw [if_neg c5] at H
              have c5b0 : decide (200 < ((rdOf ByteArray.empty l0 x3_1).size : Int)) = false := decide_eq_false c5
              have c5b1 : decide (200 < (rdOf ByteArray.empty l0 x3_1).size) = false := decide_eq_false (by omega)
              clear c5
              have H' := Aside0.mk H
              clear H
              have p182 : 0 ≤ (x3_1 : Int) := of_decide_eq_true (by first | (with_reducible assumption) | assumption)
              have q182 : x3_1 < (l0.length : Int) := of_decide_eq_true (by first | (with_reducible assumption) | assumption)
              obtain ⟨ad182, e182, hx182_0⟩ := Kd.at_string HR0.out x3_1 p182 q182
              cases e182
              replace p182 := eq_true p182
              replace q182 := eq_true q182
              go_wp2
              go_roundg k1
              case measure => have := HK1.out; omega
              case rel => exact ⟨(wrap64 (x3_1 + 1)), (by first | rfl | (simp; done) | (simp [*]; done)), H', ⟨by have := HK1.out; omega⟩, by repeat (first | exact Drawn0.refl _ | apply Drawn0.step)⟩
          · rw [if_neg c4] at H
            exact absurd H (by simp)
        · rw [if_neg c3] at H
          have c3b0 : decide (x3_1 < (l0.length : Int)) = false := decide_eq_false c3
          clear c3
          obtain rfl := Option.some.inj H
          go_wp2
          go_ret
          exact ⟨by first | rfl | (simp; done) | (simp [*]; done), by repeat (first | exact Drawn0.refl _ | apply Drawn0.step)⟩
end Go.Proofs.Ytkhkppehdgkboaa.P
end P7_
section Next_
namespace Go.Proofs.Ytkhkppehdgkboaa.Sch
open Go.RowKit Go.Proofs.Ytkhkppehdgkboaa.P Go.Proofs.Ytkhkppehdgkboaa.ShaL Go.Proofs.YtkhkppehdgkboaaW.PrintWords Go.Proofs.YtkhkppehdgkboaaW.PrintLast Go.Proofs.YtkhkppehdgkboaaW.PrintMore
set_option linter.unusedVariables false
theorem wNext_lt (b l : List Nat) (i : Nat) (h : i < 16) : wNext b l i = b.getD (4 * i) 0 * 16777216 + b.getD (4 * i + 1) 0 * 65536 + b.getD (4 * i + 2) 0 * 256 + b.getD (4 * i + 3) 0 := if_pos h
end Go.Proofs.Ytkhkppehdgkboaa.Sch
end Next_
section MkSmall_
namespace Go.Proofs.Ytkhkppehdgkboaa.Mk
open Go.RowKit Go.Proofs.Ytkhkppehdgkboaa.P Go.Proofs.YtkhkppehdgkboaaW.PrintWords Go.Proofs.YtkhkppehdgkboaaW.PrintLast Go.Proofs.YtkhkppehdgkboaaW.PrintMore
set_option maxRecDepth 1000000 in
theorem small_ok : agoralaw08_small.f 200 = some true := by decide +kernel
end Go.Proofs.Ytkhkppehdgkboaa.Mk
end MkSmall_
