/- Texts of this claim, merged: what the functions that the law reaches compute, and what that says. -/
import Derived.Test.YtkhkppehdgkboaaKA4
import Derived.Test.YtkhkppehdgkboaaKA14
import Derived.Test.YtkhkppehdgkboaaKA15
import Derived.Test.YtkhkppehdgkboaaKA18
import Derived.Test.YtkhkppehdgkboaaKA19
section P17_
namespace Go.Proofs.Ytkhkppehdgkboaa.P
open Go.RowKit Go.Proofs.YtkhkppehdgkboaaW.PrintWords Go.Proofs.YtkhkppehdgkboaaW.PrintLast Go.Proofs.YtkhkppehdgkboaaW.PrintMore
attribute [local go_sem] max2_int min2_int max_two min_two max_three min_three max_four min_four   -- for this text's walks alone
set_option linter.unusedVariables false
set_option linter.unusedSimpArgs false
mutual
def agoraref08_Roots.j0 : Nat → Int → Int → ByteArray → List ByteArray → Bool → Bool → Option (ByteArray × ByteArray × List ByteArray × Bool)
  | 0, _, _, _, _, _, _ => none
  | k + 1, x0, x1, x2, x3, x4, x30 => if x30 = true then (some (x2, x2, ([] : List ByteArray), ((x3.length : Int) == 0))) else (if (x3.length : Int) = 0 then (some ((⟨#[]⟩ : ByteArray), (⟨#[]⟩ : ByteArray), ([] : List ByteArray), false)) else (if 0 ≤ (wrap64 ((x3.length : Int) - 1)) then (if (wrap64 ((x3.length : Int) - 1)) < (x3.length : Int) then (if (wrap64 ((x3.length : Int) - 1)) ≤ (x3.length : Int) then (if x0 = x1 then (some (rdOf ByteArray.empty x3 (wrap64 ((x3.length : Int) - 1)), rdOf ByteArray.empty x3 (wrap64 ((x3.length : Int) - 1)), ([] : List ByteArray), ((x3.length : Int) == 1))) else ((agoraref08_Split.f k x1).bind fun t449 => (if x0 ≤ t449 then ((agoraref08_Roots.f k x0 t449 x2 (x3.take ((wrap64 ((x3.length : Int) - 1)) : Int).toNat) x4).bind fun bt450 => (if bt450.2.2.2 = true then ((agoraref08_Node.f bt450.2.1 (rdOf ByteArray.empty x3 (wrap64 ((x3.length : Int) - 1)))).bind fun t456 => ((agoraref08_Preimage.f bt450.2.1 (rdOf ByteArray.empty x3 (wrap64 ((x3.length : Int) - 1)))).bind fun t457 => (if bt450.2.2.1.length < 8796093022208 then (some (bt450.1, t456, (bt450.2.2.1 ++ [t457]), true)) else (none)))) else (some ((⟨#[]⟩ : ByteArray), (⟨#[]⟩ : ByteArray), ([] : List ByteArray), false)))) else ((agoraref08_Roots.f k (wrap64 (x0 - t449)) (wrap64 (x1 - t449)) x2 (x3.take ((wrap64 ((x3.length : Int) - 1)) : Int).toNat) false).bind fun bt461 => (if bt461.2.2.2 = true then ((agoraref08_Node.f (rdOf ByteArray.empty x3 (wrap64 ((x3.length : Int) - 1))) bt461.1).bind fun t467 => ((agoraref08_Node.f (rdOf ByteArray.empty x3 (wrap64 ((x3.length : Int) - 1))) bt461.2.1).bind fun t468 => ((agoraref08_Preimage.f (rdOf ByteArray.empty x3 (wrap64 ((x3.length : Int) - 1))) bt461.1).bind fun t469 => ((agoraref08_Preimage.f (rdOf ByteArray.empty x3 (wrap64 ((x3.length : Int) - 1))) bt461.2.1).bind fun t470 => ((some (([t469, t470] : List ByteArray) : List ByteArray)).bind fun y471 => (if bt461.2.2.1.length + y471.length < 8796093022208 then (some (t467, t468, (bt461.2.2.1 ++ y471), true)) else (none))))))) else (some ((⟨#[]⟩ : ByteArray), (⟨#[]⟩ : ByteArray), ([] : List ByteArray), false))))))) else (none)) else (none)) else (none)))
def agoraref08_Roots.f : Nat → Int → Int → ByteArray → List ByteArray → Bool → Option (ByteArray × ByteArray × List ByteArray × Bool)
  | 0, _, _, _, _, _ => none
  | k + 1, a0, a1, a2, l3, a4 => if a0 = a1 then (agoraref08_Roots.j0 k a0 a1 a2 l3 a4 a4) else (agoraref08_Roots.j0 k a0 a1 a2 l3 a4 false)
end
set_option maxHeartbeats 8000000 in
set_option maxRecDepth 100000 in
theorem agoraref08_Roots.calls (k : Nat) : ∀ (a0 : Int) (a1 : Int) (a2 : ByteArray) (A3 : Option Addr) (c3 : Nat) (l3 : List ByteArray) (a4 : Bool) (r1 : ByteArray) (r2 : ByteArray) (r3 : List ByteArray) (r4 : Bool) (w : World) (hr3 : Kd.C Kd.string w A3 l3.length l3) (hc3 : l3.length ≤ c3) (h : agoraref08_Roots.f k a0 a1 a2 l3 a4 = some (r1, r2, r3, r4)),
    Calls Try.prog 26 #[.int .i64 a0, .int .i64 a1, .string a2, .slice A3 l3.length c3, .bool a4] w fun e w' => ∃ v2_ : Value, e = .returned (.tuple #[.string r1, .string r2, v2_, .bool r4]) ∧ Kd.R Kd.string 9 w' w.heap.size (fun _ => True) v2_ r3 ∧ Below w.heap.size w w' := by
  induction k using Nat.strongRecOn with
  | _ k ih =>
  intro a0 a1 a2 A3 c3 l3 a4 r1 r2 r3 r4 w hr3 hc3 h
  cases k with
  | zero => exact absurd h (by simp [agoraref08_Roots.f])
  | succ k =>
  simp only [agoraref08_Roots.f] at h
  have HR3 := Aside0.mk hr3
  have HC3 := Aside0.mk hc3
  clear hr3 hc3
  have HB := Aside0.mk (Below.refl w.heap.size w)
  have H : (if a0 = a1 then (agoraref08_Roots.j0 k a0 a1 a2 l3 a4 a4) else (agoraref08_Roots.j0 k a0 a1 a2 l3 a4 false)) = some (r1, r2, r3, r4) := h
  clear h
  have HC6 := Aside0.mk H
  clear H
  go_enter Try.func26, Try.ntmps26
  go_upto_region 1 with (fail)
  go_cut [30] (fun v30 wc => ∃ (kq : Nat) (x30_5 : Bool), v30 = .bool x30_5 ∧ Aside0 (agoraref08_Roots.j0 kq a0 a1 a2 l3 a4 x30_5 = some (r1, r2, r3, r4)) ∧ Aside0 (kq ≤ k) ∧ Aside0 (Below w.heap.size w wc))
  case first =>
    have H := HC6.out
    clear HC6
    by_cases c7 : a0 = a1
    · rw [if_pos c7] at H
      have c7b0 : (a0 == a1) = true := beq_iff_eq.mpr c7
      have c7b1 : (a0 != a1) = false := bne_eq_false_iff_eq.mpr c7
      clear c7
      (first | rw [c7b0] | (simp only [i64_w, i32_w]; rw [c7b0]) | skip)
      have H' := Aside0.mk H
      clear H
      go_wp2
      go_meet
      case rel => exact ⟨_, (a4), (by first | rfl | (simp; done) | (simp [*]; done)), H', ⟨by first | omega | exact Nat.le_refl _⟩, ⟨by repeat (first | (with_reducible first | exact HB.out | apply below_alloc | apply pw_below_drewN | apply below_drew1) | exact HB.out)⟩⟩
    · rw [if_neg c7] at H
      have c7b0 : (a0 == a1) = false := beq_eq_false_iff_ne.mpr c7
      have c7b1 : (a0 != a1) = true := bne_iff_ne.mpr c7
      (first | rw [c7b0] | (simp only [i64_w, i32_w]; rw [c7b0]) | skip)
      have H' := Aside0.mk H
      clear H
      go_wp2
      go_meet
      case rel => exact ⟨_, (false), (by first | rfl | (simp; done) | (simp [*]; done)), H', ⟨by first | omega | exact Nat.le_refl _⟩, ⟨by repeat (first | (with_reducible first | exact HB.out | apply below_alloc | apply pw_below_drewN | apply below_drew1) | exact HB.out)⟩⟩
  case rest =>
    clear HC6
    try clear c2
    try clear p2
    try clear c3
    try clear c7
    try clear c7b0
    try clear c7b1
    obtain ⟨kq, x30_5, rfl, HA, HJ5, HB⟩ := hcut
    cases kq with
    | zero => exact absurd HA.out (by simp [agoraref08_Roots.j0])
    | succ kj5 =>
      have H := HA.out
      clear HA
      simp only [agoraref08_Roots.j0] at H
      by_cases c8 : x30_5 = true
      · subst c8
        have H1 : (some (a2, a2, ([] : List ByteArray), ((l3.length : Int) == 0))) = some (r1, r2, r3, r4) := by rw [if_pos rfl] at H; exact H
        clear H
        have H := H1
        clear H1
        simp only [Option.some.injEq, Prod.mk.injEq] at H
        obtain ⟨rfl, rfl, rfl, rfl⟩ := H
        go_wp2
        refine bodyPost_ret (results_list (rs := [.tmp 10, .tmp 11, .tmp 12, .tmp 13]) rfl (by simp) (.tmp (.tmp (.tmp (.tmp .nil))))) rfl ?_
        exact ⟨_, by first | rfl | (simp [errW_none, errW_some] <;> rfl) | (simp [*, errW_none, errW_some] <;> rfl), by first | exact Kd.R_nil _ _ _ _ _ | exact Kd.N_nil _ _ _ _ _ | exact Kd.V_nil _ _ _ _ _ | exact Kd.Q_nil _ _ _ _ _ | exact Kd.S_nil _ _ _ _ _, by repeat (first | (with_reducible first | exact HB.out | apply below_alloc | apply pw_below_drewN | apply below_drew1) | exact HB.out)⟩
      · replace c8 := Bool.eq_false_iff.mpr c8
        subst c8
        have H1 : (if (l3.length : Int) = 0 then (some ((⟨#[]⟩ : ByteArray), (⟨#[]⟩ : ByteArray), ([] : List ByteArray), false)) else (if 0 ≤ (wrap64 ((l3.length : Int) - 1)) then (if (wrap64 ((l3.length : Int) - 1)) < (l3.length : Int) then (if (wrap64 ((l3.length : Int) - 1)) ≤ (l3.length : Int) then (if a0 = a1 then (some (rdOf ByteArray.empty l3 (wrap64 ((l3.length : Int) - 1)), rdOf ByteArray.empty l3 (wrap64 ((l3.length : Int) - 1)), ([] : List ByteArray), ((l3.length : Int) == 1))) else ((agoraref08_Split.f kj5 a1).bind fun t449 => (if a0 ≤ t449 then ((agoraref08_Roots.f kj5 a0 t449 a2 (l3.take ((wrap64 ((l3.length : Int) - 1)) : Int).toNat) a4).bind fun bt450 => (if bt450.2.2.2 = true then ((agoraref08_Node.f bt450.2.1 (rdOf ByteArray.empty l3 (wrap64 ((l3.length : Int) - 1)))).bind fun t456 => ((agoraref08_Preimage.f bt450.2.1 (rdOf ByteArray.empty l3 (wrap64 ((l3.length : Int) - 1)))).bind fun t457 => (if bt450.2.2.1.length < 8796093022208 then (some (bt450.1, t456, (bt450.2.2.1 ++ [t457]), true)) else (none)))) else (some ((⟨#[]⟩ : ByteArray), (⟨#[]⟩ : ByteArray), ([] : List ByteArray), false)))) else ((agoraref08_Roots.f kj5 (wrap64 (a0 - t449)) (wrap64 (a1 - t449)) a2 (l3.take ((wrap64 ((l3.length : Int) - 1)) : Int).toNat) false).bind fun bt461 => (if bt461.2.2.2 = true then ((agoraref08_Node.f (rdOf ByteArray.empty l3 (wrap64 ((l3.length : Int) - 1))) bt461.1).bind fun t467 => ((agoraref08_Node.f (rdOf ByteArray.empty l3 (wrap64 ((l3.length : Int) - 1))) bt461.2.1).bind fun t468 => ((agoraref08_Preimage.f (rdOf ByteArray.empty l3 (wrap64 ((l3.length : Int) - 1))) bt461.1).bind fun t469 => ((agoraref08_Preimage.f (rdOf ByteArray.empty l3 (wrap64 ((l3.length : Int) - 1))) bt461.2.1).bind fun t470 => ((some (([t469, t470] : List ByteArray) : List ByteArray)).bind fun y471 => (if bt461.2.2.1.length + y471.length < 8796093022208 then (some (t467, t468, (bt461.2.2.1 ++ y471), true)) else (none))))))) else (some ((⟨#[]⟩ : ByteArray), (⟨#[]⟩ : ByteArray), ([] : List ByteArray), false))))))) else (none)) else (none)) else (none))) = some (r1, r2, r3, r4) := by rw [if_neg (show ¬ (false = true) by decide)] at H; exact H
        clear H
        have H := H1
        clear H1
        by_cases c9 : (l3.length : Int) = 0
        · rw [if_pos c9] at H
          have c9b0 : ((l3.length : Int) == 0) = true := beq_iff_eq.mpr c9
          have c9b1 : ((l3.length : Int) != 0) = false := bne_eq_false_iff_eq.mpr c9
          clear c9
          simp only [Option.some.injEq, Prod.mk.injEq] at H
          obtain ⟨rfl, rfl, rfl, rfl⟩ := H
          go_wp2
          refine bodyPost_ret (results_list (rs := [.tmp 10, .tmp 11, .tmp 12, .tmp 13]) rfl (by simp) (.tmp (.tmp (.tmp (.tmp .nil))))) rfl ?_
          exact ⟨_, by first | rfl | (simp [errW_none, errW_some] <;> rfl) | (simp [*, errW_none, errW_some] <;> rfl), by first | exact Kd.R_nil _ _ _ _ _ | exact Kd.N_nil _ _ _ _ _ | exact Kd.V_nil _ _ _ _ _ | exact Kd.Q_nil _ _ _ _ _ | exact Kd.S_nil _ _ _ _ _, by repeat (first | (with_reducible first | exact HB.out | apply below_alloc | apply pw_below_drewN | apply below_drew1) | exact HB.out)⟩
        · rw [if_neg c9] at H
          have c9b0 : ((l3.length : Int) == 0) = false := beq_eq_false_iff_ne.mpr c9
          have c9b1 : ((l3.length : Int) != 0) = true := bne_iff_ne.mpr c9
          have c9b2 : ¬ (l3 = []) := fun h_ => c9 (by rw [h_]; rfl)
          obtain ⟨ji10, hji10⟩ : ∃ j_ : Int, (wrap64 ((l3.length : Int) - 1)) = j_ := ⟨_, rfl⟩
          replace H : (if 0 ≤ (ji10) then (if (ji10) < (l3.length : Int) then (if (ji10) ≤ (l3.length : Int) then (if a0 = a1 then (some (rdOf ByteArray.empty l3 (ji10), rdOf ByteArray.empty l3 (ji10), ([] : List ByteArray), ((l3.length : Int) == 1))) else ((agoraref08_Split.f kj5 a1).bind fun t449 => (if a0 ≤ t449 then ((agoraref08_Roots.f kj5 a0 t449 a2 (l3.take ((ji10) : Int).toNat) a4).bind fun bt450 => (if bt450.2.2.2 = true then ((agoraref08_Node.f bt450.2.1 (rdOf ByteArray.empty l3 (ji10))).bind fun t456 => ((agoraref08_Preimage.f bt450.2.1 (rdOf ByteArray.empty l3 (ji10))).bind fun t457 => (if bt450.2.2.1.length < 8796093022208 then (some (bt450.1, t456, (bt450.2.2.1 ++ [t457]), true)) else (none)))) else (some ((⟨#[]⟩ : ByteArray), (⟨#[]⟩ : ByteArray), ([] : List ByteArray), false)))) else ((agoraref08_Roots.f kj5 (wrap64 (a0 - t449)) (wrap64 (a1 - t449)) a2 (l3.take ((ji10) : Int).toNat) false).bind fun bt461 => (if bt461.2.2.2 = true then ((agoraref08_Node.f (rdOf ByteArray.empty l3 (ji10)) bt461.1).bind fun t467 => ((agoraref08_Node.f (rdOf ByteArray.empty l3 (ji10)) bt461.2.1).bind fun t468 => ((agoraref08_Preimage.f (rdOf ByteArray.empty l3 (ji10)) bt461.1).bind fun t469 => ((agoraref08_Preimage.f (rdOf ByteArray.empty l3 (ji10)) bt461.2.1).bind fun t470 => ((some (([t469, t470] : List ByteArray) : List ByteArray)).bind fun y471 => (if bt461.2.2.1.length + y471.length < 8796093022208 then (some (t467, t468, (bt461.2.2.1 ++ y471), true)) else (none))))))) else (some ((⟨#[]⟩ : ByteArray), (⟨#[]⟩ : ByteArray), ([] : List ByteArray), false))))))) else (none)) else (none)) else (none)) = some (r1, r2, r3, r4) := by first | (rw [hji10] at H; exact H) | (simp only [hji10] at H ⊢; exact H)
          have hji10w : (IntKind.i64.wrap ((l3.length : Int) - 1)) = ji10 := (i64_w _).trans hji10
          by_cases c11 : 0 ≤ (ji10)
          · rw [if_pos c11] at H
            have c11b0 : decide (0 ≤ (ji10)) = true := decide_eq_true c11
            clear c11
            by_cases c12 : (ji10) < (l3.length : Int)
            · rw [if_pos c12] at H
              have c12b0 : decide ((ji10) < (l3.length : Int)) = true := decide_eq_true c12
              clear c12
              have c13b0 := eq_true (of_decide_eq_true (by first | (with_reducible assumption) | assumption) : 0 ≤ (ji10))
              by_cases c14 : (ji10) ≤ (l3.length : Int)
              · rw [if_pos c14] at H
                have c14b0 := eq_true c14
                have c14b1 : decide ((ji10) ≤ (l3.length : Int)) = true := decide_eq_true c14
                clear c14
                by_cases c15 : a0 = a1
                · rw [if_pos c15] at H
                  have c15b0 : (a0 == a1) = true := beq_iff_eq.mpr c15
                  have c15b1 : (a0 != a1) = false := bne_eq_false_iff_eq.mpr c15
                  clear c15
                  simp only [Option.some.injEq, Prod.mk.injEq] at H
                  obtain ⟨rfl, rfl, rfl, rfl⟩ := H
                  have p447 : 0 ≤ ((ji10) : Int) := of_decide_eq_true (by first | (with_reducible assumption) | assumption)
                  have q447 : (ji10) < (l3.length : Int) := of_decide_eq_true (by first | (with_reducible assumption) | assumption)
                  obtain ⟨ad447, e447, hx447_0⟩ := Kd.at_string HR3.out (ji10) p447 q447
                  cases e447
                  replace hx447_0 := (HB.out.cell (World.block_lt_of_cell? w _ hx447_0)).trans hx447_0
                  replace p447 := eq_true p447
                  replace q447 := eq_true q447
                  obtain ⟨i016, hi016, _, hsz16, _⟩ := info_parts info9
                  obtain ⟨hcut16, hA16, hC16⟩ := print_take_of (P := Try.prog) Value.string (⟨#[]⟩ : ByteArray) 22 9 .i64 Try.underlying22 hi016 hsz16 (some ad447) c3 l3 (ji10) (of_decide_eq_true (by first | (with_reducible assumption) | assumption)) (of_decide_eq_true (by first | (with_reducible assumption) | assumption)) HC3.out
                  have HR448 := Aside0.mk (Kd.C_of_reads (h1 := fun _ => rfl) (hA16 _ (Kd.reads_of_C HR3.out)))
                  have HC448 := Aside0.mk hC16
                  clear hA16 hC16 hi016 hsz16
                  go_wp2
                  refine bodyPost_ret (results_list (rs := [.tmp 10, .tmp 11, .tmp 12, .tmp 13]) rfl (by simp) (.tmp (.tmp (.tmp (.tmp .nil))))) rfl ?_
                  exact ⟨_, by first | rfl | (simp [errW_none, errW_some] <;> rfl) | (simp only [← hji10]; first | rfl | (simp [errW_none, errW_some] <;> rfl)) | (simp [*, errW_none, errW_some] <;> rfl), by first | exact Kd.R_nil _ _ _ _ _ | exact Kd.N_nil _ _ _ _ _ | exact Kd.V_nil _ _ _ _ _ | exact Kd.Q_nil _ _ _ _ _ | exact Kd.S_nil _ _ _ _ _, by repeat (first | (with_reducible first | exact HB.out | apply below_alloc | apply pw_below_drewN | apply below_drew1) | exact HB.out)⟩
                · rw [if_neg c15] at H
                  have c15b0 : (a0 == a1) = false := beq_eq_false_iff_ne.mpr c15
                  have c15b1 : (a0 != a1) = true := bne_iff_ne.mpr c15
                  replace H := Option.bind_eq_some_iff.mp H
                  obtain ⟨t449, A170, H⟩ := H
                  replace H : (if a0 ≤ t449 then ((agoraref08_Roots.f kj5 a0 t449 a2 (l3.take ((ji10) : Int).toNat) a4).bind fun bt450 => (if bt450.2.2.2 = true then ((agoraref08_Node.f bt450.2.1 (rdOf ByteArray.empty l3 (ji10))).bind fun t456 => ((agoraref08_Preimage.f bt450.2.1 (rdOf ByteArray.empty l3 (ji10))).bind fun t457 => (if bt450.2.2.1.length < 8796093022208 then (some (bt450.1, t456, (bt450.2.2.1 ++ [t457]), true)) else (none)))) else (some ((⟨#[]⟩ : ByteArray), (⟨#[]⟩ : ByteArray), ([] : List ByteArray), false)))) else ((agoraref08_Roots.f kj5 (wrap64 (a0 - t449)) (wrap64 (a1 - t449)) a2 (l3.take ((ji10) : Int).toNat) false).bind fun bt461 => (if bt461.2.2.2 = true then ((agoraref08_Node.f (rdOf ByteArray.empty l3 (ji10)) bt461.1).bind fun t467 => ((agoraref08_Node.f (rdOf ByteArray.empty l3 (ji10)) bt461.2.1).bind fun t468 => ((agoraref08_Preimage.f (rdOf ByteArray.empty l3 (ji10)) bt461.1).bind fun t469 => ((agoraref08_Preimage.f (rdOf ByteArray.empty l3 (ji10)) bt461.2.1).bind fun t470 => ((some (([t469, t470] : List ByteArray) : List ByteArray)).bind fun y471 => (if bt461.2.2.1.length + y471.length < 8796093022208 then (some (t467, t468, (bt461.2.2.1 ++ y471), true)) else (none))))))) else (some ((⟨#[]⟩ : ByteArray), (⟨#[]⟩ : ByteArray), ([] : List ByteArray), false))))) = some (r1, r2, r3, r4) := H
                  have A17 := Aside0.mk A170
                  clear A170
                  by_cases c18 : a0 ≤ t449
                  · rw [if_pos c18] at H
                    have c18b0 : decide (a0 ≤ t449) = true := decide_eq_true c18
                    clear c18
                    replace H := Option.bind_eq_some_iff.mp H
                    obtain ⟨⟨t450, t451, t452, t453⟩, A190, H⟩ := H
                    replace H : (if t453 = true then ((agoraref08_Node.f t451 (rdOf ByteArray.empty l3 (ji10))).bind fun t456 => ((agoraref08_Preimage.f t451 (rdOf ByteArray.empty l3 (ji10))).bind fun t457 => (if t452.length < 8796093022208 then (some (t450, t456, (t452 ++ [t457]), true)) else (none)))) else (some ((⟨#[]⟩ : ByteArray), (⟨#[]⟩ : ByteArray), ([] : List ByteArray), false))) = some (r1, r2, r3, r4) := H
                    have A19 := Aside0.mk A190
                    clear A190
                    by_cases c20 : t453 = true
                    · subst c20
                      have H1 : ((agoraref08_Node.f t451 (rdOf ByteArray.empty l3 (ji10))).bind fun t456 => ((agoraref08_Preimage.f t451 (rdOf ByteArray.empty l3 (ji10))).bind fun t457 => (if t452.length < 8796093022208 then (some (t450, t456, (t452 ++ [t457]), true)) else (none)))) = some (r1, r2, r3, r4) := by rw [if_pos rfl] at H; exact H
                      clear H
                      have H := H1
                      clear H1
                      replace H := Option.bind_eq_some_iff.mp H
                      obtain ⟨t456, A210, H⟩ := H
                      replace H : ((agoraref08_Preimage.f t451 (rdOf ByteArray.empty l3 (ji10))).bind fun t457 => (if t452.length < 8796093022208 then (some (t450, t456, (t452 ++ [t457]), true)) else (none))) = some (r1, r2, r3, r4) := H
                      have A21 := Aside0.mk A210
                      clear A210
                      replace H := Option.bind_eq_some_iff.mp H
                      obtain ⟨t457, A220, H⟩ := H
                      replace H : (if t452.length < 8796093022208 then (some (t450, t456, (t452 ++ [t457]), true)) else (none)) = some (r1, r2, r3, r4) := H
                      have A22 := Aside0.mk A220
                      clear A220
                      by_cases c23 : t452.length < 8796093022208
                      · rw [if_pos c23] at H
                        have LMc23 := Aside0.mk c23
                        clear c23
                        obtain ⟨y458, hy458⟩ : ∃ y_ : List ByteArray, y_ = (t452 ++ [t457]) := ⟨_, rfl⟩
                        replace H : (some (t450, t456, y458, true)) = some (r1, r2, r3, r4) := by first | (rw [hy458]; with_reducible exact H) | (have H2_ := (Option.bind_some _ _).symm.trans H; rw [hy458]; with_reducible exact H2_) | (have H2_ := (Option.bind_some _ _).symm.trans H; with_reducible exact H2_) | with_reducible exact H | (rw [hy458]; exact H) | exact H
                        have Ny458 := Aside0.mk hy458
                        clear hy458
                        simp only [Option.some.injEq, Prod.mk.injEq] at H
                        obtain ⟨rfl, rfl, rfl, rfl⟩ := H
                        have p447 : 0 ≤ ((ji10) : Int) := of_decide_eq_true (by first | (with_reducible assumption) | assumption)
                        have q447 : (ji10) < (l3.length : Int) := of_decide_eq_true (by first | (with_reducible assumption) | assumption)
                        obtain ⟨ad447, e447, hx447_0⟩ := Kd.at_string HR3.out (ji10) p447 q447
                        cases e447
                        replace hx447_0 := (HB.out.cell (World.block_lt_of_cell? w _ hx447_0)).trans hx447_0
                        replace p447 := eq_true p447
                        replace q447 := eq_true q447
                        obtain ⟨i024, hi024, _, hsz24, _⟩ := info_parts info9
                        obtain ⟨hcut24, hA24, hC24⟩ := print_take_of (P := Try.prog) Value.string (⟨#[]⟩ : ByteArray) 22 9 .i64 Try.underlying22 hi024 hsz24 (some ad447) c3 l3 (ji10) (of_decide_eq_true (by first | (with_reducible assumption) | assumption)) (of_decide_eq_true (by first | (with_reducible assumption) | assumption)) HC3.out
                        have HR448 := Aside0.mk (Kd.C_of_reads (h1 := fun _ => rfl) (hA24 _ (Kd.reads_of_C HR3.out)))
                        have HC448 := Aside0.mk hC24
                        clear hA24 hC24 hi024 hsz24
                        go_wp2_with (first | ((with_reducible refine gate_callee (f := 33) rfl ?_); refine goesL_ (some 59) rfl rfl Try.func33 (by kernel_rfl) rfl #[.int .i64 a1] rfl (by (try simp only [List.map_toArray, List.map_cons, List.map_nil]); first | done | rfl | (simp only [List.length_drop, List.length_take]; rfl)) ?_; (with_reducible refine (agoraref08_Split.calls kj5 a1 t449 _ A17.out).mono ?_); rintro e w' ⟨rfl, ⟨nd, rfl⟩⟩; refine ⟨_, rfl, ?_⟩) | ((with_reducible refine gate_callee (f := 26) rfl ?_); refine goesL_ (some 69) rfl rfl Try.func26 (by kernel_rfl) rfl #[.int .i64 a0, .int .i64 t449, .string a2, .slice (some ad447) (l3.take ((ji10) : Int).toNat).length c3, .bool a4] rfl (by (try simp only [List.map_toArray, List.map_cons, List.map_nil]); first | done | (rw [show (l3.take ((ji10) : Int).toNat).length = (ji10).toNat from (by rw [List.length_take]; have h_ : ((ji10) : Int) ≤ (l3.length : Int) := of_decide_eq_true (by first | (with_reducible assumption) | assumption); omega)] <;> rfl) | (simp only [hji10]; rfl) | rfl | (simp only [List.length_drop, List.length_take]; rfl)) ?_; (with_reducible refine (ih kj5 (by have := HJ5.out; omega) a0 t449 a2 _ _ (l3.take ((ji10) : Int).toNat) a4 t450 t451 t452 true _ ?side1 ?side2 A19.out).mono ?_); (case side1 => repeat (first | exact (Kd.C_below HR448.out (by repeat (first | (with_reducible first | exact HB.out | apply below_alloc | apply pw_below_drewN | apply below_drew1) | exact HB.out))) | (with_reducible refine Kd.C_alloc ?_ _) | (with_reducible refine Kd.C_drewN ?_ _) | (with_reducible refine Kd.C_drew ?_))); (case side2 => exact HC448.out); rintro e w25 ⟨v454, rfl, ho0, hb⟩; refine ⟨_, rfl, ?_⟩; have n0_ := Aside0.mk (Kd.R_lower ho0 (below_size (by repeat (first | (with_reducible first | exact HB.out | apply below_alloc | apply pw_below_drewN | apply below_drew1) | exact HB.out)))); have n1_ := Aside0.mk (below_step (by repeat (first | (with_reducible first | exact HB.out | apply below_alloc | apply pw_below_drewN | apply below_drew1) | exact HB.out)) hb); clear HB; have HO455 := n0_; have HB := n1_; clear n0_ n1_; (try clear hb); (try clear hb2); (try clear hk); (try clear hi); (try clear ho0)) | ((with_reducible refine gate_callee (f := 34) rfl ?_); refine goesL_ (some 79) rfl rfl Try.func34 (by kernel_rfl) rfl #[.string t451, .string (rdOf ByteArray.empty l3 (ji10))] rfl (by (try simp only [List.map_toArray, List.map_cons, List.map_nil]); first | done | (simp only [hji10]; rfl) | rfl | (simp only [List.length_drop, List.length_take]; rfl)) ?_; (with_reducible refine (agoraref08_Node.calls t451 (rdOf ByteArray.empty l3 (ji10)) t456 _ A21.out).mono ?_); rintro e w26 ⟨rfl, hb⟩; refine ⟨_, rfl, ?_⟩; have n0_ := Aside0.mk (Kd.R_below (by (with_reducible repeat (first | apply Kd.R_alloc | apply Kd.R_drewN | apply Kd.R_drew)); exact HO455.out) hb); have n1_ := Aside0.mk (below_step (by repeat (first | (with_reducible first | exact HB.out | apply below_alloc | apply pw_below_drewN | apply below_drew1) | exact HB.out)) hb); clear HO455; clear HB; have HO455 := n0_; have HB := n1_; clear n0_ n1_; (try clear hb); (try clear hb2); (try clear hk); (try clear hi)) | ((with_reducible refine gate_callee (f := 39) rfl ?_); refine goesL_ (some 83) rfl rfl Try.func39 (by kernel_rfl) rfl #[.string t451, .string (rdOf ByteArray.empty l3 (ji10))] rfl (by (try simp only [List.map_toArray, List.map_cons, List.map_nil]); first | done | (simp only [hji10]; rfl) | rfl | (simp only [List.length_drop, List.length_take]; rfl)) ?_; (with_reducible refine (agoraref08_Preimage.calls t451 (rdOf ByteArray.empty l3 (ji10)) t457 _ A22.out).mono ?_); rintro e w' ⟨rfl, ⟨nd, rfl⟩⟩; refine ⟨_, rfl, ?_⟩) | ((with_reducible refine gate_builtin (b := .append) (xs := #[.tmp 80, .tmp 84]) rfl ?_); at_builtin; refine Kd.R_append Kd.string (w0 := w) w.heap.size rfl (.tmp 80) (.tmp 84) 22 9 (.string ⟨#[]⟩) 16 rfl Try.underlying22 info9 rfl (by decide) (by omega) v454 t452 t457 [.string t457] (fun _ => True) (fun _ => False) rfl rfl ?aP (fun _ hk => hk.elim) ?aF ?aO ?aB ?aS ?aL ?_; (case aP => exact rfl); (case aB => exact (by repeat (first | (with_reducible first | exact HB.out | apply below_alloc | apply pw_below_drewN | apply below_drew1) | exact HB.out))); (case aF => exact (fun _ _ => trivial)); (case aO => exact (by (with_reducible repeat (first | apply Kd.R_alloc | apply Kd.R_drewN | apply Kd.R_drew)); exact HO455.out)); (case aS => exact (below_size (by repeat (first | (with_reducible first | exact HB.out | apply below_alloc | apply pw_below_drewN | apply below_drew1) | exact HB.out)))); (case aL => have := LMc23.out; omega); intro v459 w27 ho hb hg hat; rw [← Ny458.out] at ho; have n0_ := Aside0.mk (hb); have n1_ := Aside0.mk (ho); clear HB; clear HO455; have HB := n0_; have HO460 := n1_; clear n0_ n1_; clear ho hb hg hat))
                        refine bodyPost_ret (results_list (rs := [.tmp 10, .tmp 11, .tmp 12, .tmp 13]) rfl (by simp) (.tmp (.tmp (.tmp (.tmp .nil))))) rfl ?_
                        exact ⟨_, by first | rfl | (simp [errW_none, errW_some] <;> rfl) | (simp only [← hji10]; first | rfl | (simp [errW_none, errW_some] <;> rfl)) | (simp [*, errW_none, errW_some] <;> rfl), by (with_reducible repeat (first | apply Kd.R_alloc | apply Kd.R_drewN | apply Kd.R_drew)); exact HO460.out, by repeat (first | (with_reducible first | exact HB.out | apply below_alloc | apply pw_below_drewN | apply below_drew1) | exact HB.out)⟩
                      · rw [if_neg c23] at H
                        exact absurd H (by simp)
                    · replace c20 := Bool.eq_false_iff.mpr c20
                      subst c20
                      have H1 : (some ((⟨#[]⟩ : ByteArray), (⟨#[]⟩ : ByteArray), ([] : List ByteArray), false)) = some (r1, r2, r3, r4) := by rw [if_neg (show ¬ (false = true) by decide)] at H; exact H
                      clear H
                      have H := H1
                      clear H1
                      simp only [Option.some.injEq, Prod.mk.injEq] at H
                      obtain ⟨rfl, rfl, rfl, rfl⟩ := H
                      have p447 : 0 ≤ ((ji10) : Int) := of_decide_eq_true (by first | (with_reducible assumption) | assumption)
                      have q447 : (ji10) < (l3.length : Int) := of_decide_eq_true (by first | (with_reducible assumption) | assumption)
                      obtain ⟨ad447, e447, hx447_0⟩ := Kd.at_string HR3.out (ji10) p447 q447
                      cases e447
                      replace hx447_0 := (HB.out.cell (World.block_lt_of_cell? w _ hx447_0)).trans hx447_0
                      replace p447 := eq_true p447
                      replace q447 := eq_true q447
                      obtain ⟨i028, hi028, _, hsz28, _⟩ := info_parts info9
                      obtain ⟨hcut28, hA28, hC28⟩ := print_take_of (P := Try.prog) Value.string (⟨#[]⟩ : ByteArray) 22 9 .i64 Try.underlying22 hi028 hsz28 (some ad447) c3 l3 (ji10) (of_decide_eq_true (by first | (with_reducible assumption) | assumption)) (of_decide_eq_true (by first | (with_reducible assumption) | assumption)) HC3.out
                      have HR448 := Aside0.mk (Kd.C_of_reads (h1 := fun _ => rfl) (hA28 _ (Kd.reads_of_C HR3.out)))
                      have HC448 := Aside0.mk hC28
                      clear hA28 hC28 hi028 hsz28
                      go_wp2_with (first | ((with_reducible refine gate_callee (f := 33) rfl ?_); refine goesL_ (some 59) rfl rfl Try.func33 (by kernel_rfl) rfl #[.int .i64 a1] rfl (by (try simp only [List.map_toArray, List.map_cons, List.map_nil]); first | done | rfl | (simp only [List.length_drop, List.length_take]; rfl)) ?_; (with_reducible refine (agoraref08_Split.calls kj5 a1 t449 _ A17.out).mono ?_); rintro e w' ⟨rfl, ⟨nd, rfl⟩⟩; refine ⟨_, rfl, ?_⟩) | ((with_reducible refine gate_callee (f := 26) rfl ?_); refine goesL_ (some 69) rfl rfl Try.func26 (by kernel_rfl) rfl #[.int .i64 a0, .int .i64 t449, .string a2, .slice (some ad447) (l3.take ((ji10) : Int).toNat).length c3, .bool a4] rfl (by (try simp only [List.map_toArray, List.map_cons, List.map_nil]); first | done | (rw [show (l3.take ((ji10) : Int).toNat).length = (ji10).toNat from (by rw [List.length_take]; have h_ : ((ji10) : Int) ≤ (l3.length : Int) := of_decide_eq_true (by first | (with_reducible assumption) | assumption); omega)] <;> rfl) | (simp only [hji10]; rfl) | rfl | (simp only [List.length_drop, List.length_take]; rfl)) ?_; (with_reducible refine (ih kj5 (by have := HJ5.out; omega) a0 t449 a2 _ _ (l3.take ((ji10) : Int).toNat) a4 t450 t451 t452 false _ ?side1 ?side2 A19.out).mono ?_); (case side1 => repeat (first | exact (Kd.C_below HR448.out (by repeat (first | (with_reducible first | exact HB.out | apply below_alloc | apply pw_below_drewN | apply below_drew1) | exact HB.out))) | (with_reducible refine Kd.C_alloc ?_ _) | (with_reducible refine Kd.C_drewN ?_ _) | (with_reducible refine Kd.C_drew ?_))); (case side2 => exact HC448.out); rintro e w29 ⟨v454, rfl, ho0, hb⟩; refine ⟨_, rfl, ?_⟩; have n0_ := Aside0.mk (Kd.R_lower ho0 (below_size (by repeat (first | (with_reducible first | exact HB.out | apply below_alloc | apply pw_below_drewN | apply below_drew1) | exact HB.out)))); have n1_ := Aside0.mk (below_step (by repeat (first | (with_reducible first | exact HB.out | apply below_alloc | apply pw_below_drewN | apply below_drew1) | exact HB.out)) hb); clear HB; have HO455 := n0_; have HB := n1_; clear n0_ n1_; (try clear hb); (try clear hb2); (try clear hk); (try clear hi); (try clear ho0)))
                      refine bodyPost_ret (results_list (rs := [.tmp 10, .tmp 11, .tmp 12, .tmp 13]) rfl (by simp) (.tmp (.tmp (.tmp (.tmp .nil))))) rfl ?_
                      exact ⟨_, by first | rfl | (simp [errW_none, errW_some] <;> rfl) | (simp only [← hji10]; first | rfl | (simp [errW_none, errW_some] <;> rfl)) | (simp [*, errW_none, errW_some] <;> rfl), by first | exact Kd.R_nil _ _ _ _ _ | exact Kd.N_nil _ _ _ _ _ | exact Kd.V_nil _ _ _ _ _ | exact Kd.Q_nil _ _ _ _ _ | exact Kd.S_nil _ _ _ _ _, by repeat (first | (with_reducible first | exact HB.out | apply below_alloc | apply pw_below_drewN | apply below_drew1) | exact HB.out)⟩
                  · rw [if_neg c18] at H
                    have c18b0 : decide (a0 ≤ t449) = false := decide_eq_false c18
                    clear c18
                    replace H := Option.bind_eq_some_iff.mp H
                    obtain ⟨⟨t461, t462, t463, t464⟩, A300, H⟩ := H
                    replace H : (if t464 = true then ((agoraref08_Node.f (rdOf ByteArray.empty l3 (ji10)) t461).bind fun t467 => ((agoraref08_Node.f (rdOf ByteArray.empty l3 (ji10)) t462).bind fun t468 => ((agoraref08_Preimage.f (rdOf ByteArray.empty l3 (ji10)) t461).bind fun t469 => ((agoraref08_Preimage.f (rdOf ByteArray.empty l3 (ji10)) t462).bind fun t470 => ((some (([t469, t470] : List ByteArray) : List ByteArray)).bind fun y471 => (if t463.length + y471.length < 8796093022208 then (some (t467, t468, (t463 ++ y471), true)) else (none))))))) else (some ((⟨#[]⟩ : ByteArray), (⟨#[]⟩ : ByteArray), ([] : List ByteArray), false))) = some (r1, r2, r3, r4) := H
                    have A30 := Aside0.mk A300
                    clear A300
                    by_cases c31 : t464 = true
                    · subst c31
                      have H1 : ((agoraref08_Node.f (rdOf ByteArray.empty l3 (ji10)) t461).bind fun t467 => ((agoraref08_Node.f (rdOf ByteArray.empty l3 (ji10)) t462).bind fun t468 => ((agoraref08_Preimage.f (rdOf ByteArray.empty l3 (ji10)) t461).bind fun t469 => ((agoraref08_Preimage.f (rdOf ByteArray.empty l3 (ji10)) t462).bind fun t470 => ((some (([t469, t470] : List ByteArray) : List ByteArray)).bind fun y471 => (if t463.length + y471.length < 8796093022208 then (some (t467, t468, (t463 ++ y471), true)) else (none))))))) = some (r1, r2, r3, r4) := by rw [if_pos rfl] at H; exact H
                      clear H
                      have H := H1
                      clear H1
                      replace H := Option.bind_eq_some_iff.mp H
                      obtain ⟨t467, A320, H⟩ := H
                      replace H : ((agoraref08_Node.f (rdOf ByteArray.empty l3 (ji10)) t462).bind fun t468 => ((agoraref08_Preimage.f (rdOf ByteArray.empty l3 (ji10)) t461).bind fun t469 => ((agoraref08_Preimage.f (rdOf ByteArray.empty l3 (ji10)) t462).bind fun t470 => ((some (([t469, t470] : List ByteArray) : List ByteArray)).bind fun y471 => (if t463.length + y471.length < 8796093022208 then (some (t467, t468, (t463 ++ y471), true)) else (none)))))) = some (r1, r2, r3, r4) := H
                      have A32 := Aside0.mk A320
                      clear A320
                      replace H := Option.bind_eq_some_iff.mp H
                      obtain ⟨t468, A330, H⟩ := H
                      replace H : ((agoraref08_Preimage.f (rdOf ByteArray.empty l3 (ji10)) t461).bind fun t469 => ((agoraref08_Preimage.f (rdOf ByteArray.empty l3 (ji10)) t462).bind fun t470 => ((some (([t469, t470] : List ByteArray) : List ByteArray)).bind fun y471 => (if t463.length + y471.length < 8796093022208 then (some (t467, t468, (t463 ++ y471), true)) else (none))))) = some (r1, r2, r3, r4) := H
                      have A33 := Aside0.mk A330
                      clear A330
                      replace H := Option.bind_eq_some_iff.mp H
                      obtain ⟨t469, A340, H⟩ := H
                      replace H : ((agoraref08_Preimage.f (rdOf ByteArray.empty l3 (ji10)) t462).bind fun t470 => ((some (([t469, t470] : List ByteArray) : List ByteArray)).bind fun y471 => (if t463.length + y471.length < 8796093022208 then (some (t467, t468, (t463 ++ y471), true)) else (none)))) = some (r1, r2, r3, r4) := H
                      have A34 := Aside0.mk A340
                      clear A340
                      replace H := Option.bind_eq_some_iff.mp H
                      obtain ⟨t470, A350, H⟩ := H
                      replace H : ((some (([t469, t470] : List ByteArray) : List ByteArray)).bind fun y471 => (if t463.length + y471.length < 8796093022208 then (some (t467, t468, (t463 ++ y471), true)) else (none))) = some (r1, r2, r3, r4) := H
                      have A35 := Aside0.mk A350
                      clear A350
                      obtain ⟨y471, hy471⟩ : ∃ y_ : List ByteArray, y_ = (([t469, t470] : List ByteArray)) := ⟨_, rfl⟩
                      replace H : (if t463.length + y471.length < 8796093022208 then (some (t467, t468, (t463 ++ y471), true)) else (none)) = some (r1, r2, r3, r4) := by first | (rw [hy471]; with_reducible exact H) | (have H2_ := (Option.bind_some _ _).symm.trans H; rw [hy471]; with_reducible exact H2_) | (have H2_ := (Option.bind_some _ _).symm.trans H; with_reducible exact H2_) | with_reducible exact H | (rw [hy471]; exact H) | exact H
                      have Ny471 := Aside0.mk hy471
                      clear hy471
                      by_cases c36 : t463.length + y471.length < 8796093022208
                      · rw [if_pos c36] at H
                        have LMc36 := Aside0.mk c36
                        clear c36
                        obtain ⟨y474, hy474⟩ : ∃ y_ : List ByteArray, y_ = (t463 ++ y471) := ⟨_, rfl⟩
                        replace H : (some (t467, t468, y474, true)) = some (r1, r2, r3, r4) := by first | (rw [hy474]; with_reducible exact H) | (have H2_ := (Option.bind_some _ _).symm.trans H; rw [hy474]; with_reducible exact H2_) | (have H2_ := (Option.bind_some _ _).symm.trans H; with_reducible exact H2_) | with_reducible exact H | (rw [hy474]; exact H) | exact H
                        have Ny474 := Aside0.mk hy474
                        clear hy474
                        simp only [Option.some.injEq, Prod.mk.injEq] at H
                        obtain ⟨rfl, rfl, rfl, rfl⟩ := H
                        have p447 : 0 ≤ ((ji10) : Int) := of_decide_eq_true (by first | (with_reducible assumption) | assumption)
                        have q447 : (ji10) < (l3.length : Int) := of_decide_eq_true (by first | (with_reducible assumption) | assumption)
                        obtain ⟨ad447, e447, hx447_0⟩ := Kd.at_string HR3.out (ji10) p447 q447
                        cases e447
                        replace hx447_0 := (HB.out.cell (World.block_lt_of_cell? w _ hx447_0)).trans hx447_0
                        replace p447 := eq_true p447
                        replace q447 := eq_true q447
                        obtain ⟨i037, hi037, _, hsz37, _⟩ := info_parts info9
                        obtain ⟨hcut37, hA37, hC37⟩ := print_take_of (P := Try.prog) Value.string (⟨#[]⟩ : ByteArray) 22 9 .i64 Try.underlying22 hi037 hsz37 (some ad447) c3 l3 (ji10) (of_decide_eq_true (by first | (with_reducible assumption) | assumption)) (of_decide_eq_true (by first | (with_reducible assumption) | assumption)) HC3.out
                        have HR448 := Aside0.mk (Kd.C_of_reads (h1 := fun _ => rfl) (hA37 _ (Kd.reads_of_C HR3.out)))
                        have HC448 := Aside0.mk hC37
                        clear hA37 hC37 hi037 hsz37
                        go_wp2_with (first | ((with_reducible refine gate_callee (f := 33) rfl ?_); refine goesL_ (some 59) rfl rfl Try.func33 (by kernel_rfl) rfl #[.int .i64 a1] rfl (by (try simp only [List.map_toArray, List.map_cons, List.map_nil]); first | done | rfl | (simp only [List.length_drop, List.length_take]; rfl)) ?_; (with_reducible refine (agoraref08_Split.calls kj5 a1 t449 _ A17.out).mono ?_); rintro e w' ⟨rfl, ⟨nd, rfl⟩⟩; refine ⟨_, rfl, ?_⟩) | ((with_reducible refine gate_callee (f := 26) rfl ?_); refine goesL_ (some 95) rfl rfl Try.func26 (by kernel_rfl) rfl #[.int .i64 (wrap64 (a0 - t449)), .int .i64 (wrap64 (a1 - t449)), .string a2, .slice (some ad447) (l3.take ((ji10) : Int).toNat).length c3, .bool false] rfl (by (try simp only [List.map_toArray, List.map_cons, List.map_nil]); first | done | (rw [show (l3.take ((ji10) : Int).toNat).length = (ji10).toNat from (by rw [List.length_take]; have h_ : ((ji10) : Int) ≤ (l3.length : Int) := of_decide_eq_true (by first | (with_reducible assumption) | assumption); omega)] <;> rfl) | (simp only [hji10]; rfl) | rfl | (simp only [List.length_drop, List.length_take]; rfl)) ?_; (with_reducible refine (ih kj5 (by have := HJ5.out; omega) (wrap64 (a0 - t449)) (wrap64 (a1 - t449)) a2 _ _ (l3.take ((ji10) : Int).toNat) false t461 t462 t463 true _ ?side1 ?side2 A30.out).mono ?_); (case side1 => repeat (first | exact (Kd.C_below HR448.out (by repeat (first | (with_reducible first | exact HB.out | apply below_alloc | apply pw_below_drewN | apply below_drew1) | exact HB.out))) | (with_reducible refine Kd.C_alloc ?_ _) | (with_reducible refine Kd.C_drewN ?_ _) | (with_reducible refine Kd.C_drew ?_))); (case side2 => exact HC448.out); rintro e w38 ⟨v465, rfl, ho0, hb⟩; refine ⟨_, rfl, ?_⟩; have n0_ := Aside0.mk (Kd.R_lower ho0 (below_size (by repeat (first | (with_reducible first | exact HB.out | apply below_alloc | apply pw_below_drewN | apply below_drew1) | exact HB.out)))); have n1_ := Aside0.mk (below_step (by repeat (first | (with_reducible first | exact HB.out | apply below_alloc | apply pw_below_drewN | apply below_drew1) | exact HB.out)) hb); clear HB; have HO466 := n0_; have HB := n1_; clear n0_ n1_; (try clear hb); (try clear hb2); (try clear hk); (try clear hi); (try clear ho0)) | ((with_reducible refine gate_callee (f := 34) rfl ?_); refine goesL_ (some 104) rfl rfl Try.func34 (by kernel_rfl) rfl #[.string (rdOf ByteArray.empty l3 (ji10)), .string t461] rfl (by (try simp only [List.map_toArray, List.map_cons, List.map_nil]); first | done | (simp only [hji10]; rfl) | rfl | (simp only [List.length_drop, List.length_take]; rfl)) ?_; (with_reducible refine (agoraref08_Node.calls (rdOf ByteArray.empty l3 (ji10)) t461 t467 _ A32.out).mono ?_); rintro e w39 ⟨rfl, hb⟩; refine ⟨_, rfl, ?_⟩; have n0_ := Aside0.mk (Kd.R_below (by (with_reducible repeat (first | apply Kd.R_alloc | apply Kd.R_drewN | apply Kd.R_drew)); exact HO466.out) hb); have n1_ := Aside0.mk (below_step (by repeat (first | (with_reducible first | exact HB.out | apply below_alloc | apply pw_below_drewN | apply below_drew1) | exact HB.out)) hb); clear HO466; clear HB; have HO466 := n0_; have HB := n1_; clear n0_ n1_; (try clear hb); (try clear hb2); (try clear hk); (try clear hi)) | ((with_reducible refine gate_callee (f := 34) rfl ?_); refine goesL_ (some 107) rfl rfl Try.func34 (by kernel_rfl) rfl #[.string (rdOf ByteArray.empty l3 (ji10)), .string t462] rfl (by (try simp only [List.map_toArray, List.map_cons, List.map_nil]); first | done | (simp only [hji10]; rfl) | rfl | (simp only [List.length_drop, List.length_take]; rfl)) ?_; (with_reducible refine (agoraref08_Node.calls (rdOf ByteArray.empty l3 (ji10)) t462 t468 _ A33.out).mono ?_); rintro e w40 ⟨rfl, hb⟩; refine ⟨_, rfl, ?_⟩; have n0_ := Aside0.mk (Kd.R_below (by (with_reducible repeat (first | apply Kd.R_alloc | apply Kd.R_drewN | apply Kd.R_drew)); exact HO466.out) hb); have n1_ := Aside0.mk (below_step (by repeat (first | (with_reducible first | exact HB.out | apply below_alloc | apply pw_below_drewN | apply below_drew1) | exact HB.out)) hb); clear HO466; clear HB; have HO466 := n0_; have HB := n1_; clear n0_ n1_; (try clear hb); (try clear hb2); (try clear hk); (try clear hi)) | ((with_reducible refine gate_callee (f := 39) rfl ?_); refine goesL_ (some 111) rfl rfl Try.func39 (by kernel_rfl) rfl #[.string (rdOf ByteArray.empty l3 (ji10)), .string t461] rfl (by (try simp only [List.map_toArray, List.map_cons, List.map_nil]); first | done | (simp only [hji10]; rfl) | rfl | (simp only [List.length_drop, List.length_take]; rfl)) ?_; (with_reducible refine (agoraref08_Preimage.calls (rdOf ByteArray.empty l3 (ji10)) t461 t469 _ A34.out).mono ?_); rintro e w' ⟨rfl, ⟨nd, rfl⟩⟩; refine ⟨_, rfl, ?_⟩) | ((with_reducible refine gate_callee (f := 39) rfl ?_); refine goesL_ (some 114) rfl rfl Try.func39 (by kernel_rfl) rfl #[.string (rdOf ByteArray.empty l3 (ji10)), .string t462] rfl (by (try simp only [List.map_toArray, List.map_cons, List.map_nil]); first | done | (simp only [hji10]; rfl) | rfl | (simp only [List.length_drop, List.length_take]; rfl)) ?_; (with_reducible refine (agoraref08_Preimage.calls (rdOf ByteArray.empty l3 (ji10)) t462 t470 _ A35.out).mono ?_); rintro e w' ⟨rfl, ⟨nd, rfl⟩⟩; refine ⟨_, rfl, ?_⟩) | ((with_reducible refine gate_dst (N := 115) rfl ?_); refine Kd.R_lit Kd.string _ 9 ?hg (N := 115) ?hd (xs := ([t469, t470] : List ByteArray)) (inner := [.string t469, .string t470]) (ok := fun _ => True) (okp := fun _ => True) ?hr ?hp (fun _ hk => hk) trivial (Below.refl _ _) (Nat.le_refl _) (by simp) ?_; (case hd => rfl); (case hg => rfl); (case hr => first | (go_simp; done) | (go_simp; rfl) | (go_simp; simp only [IntKind.wrap_u32', Int.emod_add_emod, Int.add_emod_emod])); (case hp => exact (Reps.one (show Kd.M Kd.string _ _ _ t469 [.string t469] from rfl) (Reps.one (show Kd.M Kd.string _ _ _ t470 [.string t470] from rfl) (Reps.none _ _)))); intro v472 w41 ho42 hb hg_ hnew_; clear hg_ hnew_; (first | rw [← Ny471.out] at ho42 | (simp only [Int.reduceToNat] at ho42; rw [← Ny471.out] at ho42)); have n0_ := Aside0.mk (Kd.R_elder' (by (with_reducible repeat (first | apply Kd.R_alloc | apply Kd.R_drewN | apply Kd.R_drew)); exact HO466.out) (Kd.R_base ho42) hb); have n1_ := Aside0.mk (Kd.R_lower (Kd.R_new' ho42 (Kd.R_lt (by (with_reducible repeat (first | apply Kd.R_alloc | apply Kd.R_drewN | apply Kd.R_drew)); exact HO466.out))) (below_size (by repeat (first | (with_reducible first | exact HB.out | apply below_alloc | apply pw_below_drewN | apply below_drew1) | exact HB.out)))); have n2_ := Aside0.mk (below_step (by repeat (first | (with_reducible first | exact HB.out | apply below_alloc | apply pw_below_drewN | apply below_drew1) | exact HB.out)) hb); clear HO466; clear HB; have HO466 := n0_; have HO473 := n1_; have HB := n2_; clear n0_ n1_ n2_; clear hb ho42; obtain ⟨Ao44, co44, eo44⟩ := Kd.R_slice HO473.out; subst eo44) | ((with_reducible refine gate_builtin (b := .append) (xs := #[.tmp 108, .tmp 115]) rfl ?_); at_builtin; refine Kd.R_append_rows Kd.string (w0 := w) w.heap.size rfl (.tmp 108) (.tmp 115) 22 9 (.string ⟨#[]⟩) 16 rfl Try.underlying22 info9 rfl (by decide) (by omega) v465 t463 y471 _ _ _ (fun k_ => some k_ ≠ (.slice Ao44 y471.length co44 : Value).ownBlock) (fun _ => False) rfl rfl ?aO ?aR (fun _ _ h => h) (fun _ h => h.elim) ?aF ?aB ?aS ?aL ?_; (case aR => repeat (first | exact (Kd.R_reads' HO473.out).2.2 | (with_reducible refine Kd.C_alloc ?_ _) | (with_reducible refine Kd.C_drewN ?_ _) | (with_reducible refine Kd.C_drew ?_))); (case aB => exact (by repeat (first | (with_reducible first | exact HB.out | apply below_alloc | apply pw_below_drewN | apply below_drew1) | exact HB.out))); (case aF => exact (fun k_ hk => Kd.fresh' (Kd.R_lt (by (with_reducible repeat (first | apply Kd.R_alloc | apply Kd.R_drewN | apply Kd.R_drew)); exact HO473.out)) k_ hk)); (case aO => exact (by (with_reducible repeat (first | apply Kd.R_alloc | apply Kd.R_drewN | apply Kd.R_drew)); exact Kd.R_mono HO466.out (fun _ hk => hk.2))); (case aS => exact (below_size (by repeat (first | (with_reducible first | exact HB.out | apply below_alloc | apply pw_below_drewN | apply below_drew1) | exact HB.out)))); (case aL => have := LMc36.out; omega); intro v475 w43 ho hb hg hat; rw [← Ny474.out] at ho; have n0_ := Aside0.mk (Kd.R_after (ok := (fun _ => True)) (by (with_reducible repeat (first | apply Kd.R_alloc | apply Kd.R_drewN | apply Kd.R_drew)); exact HO473.out) hg hat); have n1_ := Aside0.mk (hb); have n2_ := Aside0.mk (ho); clear HO473; clear HB; clear HO466; have HO473 := n0_; have HB := n1_; have HO476 := n2_; clear n0_ n1_ n2_; clear ho hb hg hat))
                        refine bodyPost_ret (results_list (rs := [.tmp 10, .tmp 11, .tmp 12, .tmp 13]) rfl (by simp) (.tmp (.tmp (.tmp (.tmp .nil))))) rfl ?_
                        exact ⟨_, by first | rfl | (simp [errW_none, errW_some] <;> rfl) | (simp only [← hji10]; first | rfl | (simp [errW_none, errW_some] <;> rfl)) | (simp [*, errW_none, errW_some] <;> rfl), by (with_reducible repeat (first | apply Kd.R_alloc | apply Kd.R_drewN | apply Kd.R_drew)); exact Kd.R_mono HO476.out (fun _ hk => trivial), by repeat (first | (with_reducible first | exact HB.out | apply below_alloc | apply pw_below_drewN | apply below_drew1) | exact HB.out)⟩
                      · rw [if_neg c36] at H
                        exact absurd H (by simp)
                    · replace c31 := Bool.eq_false_iff.mpr c31
                      subst c31
                      have H1 : (some ((⟨#[]⟩ : ByteArray), (⟨#[]⟩ : ByteArray), ([] : List ByteArray), false)) = some (r1, r2, r3, r4) := by rw [if_neg (show ¬ (false = true) by decide)] at H; exact H
                      clear H
                      have H := H1
                      clear H1
                      simp only [Option.some.injEq, Prod.mk.injEq] at H
                      obtain ⟨rfl, rfl, rfl, rfl⟩ := H
                      have p447 : 0 ≤ ((ji10) : Int) := of_decide_eq_true (by first | (with_reducible assumption) | assumption)
                      have q447 : (ji10) < (l3.length : Int) := of_decide_eq_true (by first | (with_reducible assumption) | assumption)
                      obtain ⟨ad447, e447, hx447_0⟩ := Kd.at_string HR3.out (ji10) p447 q447
                      cases e447
                      replace hx447_0 := (HB.out.cell (World.block_lt_of_cell? w _ hx447_0)).trans hx447_0
                      replace p447 := eq_true p447
                      replace q447 := eq_true q447
                      obtain ⟨i045, hi045, _, hsz45, _⟩ := info_parts info9
                      obtain ⟨hcut45, hA45, hC45⟩ := print_take_of (P := Try.prog) Value.string (⟨#[]⟩ : ByteArray) 22 9 .i64 Try.underlying22 hi045 hsz45 (some ad447) c3 l3 (ji10) (of_decide_eq_true (by first | (with_reducible assumption) | assumption)) (of_decide_eq_true (by first | (with_reducible assumption) | assumption)) HC3.out
                      have HR448 := Aside0.mk (Kd.C_of_reads (h1 := fun _ => rfl) (hA45 _ (Kd.reads_of_C HR3.out)))
                      have HC448 := Aside0.mk hC45
                      clear hA45 hC45 hi045 hsz45
                      go_wp2_with (first | ((with_reducible refine gate_callee (f := 33) rfl ?_); refine goesL_ (some 59) rfl rfl Try.func33 (by kernel_rfl) rfl #[.int .i64 a1] rfl (by (try simp only [List.map_toArray, List.map_cons, List.map_nil]); first | done | rfl | (simp only [List.length_drop, List.length_take]; rfl)) ?_; (with_reducible refine (agoraref08_Split.calls kj5 a1 t449 _ A17.out).mono ?_); rintro e w' ⟨rfl, ⟨nd, rfl⟩⟩; refine ⟨_, rfl, ?_⟩) | ((with_reducible refine gate_callee (f := 26) rfl ?_); refine goesL_ (some 95) rfl rfl Try.func26 (by kernel_rfl) rfl #[.int .i64 (wrap64 (a0 - t449)), .int .i64 (wrap64 (a1 - t449)), .string a2, .slice (some ad447) (l3.take ((ji10) : Int).toNat).length c3, .bool false] rfl (by (try simp only [List.map_toArray, List.map_cons, List.map_nil]); first | done | (rw [show (l3.take ((ji10) : Int).toNat).length = (ji10).toNat from (by rw [List.length_take]; have h_ : ((ji10) : Int) ≤ (l3.length : Int) := of_decide_eq_true (by first | (with_reducible assumption) | assumption); omega)] <;> rfl) | (simp only [hji10]; rfl) | rfl | (simp only [List.length_drop, List.length_take]; rfl)) ?_; (with_reducible refine (ih kj5 (by have := HJ5.out; omega) (wrap64 (a0 - t449)) (wrap64 (a1 - t449)) a2 _ _ (l3.take ((ji10) : Int).toNat) false t461 t462 t463 false _ ?side1 ?side2 A30.out).mono ?_); (case side1 => repeat (first | exact (Kd.C_below HR448.out (by repeat (first | (with_reducible first | exact HB.out | apply below_alloc | apply pw_below_drewN | apply below_drew1) | exact HB.out))) | (with_reducible refine Kd.C_alloc ?_ _) | (with_reducible refine Kd.C_drewN ?_ _) | (with_reducible refine Kd.C_drew ?_))); (case side2 => exact HC448.out); rintro e w46 ⟨v465, rfl, ho0, hb⟩; refine ⟨_, rfl, ?_⟩; have n0_ := Aside0.mk (Kd.R_lower ho0 (below_size (by repeat (first | (with_reducible first | exact HB.out | apply below_alloc | apply pw_below_drewN | apply below_drew1) | exact HB.out)))); have n1_ := Aside0.mk (below_step (by repeat (first | (with_reducible first | exact HB.out | apply below_alloc | apply pw_below_drewN | apply below_drew1) | exact HB.out)) hb); clear HB; have HO466 := n0_; have HB := n1_; clear n0_ n1_; (try clear hb); (try clear hb2); (try clear hk); (try clear hi); (try clear ho0)))
                      refine bodyPost_ret (results_list (rs := [.tmp 10, .tmp 11, .tmp 12, .tmp 13]) rfl (by simp) (.tmp (.tmp (.tmp (.tmp .nil))))) rfl ?_
                      exact ⟨_, by first | rfl | (simp [errW_none, errW_some] <;> rfl) | (simp only [← hji10]; first | rfl | (simp [errW_none, errW_some] <;> rfl)) | (simp [*, errW_none, errW_some] <;> rfl), by first | exact Kd.R_nil _ _ _ _ _ | exact Kd.N_nil _ _ _ _ _ | exact Kd.V_nil _ _ _ _ _ | exact Kd.Q_nil _ _ _ _ _ | exact Kd.S_nil _ _ _ _ _, by repeat (first | (with_reducible first | exact HB.out | apply below_alloc | apply pw_below_drewN | apply below_drew1) | exact HB.out)⟩
              · rw [if_neg c14] at H
                exact absurd H (by simp)
            · rw [if_neg c12] at H
              exact absurd H (by simp)
          · rw [if_neg c11] at H
            exact absurd H (by simp)
end Go.Proofs.Ytkhkppehdgkboaa.P
end P17_
section MkR_
namespace Go.Proofs.Ytkhkppehdgkboaa.Mk
open Go.RowKit Go.Proofs.Ytkhkppehdgkboaa.P Go.Proofs.YtkhkppehdgkboaaW.PrintWords Go.Proofs.YtkhkppehdgkboaaW.PrintLast Go.Proofs.YtkhkppehdgkboaaW.PrintMore
set_option linter.unusedVariables false
theorem rsplit_l0 (n : Nat) (h2 : 2 ≤ n) (hn : n < 9223372036854775808) : ∀ (m j k : Nat), j + m = Nat.log2 (n - 1) → m < k → agoraref08_Split.l0 k (n : Int) ((2 ^ j : Nat) : Int) = some ((spl n : Nat) : Int)
  | m, j, 0, _, h => by omega
  | 0, j, k + 1, h, _ => by
    have a1 : n - 1 < 2 ^ (Nat.log2 (n - 1) + 1) := Nat.lt_log2_self
    have a2 : 2 ^ Nat.log2 (n - 1) ≤ n - 1 := Nat.log2_self_le (by omega)
    rw [Nat.pow_succ] at a1
    obtain rfl : j = Nat.log2 (n - 1) := by omega
    rw [agoraref08_Split.l0, spl]
    generalize 2 ^ Nat.log2 (n - 1) = e at a1 a2 ⊢
    rw [if_neg (by rw [wrap64]; omega)]
  | m + 1, j, k + 1, h, hk => by
    have a2 : 2 ^ Nat.log2 (n - 1) ≤ n - 1 := Nat.log2_self_le (by omega)
    have a3 : 2 ^ (j + 1) ≤ 2 ^ Nat.log2 (n - 1) := Nat.pow_le_pow_right (by decide) (by omega)
    have ih := rsplit_l0 n h2 hn m (j + 1) k (by omega) (by omega)
    have e : wrap64 (2 * ((2 ^ j : Nat) : Int)) = ((2 ^ (j + 1) : Nat) : Int) := by rw [wrap64]; rw [Nat.pow_succ] at a3 ⊢; omega
    rw [agoraref08_Split.l0, e, ih, if_pos (by rw [wrap64]; rw [Nat.pow_succ] at a3; omega)]
theorem rsplit_at (k n : Nat) (hk : 64 ≤ k) (h2 : 2 ≤ n) (hn : n < 9223372036854775808) : agoraref08_Split.f k (n : Int) = some ((spl n : Nat) : Int) := by
  have hl : Nat.log2 (n - 1) < 63 := (Nat.log2_lt (by omega)).2 (by omega)
  exact rsplit_l0 n h2 hn (Nat.log2 (n - 1)) 0 k (by omega) (by omega)
theorem sha_ref (s : ByteArray) (h : s.size ≤ 1099511627776) : agoraref03_Sha.f s = some (Sch.shaB s) := by rw [agoraref03_Sha.f, if_pos h]
theorem pre_size (a b : ByteArray) : (preB a b).size = 1 + a.size + b.size := by rw [preB, ByteArray.size_append, ByteArray.size_append]; rfl
theorem pre_ref (a b : ByteArray) (ha : a.size ≤ 1000000000) (hb : b.size ≤ 1000000000) : agoraref08_Preimage.f a b = some (preB a b) := by
  rw [agoraref08_Preimage.f, if_pos (by omega), if_pos (by rw [ByteArray.size_append, show (ByteArray.mk #[1]).size = 1 from rfl]; omega)]; rfl
theorem node_ref (a b : ByteArray) (ha : a.size ≤ 1000000000) (hb : b.size ≤ 1000000000) : agoraref08_Node.f a b = some (nodeB a b) := by
  rw [agoraref08_Node.f, pre_ref a b ha hb, Option.bind_some, sha_ref _ (by rw [pre_size]; omega), Option.bind_some]; rfl
theorem root_ref : ∀ (n k : Nat) (l : List ByteArray), l.length ≤ n → Dom l → n + 70 ≤ k → agoraref08_Root.f k l = some (rootB l)
  | n, 0, l, _, _, h => by omega
  | n, k + 1, l, hn, hd, hk => by
    rw [agoraref08_Root.f]
    rcases Nat.lt_or_ge l.length 2 with h2 | h2
    · rcases Nat.eq_zero_or_pos l.length with h0 | h0
      · rw [if_pos (by omega), sha_ref _ (by decide), rootB_nil l h0]; rfl
      · rw [if_neg (by omega), if_pos (by omega), if_pos (by omega), rootB_one l (by omega)]; rfl
    · match n, hn, hk with
      | 0, hn, hk => omega
      | n + 1, hn, hk =>
      have p1 := spl_pos l.length
      have p2 := spl_lt l.length h2
      have hb := hd.1
      rw [if_neg (by omega), if_neg (by omega), rsplit_at k l.length (by omega) h2 (by omega), Option.bind_some, if_pos (by omega), if_pos (by omega), Int.toNat_natCast,
        root_ref n k (l.take (spl l.length)) (by rw [List.length_take]; omega) (hd.take _) (by omega), Option.bind_some, root_ref n k (l.drop (spl l.length)) (by rw [List.length_drop]; omega) (hd.drop _) (by omega), Option.bind_some,
        node_ref _ _ (root_size _ (hd.take _)) (root_size _ (hd.drop _)), Option.bind_some, rootB_more l h2]
theorem path_ref : ∀ (n k : Nat) (l : List ByteArray) (i : Nat), l.length ≤ n → Dom l → i < l.length → n + 300 ≤ k → agoraref08_Path.f k l (i : Int) = some (pathB l i)
  | n, 0, l, i, _, _, _, h => by omega
  | n, k + 1, l, i, hn, hd, hi, hk => by
    rw [agoraref08_Path.f]
    rcases Nat.lt_or_ge l.length 2 with h2 | h2
    · rw [if_pos (by omega), pathB_one l i h2]
    · match n, hn, hk with
      | 0, hn, hk => omega
      | n + 1, hn, hk =>
      have p1 := spl_pos l.length
      have p2 := spl_lt l.length h2
      have hb := hd.1
      have lt_ : (l.take (spl l.length)).length = spl l.length := by rw [List.length_take]; omega
      have ld_ : (l.drop (spl l.length)).length = l.length - spl l.length := List.length_drop
      have q1 := pathB_length _ (l.take (spl l.length)) i (Nat.le_refl _)
      have q2 := pathB_length _ (l.drop (spl l.length)) (i - spl l.length) (Nat.le_refl _)
      rw [if_neg (by omega), rsplit_at k l.length (by omega) h2 (by omega), Option.bind_some, pathB_more l i h2, Int.toNat_natCast]
      by_cases h3 : i < spl l.length
      · rw [if_pos (by omega), if_pos h3, if_pos (by omega), if_pos (by omega), path_ref n k _ i (by omega) (hd.take _) (by omega) (by omega), Option.bind_some, root_ref (l.drop (spl l.length)).length k _ (Nat.le_refl _) (hd.drop _) (by omega), Option.bind_some, if_pos (by omega)]
      · rw [if_neg (by omega), if_neg h3, if_pos (by omega), if_pos (by omega), show wrap64 ((i : Int) - (spl l.length : Int)) = ((i - spl l.length : Nat) : Int) by rw [wrap64]; omega, path_ref n k _ _ (by omega) (hd.drop _) (by omega) (by omega), Option.bind_some, root_ref (l.take (spl l.length)).length k _ (Nat.le_refl _) (hd.take _) (by omega), Option.bind_some, if_pos (by omega)]
theorem inner_ref : ∀ (n k : Nat) (l : List ByteArray) (m : Nat) (b : Bool), l.length ≤ n → Dom l → 1 ≤ m → m ≤ l.length → n + 300 ≤ k → agoraref08_inner.f k l (m : Int) b = some (linkB l m b)
  | n, 0, l, m, b, _, _, _, _, h => by omega
  | n, k + 1, l, m, b, hn, hd, h1, hm, hk => by
    have hb := hd.1
    rw [agoraref08_inner.f]
    by_cases he : m = l.length
    · rw [if_pos (by omega)]
      subst he
      rw [linkB_eq]
      cases b
      · rw [if_neg (by decide), if_neg (by decide), root_ref l.length k l (Nat.le_refl _) hd (by omega)]; rfl
      · rw [if_pos rfl, if_pos rfl]
    · match n, hn, hk with
      | 0, hn, hk => omega
      | n + 1, hn, hk =>
      have p1 := spl_pos l.length
      have p2 := spl_lt l.length (by omega)
      have lt_ : (l.take (spl l.length)).length = spl l.length := by rw [List.length_take]; omega
      have ld_ : (l.drop (spl l.length)).length = l.length - spl l.length := List.length_drop
      have q1 := linkB_length _ (l.take (spl l.length)) m b (Nat.le_refl _)
      have q2 := linkB_length _ (l.drop (spl l.length)) (m - spl l.length) false (Nat.le_refl _)
      rw [if_neg (by omega), rsplit_at k l.length (by omega) (by omega) (by omega), Option.bind_some, linkB_more l m b (by omega) he, Int.toNat_natCast]
      by_cases h3 : m ≤ spl l.length
      · rw [if_pos (by omega), if_pos h3, if_pos (by omega), if_pos (by omega), inner_ref n k _ m b (by omega) (hd.take _) h1 (by omega) (by omega), Option.bind_some, root_ref (l.drop (spl l.length)).length k _ (Nat.le_refl _) (hd.drop _) (by omega), Option.bind_some, if_pos (by omega)]
      · rw [if_neg (by omega), if_neg h3, if_pos (by omega), if_pos (by omega), show wrap64 ((m : Int) - (spl l.length : Int)) = ((m - spl l.length : Nat) : Int) by rw [wrap64]; omega, inner_ref n k _ _ false (by omega) (hd.drop _) (by omega) (by omega) (by omega), Option.bind_some, root_ref (l.take (spl l.length)).length k _ (Nat.le_refl _) (hd.take _) (by omega), Option.bind_some, if_pos (by omega)]
theorem link_ref (k : Nat) (l : List ByteArray) (m : Nat) (hd : Dom l) (hm : m ≤ l.length) (hk : 500 ≤ k) : agoraref08_Link.f k l (m : Int) = some (if m = 0 then [] else linkB l m true) := by
  have hb := hd.1
  rw [agoraref08_Link.f]
  by_cases h0 : m = 0
  · rw [if_pos (by omega), if_pos h0]
  · rw [if_neg (by omega), if_neg h0, inner_ref l.length k l m true (Nat.le_refl _) hd (by omega) hm (by omega), Option.bind_some]
theorem leaf_ref (s : ByteArray) (h : s.size ≤ 1000) : agoraref08_Leaf.f s = some (Sch.shaB ((⟨#[0]⟩ : ByteArray) ++ s)) := by
  rw [agoraref08_Leaf.f, if_pos (by omega), sha_ref _ (by rw [ByteArray.size_append, show (ByteArray.mk #[0]).size = 1 from rfl]; omega)]; rfl
theorem leaf_at (s : ByteArray) (h : s.size ≤ 1000) : merkle_Leaf.f s = some (Sch.shaB ((⟨#[0]⟩ : ByteArray) ++ s)) := by
  rw [merkle_Leaf.f, if_pos (by omega), sum_Sha.f, if_pos (by rw [ByteArray.size_append, show (ByteArray.mk #[0]).size = 1 from rfl]; omega)]; rfl
theorem ins_length (x : ByteArray) : ∀ (w : List Bool) (r : List ByteArray), (ins x w r).length ≤ w.length
  | [], _ => by simp [ins]
  | _ :: _, [] => by simp [ins]
  | b :: w, q :: r => by rw [ins]; have := ins_length x w r; split <;> simp only [List.length_append, List.length_cons, List.length_nil] <;> omega
theorem insR_length (x : ByteArray) : ∀ (w : List Bool) (r : List ByteArray), (insR x w r).length ≤ 2 * w.length
  | [], _ => by simp [insR]
  | _ :: _, [] => by simp [insR]
  | b :: w, q :: r => by rw [insR]; have := insR_length x w r; split <;> simp only [List.length_append, List.length_cons, List.length_nil] <;> omega
theorem rd_last (q : ByteArray) (r : List ByteArray) (h : r.length ≤ 100000) : wrap64 (((q :: r).reverse.length : Int) - 1) = ((r.length : Nat) : Int) ∧ rdOf ByteArray.empty (q :: r).reverse ((r.length : Nat) : Int) = q ∧ (q :: r).reverse.take r.length = r.reverse := by
  refine ⟨by rw [List.length_reverse, List.length_cons, wrap64]; omega, ?_, ?_⟩
  · rw [rd_nat, List.getD_eq_getElem?_getD, List.reverse_cons, List.getElem?_append_right (by simp)]; simp
  · rw [List.reverse_cons, List.take_left' (by simp)]
theorem climb_ref (x : ByteArray) (hx : x.size = 32) : ∀ (k i n : Nat) (rp : List ByteArray), 1 ≤ n → n < 9223372036854775808 → i < n → (∀ y ∈ rp, y.size = 32) → (way i n).length = rp.length → rp.length ≤ 1000 → rp.length + 70 ≤ k →
    agoraref08_Climb.f k x (i : Int) (n : Int) rp.reverse = some (up x (way i n) rp, ins x (way i n) rp, true)
  | 0, i, n, rp, _, _, _, _, _, _, h => by omega
  | k + 1, i, n, rp, h1, hn, hi, hp, hl, hb, hk => by
    rw [agoraref08_Climb.f]
    rcases Nat.lt_or_ge n 2 with h2 | h2
    · rw [way_one i n (by omega)] at hl ⊢
      obtain rfl := List.eq_nil_of_length_eq_zero hl.symm
      rw [if_pos (by omega)]; simp [up, ins]
    · have p1 := spl_pos n
      have p2 := spl_lt n h2
      have p3 : n ≤ 2 ^ 64 := by omega
      rw [way_more i n h2 p3] at hl ⊢
      match rp, hp, hl, hb, hk with
      | [], hp, hl, hb, hk => exfalso; split at hl <;> simp at hl
      | q :: r, hp, hl, hb, hk =>
        have hr : r.length ≤ 100000 := by simp only [List.length_cons] at hb; omega
        obtain ⟨e1, e2, e3⟩ := rd_last q r hr
        have hq : q.size = 32 := hp q (List.mem_cons_self ..)
        have hll : (q :: r).reverse.length = r.length + 1 := by simp
        rw [e1, e2, Int.toNat_natCast, e3, if_neg (by omega), if_neg (by omega), rsplit_at k n (by simp only [List.length_cons] at hk; omega) h2 hn, Option.bind_some, if_pos (by omega), if_pos (by omega), if_pos (by omega)]
        have hp' : ∀ y ∈ r, y.size = 32 := fun y hy => hp y (List.mem_cons_of_mem _ hy)
        by_cases h3 : i < spl n
        · rw [if_pos h3] at hl ⊢
          have hi1 := ins_length x (way i (spl n)) r
          have hu := up_size x hx (way i (spl n)) r
          simp only [List.length_cons] at hl hb hk
          rw [if_pos (by omega), climb_ref x hx k i (spl n) r (by omega) (by omega) h3 hp' (by omega) (by omega) (by omega), Option.bind_some, if_pos rfl]
          dsimp only
          rw [node_ref _ _ (by omega) (by omega), Option.bind_some, pre_ref _ _ (by omega) (by omega), Option.bind_some, if_pos (by omega), up, ins, if_pos rfl, if_pos rfl]
        · rw [if_neg h3] at hl ⊢
          have hi1 := ins_length x (way (i - spl n) (n - spl n)) r
          have hu := up_size x hx (way (i - spl n) (n - spl n)) r
          simp only [List.length_cons] at hl hb hk
          rw [if_neg (by omega), show wrap64 ((i : Int) - (spl n : Int)) = ((i - spl n : Nat) : Int) by rw [wrap64]; omega, show wrap64 ((n : Int) - (spl n : Int)) = ((n - spl n : Nat) : Int) by rw [wrap64]; omega,
            climb_ref x hx k (i - spl n) (n - spl n) r (by omega) (by omega) (by omega) hp' (by omega) (by omega) (by omega), Option.bind_some, if_pos rfl]
          dsimp only
          rw [node_ref _ _ (by omega) (by omega), Option.bind_some, pre_ref _ _ (by omega) (by omega), Option.bind_some, if_pos (by omega), up, ins, if_neg (by decide), if_neg (by decide)]
theorem inputs_ref : ∀ (n k : Nat) (l : List ByteArray), l.length ≤ n → Dom l → n + 300 ≤ k → agoraref08_Inputs.f k l = some (inputsB l)
  | n, 0, l, _, _, h => by omega
  | n, k + 1, l, hn, hd, hk => by
    rw [agoraref08_Inputs.f]
    rcases Nat.lt_or_ge l.length 2 with h2 | h2
    · rw [if_pos (by omega), inputsB_one l h2]
    · match n, hn, hk with
      | 0, hn, hk => omega
      | n + 1, hn, hk =>
      have p1 := spl_pos l.length
      have p2 := spl_lt l.length h2
      have hb := hd.1
      have lt_ : (l.take (spl l.length)).length = spl l.length := by rw [List.length_take]; omega
      have ld_ : (l.drop (spl l.length)).length = l.length - spl l.length := List.length_drop
      have q1 := inputsB_length _ (l.take (spl l.length)) (Nat.le_refl _) (by omega)
      have q2 := inputsB_length _ (l.drop (spl l.length)) (Nat.le_refl _) (by omega)
      have r1 := root_size _ (hd.take (spl l.length))
      have r2 := root_size _ (hd.drop (spl l.length))
      rw [if_neg (by omega), rsplit_at k l.length (by omega) h2 (by omega), Option.bind_some, if_pos (by omega), if_pos (by omega), Int.toNat_natCast, inputs_ref n k _ (by omega) (hd.take _) (by omega), Option.bind_some, inputs_ref n k _ (by omega) (hd.drop _) (by omega), Option.bind_some, if_pos (by omega), Option.bind_some,
        root_ref (l.take (spl l.length)).length k _ (Nat.le_refl _) (hd.take _) (by omega), Option.bind_some, root_ref (l.drop (spl l.length)).length k _ (Nat.le_refl _) (hd.drop _) (by omega), Option.bind_some, pre_ref _ _ r1 r2, Option.bind_some, if_pos (by rw [List.length_append]; omega), inputsB_more l h2]
theorem roots_ref (old : ByteArray) : ∀ (k m n : Nat) (mk : Bool) (s : ByteArray) (rl : List ByteArray), 1 ≤ m → m ≤ n → n ≤ 1000 → s.size = 32 → (∀ y ∈ rl, y.size = 32) → rl.length = (wayL m n).1.length → ((mk && (wayL m n).2) = true → s = old) → 2 * n + 100 ≤ k →
    agoraref08_Roots.f k (m : Int) (n : Int) old (if (mk && (wayL m n).2) = true then rl.reverse else s :: rl.reverse) mk = some (upA s (wayL m n).1 rl, up s (wayL m n).1 rl, insR s (wayL m n).1 rl, true)
  | k, m, n, mk, s, rl, h1, hm, hn, hs, hp, hl, hso, hk => by
    obtain ⟨k, rfl⟩ : ∃ k', k = k' + 2 := ⟨k - 2, by omega⟩
    rw [agoraref08_Roots.f]
    rcases Nat.eq_or_lt_of_le hm with he | hlt
    · subst he
      rw [wayL_eq m m (Nat.le_refl _)] at hl hso ⊢
      obtain rfl := List.eq_nil_of_length_eq_zero hl
      have e1 : upA s [] [] = s := by simp [upA]
      have e2 : up s [] [] = s := by simp [up]
      have e3 : insR s [] [] = [] := by simp [insR]
      rw [if_pos rfl]
      cases mk
      · show agoraref08_Roots.j0 (k + 1) (m : Int) (m : Int) old [s] false false = some (upA s [] [], up s [] [], insR s [] [], true)
        rw [e1, e2, e3]
        simp [agoraref08_Roots.j0, wrap64, rdOf]
      · show agoraref08_Roots.j0 (k + 1) (m : Int) (m : Int) old [] true true = some (upA s [] [], up s [] [], insR s [] [], true)
        rw [e1, e2, e3, hso rfl]
        simp [agoraref08_Roots.j0]
    · have p1 := spl_pos n
      have p2 := spl_lt n (by omega)
      rw [if_neg (by omega), agoraref08_Roots.j0, if_neg (by decide)]
      rw [wayL_more m n h1 hlt] at hl hso ⊢
      by_cases h3 : m ≤ spl n
      · rw [if_pos h3] at hl hso ⊢
        match rl, hp, hl with
        | q :: r, hp, hl =>
        simp only [List.length_cons, Nat.add_right_cancel_iff] at hl
        have hq : q.size = 32 := hp q (List.mem_cons_self ..)
        have hw := wayL_length _ m (spl n) h1 (Nat.le_refl _)
        have ih := roots_ref old k m (spl n) mk s r h1 h3 (by omega) hs (fun y hy => hp y (List.mem_cons_of_mem _ hy)) hl hso (by omega)
        have hu := up_size s hs (wayL m (spl n)).1 r
        have hi1 := insR_length s (wayL m (spl n)).1 r
        have hL : (if (mk && (wayL m (spl n)).2) = true then (q :: r).reverse else s :: (q :: r).reverse) = (if (mk && (wayL m (spl n)).2) = true then r.reverse else s :: r.reverse) ++ [q] := by split <;> simp
        show (if ((if (mk && (wayL m (spl n)).2) = true then (q :: r).reverse else s :: (q :: r).reverse).length : Int) = 0 then _ else _) = _
        rw [hL]
        generalize (if (mk && (wayL m (spl n)).2) = true then r.reverse else s :: r.reverse) = L at ih hL ⊢
        have hLl : L.length ≤ 1100 := by
          have e := congrArg List.length hL
          rw [List.length_append] at e
          split at e <;> simp only [List.length_cons, List.length_reverse, List.length_nil] at e <;> omega
        have e1 : wrap64 (((L ++ [q]).length : Int) - 1) = ((L.length : Nat) : Int) := by rw [List.length_append, List.length_singleton, wrap64]; omega
        have hll : (L ++ [q]).length = L.length + 1 := by simp
        rw [e1, rd_nat, Int.toNat_natCast, List.take_left' rfl, List.getD_eq_getElem?_getD, List.getElem?_append_right (Nat.le_refl _), Nat.sub_self]
        rw [if_neg (by omega), if_pos (by omega), if_pos (by omega), if_pos (by omega), if_neg (by omega), rsplit_at k n (by omega) (by omega) (by omega), Option.bind_some, if_pos (by omega), ih, Option.bind_some, if_pos rfl]
        simp only [List.getElem?_cons_zero, Option.getD_some]
        rw [node_ref _ _ (by omega) (by omega), Option.bind_some, pre_ref _ _ (by omega) (by omega), Option.bind_some, if_pos (by omega), upA, up, insR, if_pos rfl, if_pos rfl, if_pos rfl]
      · rw [if_neg h3] at hl hso ⊢
        match rl, hp, hl with
        | q :: r, hp, hl =>
        simp only [List.length_cons, Nat.add_right_cancel_iff] at hl
        have hq : q.size = 32 := hp q (List.mem_cons_self ..)
        have hw := wayL_length _ (m - spl n) (n - spl n) (by omega) (Nat.le_refl _)
        have ih := roots_ref old k (m - spl n) (n - spl n) false s r (by omega) (by omega) (by omega) hs (fun y hy => hp y (List.mem_cons_of_mem _ hy)) hl (fun h => by simp at h) (by omega)
        have hu := up_size s hs (wayL (m - spl n) (n - spl n)).1 r
        have hA := upA_size s hs (wayL (m - spl n) (n - spl n)).1 r
        have hi1 := insR_length s (wayL (m - spl n) (n - spl n)).1 r
        rw [Bool.false_and, if_neg (by decide)] at ih
        show (if ((if (mk && false) = true then (q :: r).reverse else s :: (q :: r).reverse).length : Int) = 0 then _ else _) = _
        have hL : (if (mk && false) = true then (q :: r).reverse else s :: (q :: r).reverse) = (s :: r.reverse) ++ [q] := by rw [Bool.and_false, if_neg (by decide)]; simp
        rw [hL]
        have hLl : (s :: r.reverse).length ≤ 1100 := by simp only [List.length_cons, List.length_reverse]; omega
        generalize s :: r.reverse = L at ih hL hLl ⊢
        have e1 : wrap64 (((L ++ [q]).length : Int) - 1) = ((L.length : Nat) : Int) := by rw [List.length_append, List.length_singleton, wrap64]; omega
        have hll : (L ++ [q]).length = L.length + 1 := by simp
        rw [e1, rd_nat, Int.toNat_natCast, List.take_left' rfl, List.getD_eq_getElem?_getD, List.getElem?_append_right (Nat.le_refl _), Nat.sub_self]
        rw [if_neg (by omega), if_pos (by omega), if_pos (by omega), if_pos (by omega), if_neg (by omega), rsplit_at k n (by omega) (by omega) (by omega), Option.bind_some, if_neg (by omega), show wrap64 ((m : Int) - (spl n : Int)) = ((m - spl n : Nat) : Int) by rw [wrap64]; omega, show wrap64 ((n : Int) - (spl n : Int)) = ((n - spl n : Nat) : Int) by rw [wrap64]; omega, ih, Option.bind_some, if_pos rfl]
        simp only [List.getElem?_cons_zero, Option.getD_some]
        rw [node_ref _ _ (by omega) (by omega), Option.bind_some, node_ref _ _ (by omega) (by omega), Option.bind_some, pre_ref _ _ (by omega) (by omega), Option.bind_some, pre_ref _ _ (by omega) (by omega), Option.bind_some, Option.bind_some, if_pos (by simp only [List.length_cons, List.length_nil]; omega), upA, up, insR, if_neg (by decide), if_neg (by decide), if_neg (by decide)]
termination_by k => k
/-- Clash, from a pair of numbers on -/
theorem clash_l0 (L : List ByteArray) (hb : L.length ≤ 100000) (hz : ∀ x ∈ L, x.size ≤ 1000000) (a b : Nat) (hab : b < a) (ha : a < L.length) (hne : L.getD a ByteArray.empty ≠ L.getD b ByteArray.empty) (hs : Sch.shaB (L.getD a ByteArray.empty) = Sch.shaB (L.getD b ByteArray.empty)) :
    ∀ (k : Nat), (∀ (i : Nat), i ≤ a → (L.length + 2) * (L.length - i) + 1 ≤ k → agoraref08_Clash.l0 k L ((L.take i).map Sch.shaB) (i : Int) = some true) ∧
      (∀ (i j : Nat), i ≤ a → j ≤ i → (i = a → j ≤ b) → (L.length + 2) * (L.length - i - 1) + 1 + (i - j) + 1 ≤ k → agoraref08_Clash.l1 k L ((L.take (i + 1)).map Sch.shaB) (i : Int) (j : Int) = some true)
  | 0 => ⟨fun i _ h => by omega, fun i j _ _ _ h => by omega⟩
  | k + 1 => by
    obtain ⟨ih0, ih1⟩ := clash_l0 L hb hz a b hab ha hne hs k
    have gz : ∀ i, i < L.length → (L.getD i ByteArray.empty).size ≤ 1099511627776 := fun i h => by have := hz _ (getD_mem L i h); omega
    refine ⟨fun i hi hk => ?_, fun i j hi hj hc hk => ?_⟩
    · have e : (L.take (i + 1)).map Sch.shaB = (L.take i).map Sch.shaB ++ [Sch.shaB (L.getD i ByteArray.empty)] := by
        rw [List.take_add_one, List.getElem?_eq_getElem (show i < L.length by omega), List.getD_eq_getElem?_getD, List.getElem?_eq_getElem (show i < L.length by omega), List.map_append]; rfl
      have hk' : (L.length + 2) * (L.length - i - 1) + 1 + (i - 0) + 1 ≤ k := by
        have : (L.length + 2) * (L.length - i) = (L.length + 2) * (L.length - i - 1) + (L.length + 2) := by
          conv => lhs; rw [show L.length - i = (L.length - i - 1) + 1 by omega, Nat.mul_add, Nat.mul_one]
        omega
      rw [agoraref08_Clash.l0, if_pos (by omega), if_pos (by omega), rd_nat, sha_ref _ (gz i (by omega)), Option.bind_some, if_pos (by rw [List.length_map, List.length_take]; omega), ← e]
      exact ih1 i 0 hi (Nat.zero_le _) (fun _ => Nat.zero_le _) hk'
    · have hln : ((L.take (i + 1)).map Sch.shaB).length = i + 1 := by rw [List.length_map, List.length_take]; omega
      have hrd : ∀ t, t ≤ i → rdOf ByteArray.empty ((L.take (i + 1)).map Sch.shaB) (t : Int) = Sch.shaB (L.getD t ByteArray.empty) := fun t ht => by
        rw [rd_nat, List.getD_eq_getElem?_getD, List.getElem?_map, List.getElem?_take_of_lt (by omega), List.getElem?_eq_getElem (show t < L.length by omega), List.getD_eq_getElem?_getD, List.getElem?_eq_getElem (show t < L.length by omega)]; rfl
      rw [agoraref08_Clash.l1]
      by_cases hji : j < i
      · rw [if_pos (by omega), if_pos (by omega), if_pos (by omega), if_pos (by omega), if_pos (by omega), hln, hrd i (Nat.le_refl _), hrd j hj, rd_nat, rd_nat, show (j : Int) + 1 = ((j + 1 : Nat) : Int) by omega, wrap_nat _ (by omega)]
        by_cases e : (L.getD i ByteArray.empty).toList = (L.getD j ByteArray.empty).toList
        · rw [if_pos e]
          refine ih1 i (j + 1) hi hji (fun hia => ?_) (by omega)
          subst hia
          have := hc rfl
          rcases Nat.eq_or_lt_of_le this with h | h
          · subst h; exact absurd (bytes_inj e) hne
          · exact h
        · rw [if_neg e, if_pos (by omega), if_pos (by omega)]
          by_cases e2 : (Sch.shaB (L.getD i ByteArray.empty)).toList = (Sch.shaB (L.getD j ByteArray.empty)).toList
          · rw [if_pos e2]
          · rw [if_neg e2]
            refine ih1 i (j + 1) hi hji (fun hia => ?_) (by omega)
            subst hia
            have := hc rfl
            rcases Nat.eq_or_lt_of_le this with h | h
            · subst h; exact absurd (congrArg ByteArray.toList hs) e2
            · exact h
      · rw [if_neg (by omega), show (i : Int) + 1 = ((i + 1 : Nat) : Int) by omega, wrap_nat _ (by omega)]
        have hia : i ≠ a := fun h => by have := hc h; omega
        refine ih0 (i + 1) (by omega) ?_
        rw [show L.length - (i + 1) = L.length - i - 1 by omega]
        omega
theorem clash_at (L : List ByteArray) (hb : L.length ≤ 1000) (hz : ∀ x ∈ L, x.size ≤ 1000000) (h : HasClash L) (k : Nat) (hk : 1100000 ≤ k) : agoraref08_Clash.f k L = some true := by
  obtain ⟨x, hx, y, hy, hne, hs⟩ := h
  obtain ⟨a, ha, rfl⟩ := List.mem_iff_getElem.1 hx
  obtain ⟨b, hbl, rfl⟩ := List.mem_iff_getElem.1 hy
  have ga : ∀ t (ht : t < L.length), L.getD t ByteArray.empty = L[t] := fun t ht => by rw [List.getD_eq_getElem?_getD, List.getElem?_eq_getElem ht]; rfl
  have hkk : (L.length + 2) * (L.length - 0) + 1 ≤ k := by
    have : (L.length + 2) * (L.length - 0) ≤ 1002 * 1000 := Nat.mul_le_mul (by omega) (by omega)
    omega
  rw [agoraref08_Clash.f]
  rcases Nat.lt_trichotomy a b with h | h | h
  · exact (clash_l0 L (by omega) hz b a h hbl (by rw [ga _ ha, ga _ hbl]; exact fun e => hne e.symm) (by rw [ga _ ha, ga _ hbl]; exact hs.symm) k).1 0 (Nat.zero_le _) hkk
  · subst h; exact absurd rfl hne
  · exact (clash_l0 L (by omega) hz a b h ha (by rw [ga _ ha, ga _ hbl]; exact hne) (by rw [ga _ ha, ga _ hbl]; exact hs) k).1 0 (Nat.zero_le _) hkk
end Go.Proofs.Ytkhkppehdgkboaa.Mk
end MkR_
section MkL_
namespace Go.Proofs.Ytkhkppehdgkboaa.Mk
open Go.RowKit Go.Proofs.Ytkhkppehdgkboaa.P Go.Proofs.YtkhkppehdgkboaaW.PrintWords Go.Proofs.YtkhkppehdgkboaaW.PrintLast Go.Proofs.YtkhkppehdgkboaaW.PrintMore
set_option linter.unusedVariables false
theorem bd64 {n : Int} (h : (Lit.int .i64 n).wf = true) : -9223372036854775808 ≤ n ∧ n ≤ 9223372036854775807 := by
  simp only [Lit.wf, IntKind.min, IntKind.max, IntKind.signed, IntKind.bits, Bool.and_eq_true, decide_eq_true_eq, if_true] at h
  omega
def leafB (s : ByteArray) : ByteArray := Sch.shaB ((⟨#[0]⟩ : ByteArray) ++ s)
def ok200 (l : List ByteArray) : Bool := l.all fun x => decide (x.size ≤ 200)
theorem ok200_cons (x : ByteArray) (l : List ByteArray) : ok200 (x :: l) = (decide (x.size ≤ 200) && ok200 l) := rfl
theorem ok200_mem {l : List ByteArray} (h : ok200 l = true) : ∀ x ∈ l, x.size ≤ 200 := fun x hx => of_decide_eq_true (List.all_eq_true.1 h x hx)
theorem short_l0 (l : List ByteArray) (hb : l.length ≤ 100) : ∀ (m k i : Nat), i + m = l.length → m < k → agoralaw08_short.l0 k l (i : Int) = some (ok200 (l.drop i))
  | m, 0, i, _, h => by omega
  | 0, k + 1, i, h, _ => by rw [agoralaw08_short.l0, if_neg (by omega), List.drop_eq_nil_of_le (by omega)]; rfl
  | m + 1, k + 1, i, h, hk => by
    rw [agoralaw08_short.l0, if_pos (by omega), if_pos (by omega), rd_nat, drop_getD l i (by omega), ok200_cons, show (i : Int) + 1 = ((i + 1 : Nat) : Int) by omega, wrap_nat _ (by omega)]
    by_cases hx : (l.getD i ByteArray.empty).size ≤ 200
    · rw [if_neg (by omega), short_l0 l hb m k (i + 1) (by omega) (by omega), decide_eq_true hx, Bool.true_and]
    · rw [if_pos (by omega), decide_eq_false hx, Bool.false_and]
theorem short_at (k : Nat) (l : List ByteArray) (hk : 200 ≤ k) : agoralaw08_short.f k l = some (decide (l.length ≤ 100) && ok200 l) := by
  rw [agoralaw08_short.f]
  by_cases h : l.length ≤ 100
  · rw [if_neg (by omega), show (0 : Int) = ((0 : Nat) : Int) from rfl, short_l0 l h l.length k 0 (by omega) (by omega), decide_eq_true h, List.drop_zero, Bool.true_and]
  · rw [if_pos (by omega), decide_eq_false h, Bool.false_and]
theorem leaves_l0 (l : List ByteArray) (hb : l.length ≤ 40) : ∀ (m k i : Nat), i + m = l.length → m < k → agoralaw08_leaves.l0 k l ((l.take i).map leafB) (i : Int) = some (if ok200 (l.drop i) = true then (l.map leafB, true) else ([], false))
  | m, 0, i, _, h => by omega
  | 0, k + 1, i, h, _ => by rw [agoralaw08_leaves.l0, if_neg (by omega), List.drop_eq_nil_of_le (by omega), List.take_of_length_le (by omega), if_pos (show ok200 [] = true from rfl)]
  | m + 1, k + 1, i, h, hk => by
    rw [agoralaw08_leaves.l0, if_pos (by omega), if_pos (by omega), rd_nat, drop_getD l i (by omega), ok200_cons, show (i : Int) + 1 = ((i + 1 : Nat) : Int) by omega, wrap_nat _ (by omega)]
    by_cases hx : (l.getD i ByteArray.empty).size ≤ 200
    · have e : (l.take i).map leafB ++ [leafB (l.getD i ByteArray.empty)] = (l.take (i + 1)).map leafB := by
        rw [List.take_add_one, List.getElem?_eq_getElem (show i < l.length by omega), List.getD_eq_getElem?_getD, List.getElem?_eq_getElem (show i < l.length by omega), List.map_append]; rfl
      rw [if_neg (by omega), leaf_at _ (by omega), Option.bind_some, if_pos (by rw [List.length_map, List.length_take]; omega), show Sch.shaB ((⟨#[0]⟩ : ByteArray) ++ l.getD i ByteArray.empty) = leafB (l.getD i ByteArray.empty) from rfl, e, leaves_l0 l hb m k (i + 1) (by omega) (by omega), decide_eq_true hx, Bool.true_and]
    · rw [if_pos (by omega), decide_eq_false hx, Bool.false_and, if_neg (by decide)]
theorem leaves_at (k : Nat) (l : List ByteArray) (hk : 200 ≤ k) : agoralaw08_leaves.f k l = some (if (decide (l.length ≤ 40) && ok200 l) = true then (l.map leafB, true) else ([], false)) := by
  rw [agoralaw08_leaves.f]
  by_cases h : l.length ≤ 40
  · rw [if_neg (by omega), show (0 : Int) = ((0 : Nat) : Int) from rfl, decide_eq_true h, Bool.true_and]
    exact leaves_l0 l h l.length k 0 (by omega) (by omega)
  · rw [if_pos (by omega), decide_eq_false h, Bool.false_and, if_neg (by decide)]
/-- the leaves' list is small, and of digests -/
theorem leaf32 (l : List ByteArray) : ∀ y ∈ l.map leafB, y.size = 32 := by
  intro y hy
  obtain ⟨x, _, rfl⟩ := List.mem_map.1 hy
  exact shaB_size _
theorem dom32 {l : List ByteArray} (hl : l.length ≤ 100) (h : ∀ y ∈ l, y.size = 32) : Dom l := ⟨by omega, fun x hx => by rw [h x hx]; omega⟩
theorem dom200 {l : List ByteArray} (hl : l.length ≤ 100) (h : ∀ y ∈ l, y.size ≤ 200) : Dom l := ⟨by omega, fun x hx => by have := h x hx; omega⟩
theorem dom_cond {l : List ByteArray} (h : Dom l) : l.length < 129 ∧ (l.all fun x => decide (x.size ≤ 1000000000)) = true := ⟨h.1, List.all_eq_true.2 fun x hx => decide_eq_true (h.2 x hx)⟩
theorem root_at {l : List ByteArray} (h : Dom l) : merkle_Root.f l = some (rootB l) := by rw [merkle_Root.f, if_pos (dom_cond h)]
theorem path_at {l : List ByteArray} (h : Dom l) (i : Int) : merkle_Path.f l i = some (if 0 ≤ i ∧ i < (l.length : Int) then (pathB l i.toNat, true) else ([], false)) := by
  rw [merkle_Path.f, if_pos (dom_cond h)]; split <;> rfl
theorem link_at {l : List ByteArray} (h : Dom l) (i : Int) : merkle_Link.f l i = some (if i = 0 then ([], true) else if 0 ≤ i ∧ i ≤ (l.length : Int) then (linkB l i.toNat true, true) else ([], false)) := by
  rw [merkle_Link.f, if_pos (dom_cond h)]; split; rfl; split <;> rfl
theorem path32 : ∀ (n : Nat) (l : List ByteArray) (i : Nat), l.length ≤ n → (∀ y ∈ l, y.size = 32) → ∀ y ∈ pathB l i, y.size = 32
  | n, l, i, hn, hl => by
    rcases Nat.lt_or_ge l.length 2 with h2 | h2
    · rw [pathB_one l i h2]; simp
    match n, hn with
    | 0, hn => omega
    | n + 1, hn =>
      have p1 := spl_pos l.length
      have p2 := spl_lt l.length h2
      have ht : ∀ y ∈ l.take (spl l.length), y.size = 32 := fun y hy => hl y (List.mem_of_mem_take hy)
      have hd : ∀ y ∈ l.drop (spl l.length), y.size = 32 := fun y hy => hl y (List.mem_of_mem_drop hy)
      have a := path32 n (l.take (spl l.length)) i (by rw [List.length_take]; omega) ht
      have b := path32 n (l.drop (spl l.length)) (i - spl l.length) (by rw [List.length_drop]; omega) hd
      have r1 := root_size32 _ ht
      have r2 := root_size32 _ hd
      rw [pathB_more l i h2]
      intro y hy
      split at hy
      · rcases List.mem_append.1 hy with hy | hy
        · exact a y hy
        · rw [List.mem_singleton.1 hy]; exact r2
      · rcases List.mem_append.1 hy with hy | hy
        · exact b y hy
        · rw [List.mem_singleton.1 hy]; exact r1
theorem link32 : ∀ (n : Nat) (l : List ByteArray) (m : Nat) (b : Bool), l.length ≤ n → (∀ y ∈ l, y.size = 32) → ∀ y ∈ linkB l m b, y.size = 32
  | n, l, m, b, hn, hl => by
    by_cases hm : m = l.length
    · subst hm
      rw [linkB_eq]
      intro y hy
      split at hy
      · simp at hy
      · rw [List.mem_singleton.1 hy]; exact root_size32 l hl
    rcases Nat.lt_or_ge l.length 2 with h2 | h2
    · rw [linkB, linkF, if_neg hm, if_pos h2]; simp
    match n, hn with
    | 0, hn => omega
    | n + 1, hn =>
      have p1 := spl_pos l.length
      have p2 := spl_lt l.length h2
      have ht : ∀ y ∈ l.take (spl l.length), y.size = 32 := fun y hy => hl y (List.mem_of_mem_take hy)
      have hd : ∀ y ∈ l.drop (spl l.length), y.size = 32 := fun y hy => hl y (List.mem_of_mem_drop hy)
      have a := link32 n (l.take (spl l.length)) m b (by rw [List.length_take]; omega) ht
      have c := link32 n (l.drop (spl l.length)) (m - spl l.length) false (by rw [List.length_drop]; omega) hd
      have r1 := root_size32 _ ht
      have r2 := root_size32 _ hd
      rw [linkB_more l m b h2 hm]
      intro y hy
      split at hy
      · rcases List.mem_append.1 hy with hy | hy
        · exact a y hy
        · rw [List.mem_singleton.1 hy]; exact r2
      · rcases List.mem_append.1 hy with hy | hy
        · exact c y hy
        · rw [List.mem_singleton.1 hy]; exact r1
theorem pre65 {a b : ByteArray} (ha : a.size = 32) (hb : b.size = 32) : (preB a b).size ≤ 1000000 := by rw [pre_size]; omega
theorem inputs65 : ∀ (n : Nat) (l : List ByteArray), l.length ≤ n → (∀ y ∈ l, y.size = 32) → ∀ y ∈ inputsB l, y.size ≤ 1000000
  | n, l, hn, hl => by
    rcases Nat.lt_or_ge l.length 2 with h2 | h2
    · rw [inputsB_one l h2]; simp
    match n, hn with
    | 0, hn => omega
    | n + 1, hn =>
      have p1 := spl_pos l.length
      have p2 := spl_lt l.length h2
      have ht : ∀ y ∈ l.take (spl l.length), y.size = 32 := fun y hy => hl y (List.mem_of_mem_take hy)
      have hd : ∀ y ∈ l.drop (spl l.length), y.size = 32 := fun y hy => hl y (List.mem_of_mem_drop hy)
      have a := inputs65 n (l.take (spl l.length)) (by rw [List.length_take]; omega) ht
      have c := inputs65 n (l.drop (spl l.length)) (by rw [List.length_drop]; omega) hd
      rw [inputsB_more l h2]
      intro y hy
      rcases List.mem_append.1 hy with hy | hy
      · rcases List.mem_append.1 hy with hy | hy
        · exact a y hy
        · exact c y hy
      · rw [List.mem_singleton.1 hy]; exact pre65 (root_size32 _ ht) (root_size32 _ hd)
theorem ins65 (x : ByteArray) (hx : x.size = 32) : ∀ (w : List Bool) (r : List ByteArray), (∀ y ∈ r, y.size = 32) → ∀ y ∈ ins x w r, y.size ≤ 1000000
  | [], _, _ => by simp [ins]
  | _ :: _, [], _ => by simp [ins]
  | b :: w, q :: r, h => by
    have ih := ins65 x hx w r (fun y hy => h y (List.mem_cons_of_mem _ hy))
    have hq := h q (List.mem_cons_self ..)
    have hu := up_size x hx w r
    intro y hy
    rw [ins] at hy
    split at hy
    · rcases List.mem_append.1 hy with hy | hy
      · exact ih y hy
      · rw [List.mem_singleton.1 hy]; exact pre65 hu hq
    · rcases List.mem_append.1 hy with hy | hy
      · exact ih y hy
      · rw [List.mem_singleton.1 hy]; exact pre65 hq hu
theorem insR65 (x : ByteArray) (hx : x.size = 32) : ∀ (w : List Bool) (r : List ByteArray), (∀ y ∈ r, y.size = 32) → ∀ y ∈ insR x w r, y.size ≤ 1000000
  | [], _, _ => by simp [insR]
  | _ :: _, [], _ => by simp [insR]
  | b :: w, q :: r, h => by
    have ih := insR65 x hx w r (fun y hy => h y (List.mem_cons_of_mem _ hy))
    have hq := h q (List.mem_cons_self ..)
    have hu := up_size x hx w r
    have hA := upA_size x hx w r
    intro y hy
    rw [insR] at hy
    split at hy
    · rcases List.mem_append.1 hy with hy | hy
      · exact ih y hy
      · rw [List.mem_singleton.1 hy]; exact pre65 hu hq
    · rcases List.mem_append.1 hy with hy | hy
      · exact ih y hy
      · rcases List.mem_cons.1 hy with hy | hy
        · rw [hy]; exact pre65 hq hA
        · rw [List.mem_singleton.1 hy]; exact pre65 hq hu
/-- the parts of 'accepted' -/
theorem incB_parts {x : ByteArray} {i n : Int} {root : ByteArray} {p : List ByteArray} (h : incB x i n root p = true) :
    0 ≤ i ∧ i < n ∧ x.size = 32 ∧ (∀ y ∈ p, y.size = 32) ∧ (way i.toNat n.toNat).length = p.length ∧ up x (way i.toNat n.toNat) p.reverse = root := by
  simp only [incB, Bool.and_eq_true, decide_eq_true_eq, beq_iff_eq] at h
  obtain ⟨⟨⟨⟨⟨h1, h2⟩, h3⟩, h4⟩, h5⟩, h6⟩ := h
  exact ⟨h1, h2, h3, all32_mem h4, h5, bytes_inj h6⟩
theorem extT_parts {old now : ByteArray} {l : List ByteArray} {w : List Bool} {s : ByteArray} (h : extT old now l w s = true) : w.length = l.length ∧ upA s w l.reverse = old ∧ up s w l.reverse = now := by
  simp only [extT, Bool.and_eq_true, beq_iff_eq] at h
  obtain ⟨⟨h1, h2⟩, h3⟩ := h
  exact ⟨h1, bytes_inj h2, bytes_inj h3⟩
theorem extB_parts {m n : Nat} {old now : ByteArray} {l : List ByteArray} (h0 : m ≠ 0) (h : extB m n old now l = true) : m ≤ n ∧ old.size = 32 ∧ now.size = 32 ∧ (∀ y ∈ l, y.size = 32) ∧
    ∃ (s : ByteArray) (r : List ByteArray), l = (if (wayL m n).2 = true then r else s :: r) ∧ ((wayL m n).2 = true → s = old) ∧ (wayL m n).1.length = r.length ∧ upA s (wayL m n).1 r.reverse = old ∧ up s (wayL m n).1 r.reverse = now := by
  rw [extB, if_neg h0] at h
  simp only [Bool.and_eq_true, decide_eq_true_eq, beq_iff_eq] at h
  obtain ⟨⟨⟨⟨h1, h2⟩, h3⟩, h4⟩, h5⟩ := h
  refine ⟨h1, h2, h3, all32_mem h4, ?_⟩
  generalize (wayL m n).1 = w at h5 ⊢
  cases h6 : (wayL m n).2
  · rw [h6] at h5
    match l, h5 with
    | [], h5 => rw [extW_nil] at h5; cases h5
    | q :: r, h5 =>
      rw [extW_cons] at h5
      obtain ⟨a, b, c⟩ := extT_parts h5
      exact ⟨q, r, by rw [if_neg (by decide)], (fun h => by cases h), a, b, c⟩
  · rw [h6, extW_true] at h5
    obtain ⟨a, b, c⟩ := extT_parts h5
    exact ⟨old, l, by rw [if_pos rfl], fun _ => rfl, a, b, c⟩
end Go.Proofs.Ytkhkppehdgkboaa.Mk
end MkL_
