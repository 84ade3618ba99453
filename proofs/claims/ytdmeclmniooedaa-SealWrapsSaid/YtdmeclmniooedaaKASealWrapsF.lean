/- Texts of this claim, merged: what the functions that the law reaches compute, and what that says. -/
import Derived.Test.YtdmeclmniooedaaKA4
import Derived.Test.YtdmeclmniooedaaKA8
import Derived.Test.YtdmeclmniooedaaKA9
import Derived.Test.YtdmeclmniooedaaKA16
import Derived.Test.YtdmeclmniooedaaKA19
import Derived.Test.YtdmeclmniooedaaKA20
section P21_SealWraps_
namespace Go.Proofs.Ytdmeclmniooedaa.P
open Go.RowKit Go.Proofs.YtdmeclmniooedaaW.PrintWords Go.Proofs.YtdmeclmniooedaaW.PrintLast Go.Proofs.YtdmeclmniooedaaW.PrintMore
attribute [local go_sem] max2_int min2_int max_two min_two max_three min_three max_four min_four   -- for this text's walks alone
set_option linter.unusedVariables false
set_option linter.unusedSimpArgs false
private theorem field23_0_ (c0 c1 c2 : Value) (w : World) : (Instr.field 23 (.agg #[c0, c1, c2]) 0).run Try.prog w = .ok c0 w := by kernel_rfl
private theorem field23_1_ (c0 c1 c2 : Value) (w : World) : (Instr.field 23 (.agg #[c0, c1, c2]) 1).run Try.prog w = .ok c1 w := by kernel_rfl
private theorem field23_2_ (c0 c1 c2 : Value) (w : World) : (Instr.field 23 (.agg #[c0, c1, c2]) 2).run Try.prog w = .ok c2 w := by kernel_rfl
private theorem field25_0_ (c0 c1 c2 c3 c4 : Value) (w : World) : (Instr.field 25 (.agg #[c0, c1, c2, c3, c4]) 0).run Try.prog w = .ok c0 w := by kernel_rfl
private theorem field25_1_ (c0 c1 c2 c3 c4 : Value) (w : World) : (Instr.field 25 (.agg #[c0, c1, c2, c3, c4]) 1).run Try.prog w = .ok c1 w := by kernel_rfl
private theorem field25_2_ (c0 c1 c2 c3 c4 : Value) (w : World) : (Instr.field 25 (.agg #[c0, c1, c2, c3, c4]) 2).run Try.prog w = .ok (.agg #[c2, c3, c4]) w := by kernel_rfl
attribute [local go_sem] field23_0_ field23_1_ field23_2_ field25_0_ field25_1_ field25_2_
mutual
def agoralaw06_SealWraps.j0 : Nat → Int → ByteArray → ByteArray → Bool → Bool → Option (Bool)
  | 0, _, _, _, _, _ => none
  | k + 1, x0, x1, x2, x7, x32 => if x32 = true then (some x7) else ((group_Exp.f k 37 x0).bind fun t414 => ((seal_Wrap.f k t414 x1 x2).bind fun bt415 => ((seal_Unwrap.f k x0 bt415.1 bt415.2.1 bt415.2.2.1 bt415.2.2.2.1 bt415.2.2.2.2.1).bind fun bt422 => (if bt415.2.2.2.2.2 = true then (if bt422.2 = true then (if bt422.1.toList = x2.toList then (if bt415.1 = t414 then (if bt415.2.1 < 1 then (agoralaw06_SealWraps.j1 k x0 x1 x2 x7 t414 true bt415.1 bt415.2.1 bt415.2.2.1 bt415.2.2.2.1 bt415.2.2.2.2.1) else (agoralaw06_SealWraps.j1 k x0 x1 x2 x7 t414 (decide (bt415.2.1 ≥ 2305843009213693951)) bt415.1 bt415.2.1 bt415.2.2.1 bt415.2.2.2.1 bt415.2.2.2.2.1)) else (agoralaw06_SealWraps.j1 k x0 x1 x2 x7 t414 true bt415.1 bt415.2.1 bt415.2.2.1 bt415.2.2.2.1 bt415.2.2.2.2.1)) else (agoralaw06_SealWraps.j1 k x0 x1 x2 x7 t414 true bt415.1 bt415.2.1 bt415.2.2.1 bt415.2.2.2.1 bt415.2.2.2.2.1)) else (agoralaw06_SealWraps.j1 k x0 x1 x2 x7 t414 true bt415.1 bt415.2.1 bt415.2.2.1 bt415.2.2.2.1 bt415.2.2.2.2.1)) else (agoralaw06_SealWraps.j1 k x0 x1 x2 x7 t414 true bt415.1 bt415.2.1 bt415.2.2.1 bt415.2.2.2.1 bt415.2.2.2.2.1)))))
def agoralaw06_SealWraps.j1 : Nat → Int → ByteArray → ByteArray → Bool → Int → Bool → Int → Int → ByteArray → ByteArray → ByteArray → Option (Bool)
  | 0, _, _, _, _, _, _, _, _, _, _, _ => none
  | k + 1, x0, x1, x2, x7, x8, x75, x422000, x422001, x422002, x422003, x422004 => if x75 = true then (none) else ((code_Num.f x8).bind fun t424 => ((code_List.f (([(⟨#[101, 112, 104]⟩ : ByteArray), x1, t424] : List ByteArray))).bind fun t428 => ((sum_Sha.f t428).bind fun t429 => ((sum_Num.f k t429).bind fun t430 => ((group_Exp.f k x8 (wrap64 (1 + (Int.tmod t430 2305843009213693949)))).bind fun t431 => ((group_Exp.f k x422001 x0).bind fun t432 => (if t431 = t432 then ((group_Exp.f k 37 (wrap64 (1 + (Int.tmod t430 2305843009213693949)))).bind fun t433 => (agoralaw06_SealWraps.j2 k x2 x7 x8 t431 (x422001 != t433) x422000 x422001 x422002 x422003 x422004)) else (agoralaw06_SealWraps.j2 k x2 x7 x8 t431 true x422000 x422001 x422002 x422003 x422004))))))))
def agoralaw06_SealWraps.j2 : Nat → ByteArray → Bool → Int → Int → Bool → Int → Int → ByteArray → ByteArray → ByteArray → Option (Bool)
  | 0, _, _, _, _, _, _, _, _, _, _ => none
  | k + 1, x2, x7, x8, x14, x101, x422000, x422001, x422002, x422003, x422004 => if x101 = true then (none) else ((code_Num.f x8).bind fun t434 => ((code_Num.f x422001).bind fun t435 => ((code_Num.f x14).bind fun t436 => ((code_List.f (([(⟨#[119, 114, 97, 112]⟩ : ByteArray), t434, t435, t436] : List ByteArray))).bind fun t440 => ((sum_Sha.f t440).bind fun t441 => ((seal_Open.f t441 x422002 x422003 x422004).bind fun bt442 => (if x7 = true then (if bt442.2 = true then (some (bt442.1.toList == x2.toList)) else (none)) else (none))))))))
end
def agoralaw06_SealWraps.f (k : Nat) (a0 : Int) (a1 : ByteArray) (a2 : ByteArray) : Option (Bool) := (agoralaw06_small.f k).bind fun t409 => ((agoralaw06_few.f k (([a1, a2] : List ByteArray))).bind fun t413 => (if t413 = true then (if a0 < 1 then (agoralaw06_SealWraps.j0 k a0 a1 a2 t409 true) else (agoralaw06_SealWraps.j0 k a0 a1 a2 t409 (decide (a0 ≥ 2305843009213693950)))) else (agoralaw06_SealWraps.j0 k a0 a1 a2 t409 true)))
def agoralaw06_SealWraps.T12 : Bool × List (List Nat × List Nat) := (true, [([], []), ([], []), ([0, 1], [0, 1]), ([2], [2]), ([3], [3]), ([4, 3], [3, 4]), ([3], [3]), ([6, 3, 3], [3, 6]), ([5, 7, 3], [3, 5, 7]), ([3, 8], [3, 8])])
def agoralaw06_SealWraps.B12 : List Nat := [0, 0, 3, 7, 15, 31, 15, 79, 255, 511]
theorem agoralaw06_SealWraps.tab12 : rtab .any (opsOf Try.f6 12) = agoralaw06_SealWraps.T12 := by kernel_rfl
theorem agoralaw06_SealWraps.bits12 : waitsOk agoralaw06_SealWraps.T12.2 agoralaw06_SealWraps.B12 = true := by kernel_rfl
def agoralaw06_SealWraps.T14 : Bool × List (List Nat × List Nat) := (true, [([], []), ([0], [0]), ([], []), ([2], [2]), ([3, 1], [3]), ([], []), ([5, 4], [5]), ([1, 4, 6], [1, 4, 6]), ([7, 6], [7]), ([8, 8], [8]), ([9, 9, 0, 1, 2, 3, 4, 5, 6, 7, 8, 9], [9])])
def agoralaw06_SealWraps.B14 : List Nat := [0, 1, 0, 4, 15, 0, 63, 127, 255, 511, 1023]
theorem agoralaw06_SealWraps.tab14 : rtab .any (opsOf Try.f6 14) = agoralaw06_SealWraps.T14 := by kernel_rfl
theorem agoralaw06_SealWraps.bits14 : waitsOk agoralaw06_SealWraps.T14.2 agoralaw06_SealWraps.B14 = true := by kernel_rfl
set_option maxHeartbeats 8000000 in
set_option maxRecDepth 100000 in
theorem agoralaw06_SealWraps.calls (k : Nat) (a0 : Int) (a1 : ByteArray) (a2 : ByteArray) (r : Bool) (w : World) (h : agoralaw06_SealWraps.f k a0 a1 a2 = some r) :
    Calls Try.prog 6 #[.int .i64 a0, .string a1, .string a2] w fun e w' => e = .returned (.bool r) ∧ Below w.heap.size w w' := by
  have hu25 := Try.underlying25
  have hu23 := Try.underlying23
  have HB := Aside0.mk (Below.refl w.heap.size w)
  have H : ((agoralaw06_small.f k).bind fun t409 => ((agoralaw06_few.f k (([a1, a2] : List ByteArray))).bind fun t413 => (if t413 = true then (if a0 < 1 then (agoralaw06_SealWraps.j0 k a0 a1 a2 t409 true) else (agoralaw06_SealWraps.j0 k a0 a1 a2 t409 (decide (a0 ≥ 2305843009213693950)))) else (agoralaw06_SealWraps.j0 k a0 a1 a2 t409 true)))) = some r := h
  clear h
  replace H := Option.bind_eq_some_iff.mp H
  obtain ⟨t409, A40, H⟩ := H
  replace H : ((agoralaw06_few.f k (([a1, a2] : List ByteArray))).bind fun t413 => (if t413 = true then (if a0 < 1 then (agoralaw06_SealWraps.j0 k a0 a1 a2 t409 true) else (agoralaw06_SealWraps.j0 k a0 a1 a2 t409 (decide (a0 ≥ 2305843009213693950)))) else (agoralaw06_SealWraps.j0 k a0 a1 a2 t409 true))) = some r := H
  have A4 := Aside0.mk A40
  clear A40
  have HC5 := Aside0.mk H
  clear H
  go_enter Try.func6, Try.ntmps6
  go_upto_region 2 with (first | ((with_reducible refine gate_callee (f := 8) rfl ?_); refine goesL_ (some 19) rfl rfl Try.func8 (by kernel_rfl) rfl #[] rfl (by (try simp only [List.map_toArray, List.map_cons, List.map_nil]); first | done | rfl | (simp only [List.length_drop, List.length_take]; rfl)) ?_; (with_reducible refine (agoralaw06_small.calls k  t409 _ A4.out).mono ?_); rintro e w6 ⟨rfl, hb⟩; refine ⟨_, rfl, ?_⟩; have n0_ := Aside0.mk (below_step (by repeat (first | (with_reducible first | exact HB.out | apply below_alloc | apply pw_below_drewN | apply below_drew1) | exact HB.out)) hb); clear HB; have HB := n0_; clear n0_; (try clear hb); (try clear hb2); (try clear hk); (try clear hi)))
  (try simp only [Act.put, List.setIfInBounds_toArray, List.set_cons_zero, List.set_cons_succ])
  go_cut [32] (fun v32 wc => ∃ (kq : Nat) (x32_4 : Bool), v32 = .bool x32_4 ∧ Aside0 (agoralaw06_SealWraps.j0 kq a0 a1 a2 t409 x32_4 = some r) ∧ Aside0 (kq ≤ k) ∧ Aside0 (Below w.heap.size w wc))
  case first =>
    have H := HC5.out
    clear HC5
    obtain ⟨y410, hy410⟩ : ∃ y_ : List ByteArray, y_ = (([a1, a2] : List ByteArray)) := ⟨_, rfl⟩
    replace H : ((agoralaw06_few.f k y410).bind fun t413 => (if t413 = true then (if a0 < 1 then (agoralaw06_SealWraps.j0 k a0 a1 a2 t409 true) else (agoralaw06_SealWraps.j0 k a0 a1 a2 t409 (decide (a0 ≥ 2305843009213693950)))) else (agoralaw06_SealWraps.j0 k a0 a1 a2 t409 true))) = some r := by first | (rw [hy410]; with_reducible exact H) | (have H2_ := (Option.bind_some _ _).symm.trans H; rw [hy410]; with_reducible exact H2_) | (have H2_ := (Option.bind_some _ _).symm.trans H; with_reducible exact H2_) | with_reducible exact H | (rw [hy410]; exact H) | exact H
    have Ny410 := Aside0.mk hy410
    clear hy410
    replace H := Option.bind_eq_some_iff.mp H
    obtain ⟨t413, A70, H⟩ := H
    replace H : (if t413 = true then (if a0 < 1 then (agoralaw06_SealWraps.j0 k a0 a1 a2 t409 true) else (agoralaw06_SealWraps.j0 k a0 a1 a2 t409 (decide (a0 ≥ 2305843009213693950)))) else (agoralaw06_SealWraps.j0 k a0 a1 a2 t409 true)) = some r := H
    have A7 := Aside0.mk A70
    clear A70
    by_cases c8 : t413 = true
    · subst c8
      have H1 : (if a0 < 1 then (agoralaw06_SealWraps.j0 k a0 a1 a2 t409 true) else (agoralaw06_SealWraps.j0 k a0 a1 a2 t409 (decide (a0 ≥ 2305843009213693950)))) = some r := by rw [if_pos rfl] at H; exact H
      clear H
      have H := H1
      clear H1
      by_cases c9 : a0 < 1
      · rw [if_pos c9] at H
        have c9b0 : decide (a0 < 1) = true := decide_eq_true c9
        clear c9
        (first | rw [c9b0] | (simp only [i64_w, i32_w]; rw [c9b0]) | skip)
        have H' := Aside0.mk H
        clear H
        go_wp2_with (first | ((with_reducible refine gate_dst (N := 22) rfl ?_); refine Kd.R_lit Kd.string _ 9 ?hg (N := 22) ?hd (xs := ([a1, a2] : List ByteArray)) (inner := [.string a1, .string a2]) (ok := fun _ => True) (okp := fun _ => True) ?hr ?hp (fun _ hk => hk) trivial (Below.refl _ _) (Nat.le_refl _) (by simp) ?_; (case hd => rfl); (case hg => rfl); (case hr => first | (go_simp; done) | (go_simp; rfl) | (go_simp; simp only [IntKind.wrap_u32', Int.emod_add_emod, Int.add_emod_emod])); (case hp => exact (Reps.one (show Kd.M Kd.string _ _ _ a1 [.string a1] from rfl) (Reps.one (show Kd.M Kd.string _ _ _ a2 [.string a2] from rfl) (Reps.none _ _)))); intro v411 w10 ho11 hb hg_ hnew_; clear hg_ hnew_; (first | rw [← Ny410.out] at ho11 | (simp only [Int.reduceToNat] at ho11; rw [← Ny410.out] at ho11)); have n0_ := Aside0.mk (Kd.R_lower ho11 (below_size (by repeat (first | (with_reducible first | exact HB.out | apply below_alloc | apply pw_below_drewN | apply below_drew1) | exact HB.out)))); have n1_ := Aside0.mk (below_step (by repeat (first | (with_reducible first | exact HB.out | apply below_alloc | apply pw_below_drewN | apply below_drew1) | exact HB.out)) hb); clear HB; have HO412 := n0_; have HB := n1_; clear n0_ n1_; clear hb ho11; obtain ⟨Ao12, co12, eo12⟩ := Kd.R_slice HO412.out; subst eo12) | ((with_reducible refine gate_callee (f := 9) rfl ?_); refine goesL_ (some 23) rfl rfl Try.func9 (by kernel_rfl) rfl #[.slice Ao12 y410.length co12] rfl (by (try simp only [List.map_toArray, List.map_cons, List.map_nil]); first | done | rfl | (simp only [List.length_drop, List.length_take]; rfl)) ?_; (with_reducible refine (agoralaw06_few.calls k _ _ y410 true _ ?side1 ?side2 A7.out).mono ?_); (case side1 => repeat (first | exact (Kd.R_reads' HO412.out).2.2 | (with_reducible refine Kd.C_alloc ?_ _) | (with_reducible refine Kd.C_drewN ?_ _) | (with_reducible refine Kd.C_drew ?_))); (case side2 => exact (Kd.R_reads' HO412.out).2.1); rintro e w' ⟨rfl, ⟨nd, rfl⟩⟩; refine ⟨_, rfl, ?_⟩))
        go_meet
        case rel => exact ⟨_, (true), (by first | rfl | (simp; done) | (simp [*]; done)), H', ⟨by first | omega | exact Nat.le_refl _⟩, ⟨by repeat (first | (with_reducible first | exact HB.out | apply below_alloc | apply pw_below_drewN | apply below_drew1) | exact HB.out)⟩⟩
      · rw [if_neg c9] at H
        have c9b0 : decide (a0 < 1) = false := decide_eq_false c9
        clear c9
        (first | rw [c9b0] | (simp only [i64_w, i32_w]; rw [c9b0]) | skip)
        have H' := Aside0.mk H
        clear H
        go_wp2_with (first | ((with_reducible refine gate_dst (N := 22) rfl ?_); refine Kd.R_lit Kd.string _ 9 ?hg (N := 22) ?hd (xs := ([a1, a2] : List ByteArray)) (inner := [.string a1, .string a2]) (ok := fun _ => True) (okp := fun _ => True) ?hr ?hp (fun _ hk => hk) trivial (Below.refl _ _) (Nat.le_refl _) (by simp) ?_; (case hd => rfl); (case hg => rfl); (case hr => first | (go_simp; done) | (go_simp; rfl) | (go_simp; simp only [IntKind.wrap_u32', Int.emod_add_emod, Int.add_emod_emod])); (case hp => exact (Reps.one (show Kd.M Kd.string _ _ _ a1 [.string a1] from rfl) (Reps.one (show Kd.M Kd.string _ _ _ a2 [.string a2] from rfl) (Reps.none _ _)))); intro v411 w13 ho14 hb hg_ hnew_; clear hg_ hnew_; (first | rw [← Ny410.out] at ho14 | (simp only [Int.reduceToNat] at ho14; rw [← Ny410.out] at ho14)); have n0_ := Aside0.mk (Kd.R_lower ho14 (below_size (by repeat (first | (with_reducible first | exact HB.out | apply below_alloc | apply pw_below_drewN | apply below_drew1) | exact HB.out)))); have n1_ := Aside0.mk (below_step (by repeat (first | (with_reducible first | exact HB.out | apply below_alloc | apply pw_below_drewN | apply below_drew1) | exact HB.out)) hb); clear HB; have HO412 := n0_; have HB := n1_; clear n0_ n1_; clear hb ho14; obtain ⟨Ao15, co15, eo15⟩ := Kd.R_slice HO412.out; subst eo15) | ((with_reducible refine gate_callee (f := 9) rfl ?_); refine goesL_ (some 23) rfl rfl Try.func9 (by kernel_rfl) rfl #[.slice Ao15 y410.length co15] rfl (by (try simp only [List.map_toArray, List.map_cons, List.map_nil]); first | done | rfl | (simp only [List.length_drop, List.length_take]; rfl)) ?_; (with_reducible refine (agoralaw06_few.calls k _ _ y410 true _ ?side1 ?side2 A7.out).mono ?_); (case side1 => repeat (first | exact (Kd.R_reads' HO412.out).2.2 | (with_reducible refine Kd.C_alloc ?_ _) | (with_reducible refine Kd.C_drewN ?_ _) | (with_reducible refine Kd.C_drew ?_))); (case side2 => exact (Kd.R_reads' HO412.out).2.1); rintro e w' ⟨rfl, ⟨nd, rfl⟩⟩; refine ⟨_, rfl, ?_⟩))
        go_meet
        case rel => exact ⟨_, (decide (a0 ≥ 2305843009213693950)), (by first | rfl | (simp; done) | (simp [*]; done)), H', ⟨by first | omega | exact Nat.le_refl _⟩, ⟨by repeat (first | (with_reducible first | exact HB.out | apply below_alloc | apply pw_below_drewN | apply below_drew1) | exact HB.out)⟩⟩
    · replace c8 := Bool.eq_false_iff.mpr c8
      subst c8
      have H1 : (agoralaw06_SealWraps.j0 k a0 a1 a2 t409 true) = some r := by rw [if_neg (show ¬ (false = true) by decide)] at H; exact H
      clear H
      have H := H1
      clear H1
      have H' := Aside0.mk H
      clear H
      go_wp2_with (first | ((with_reducible refine gate_dst (N := 22) rfl ?_); refine Kd.R_lit Kd.string _ 9 ?hg (N := 22) ?hd (xs := ([a1, a2] : List ByteArray)) (inner := [.string a1, .string a2]) (ok := fun _ => True) (okp := fun _ => True) ?hr ?hp (fun _ hk => hk) trivial (Below.refl _ _) (Nat.le_refl _) (by simp) ?_; (case hd => rfl); (case hg => rfl); (case hr => first | (go_simp; done) | (go_simp; rfl) | (go_simp; simp only [IntKind.wrap_u32', Int.emod_add_emod, Int.add_emod_emod])); (case hp => exact (Reps.one (show Kd.M Kd.string _ _ _ a1 [.string a1] from rfl) (Reps.one (show Kd.M Kd.string _ _ _ a2 [.string a2] from rfl) (Reps.none _ _)))); intro v411 w16 ho17 hb hg_ hnew_; clear hg_ hnew_; (first | rw [← Ny410.out] at ho17 | (simp only [Int.reduceToNat] at ho17; rw [← Ny410.out] at ho17)); have n0_ := Aside0.mk (Kd.R_lower ho17 (below_size (by repeat (first | (with_reducible first | exact HB.out | apply below_alloc | apply pw_below_drewN | apply below_drew1) | exact HB.out)))); have n1_ := Aside0.mk (below_step (by repeat (first | (with_reducible first | exact HB.out | apply below_alloc | apply pw_below_drewN | apply below_drew1) | exact HB.out)) hb); clear HB; have HO412 := n0_; have HB := n1_; clear n0_ n1_; clear hb ho17; obtain ⟨Ao18, co18, eo18⟩ := Kd.R_slice HO412.out; subst eo18) | ((with_reducible refine gate_callee (f := 9) rfl ?_); refine goesL_ (some 23) rfl rfl Try.func9 (by kernel_rfl) rfl #[.slice Ao18 y410.length co18] rfl (by (try simp only [List.map_toArray, List.map_cons, List.map_nil]); first | done | rfl | (simp only [List.length_drop, List.length_take]; rfl)) ?_; (with_reducible refine (agoralaw06_few.calls k _ _ y410 false _ ?side1 ?side2 A7.out).mono ?_); (case side1 => repeat (first | exact (Kd.R_reads' HO412.out).2.2 | (with_reducible refine Kd.C_alloc ?_ _) | (with_reducible refine Kd.C_drewN ?_ _) | (with_reducible refine Kd.C_drew ?_))); (case side2 => exact (Kd.R_reads' HO412.out).2.1); rintro e w' ⟨rfl, ⟨nd, rfl⟩⟩; refine ⟨_, rfl, ?_⟩))
      go_meet
      case rel => exact ⟨_, (true), (by first | rfl | (simp; done) | (simp [*]; done)), H', ⟨by first | omega | exact Nat.le_refl _⟩, ⟨by repeat (first | (with_reducible first | exact HB.out | apply below_alloc | apply pw_below_drewN | apply below_drew1) | exact HB.out)⟩⟩
  case rest =>
    clear HC5
    try clear p2
    try clear c6
    try clear c8
    try clear c9
    try clear c9b0
    obtain ⟨kq, x32_4, rfl, HA, HJ4, HB⟩ := hcut
    cases kq with
    | zero => exact absurd HA.out (by simp [agoralaw06_SealWraps.j0])
    | succ kj4 =>
      have H := HA.out
      clear HA
      simp only [agoralaw06_SealWraps.j0] at H
      by_cases c19 : x32_4 = true
      · subst c19
        have H1 : (some t409) = some r := by rw [if_pos rfl] at H; exact H
        clear H
        have H := H1
        clear H1
        obtain rfl := Option.some.inj H
        go_wp2
        go_ret
        exact ⟨by first | rfl | (simp [errW_none, errW_some] <;> rfl) | (simp [*, errW_none, errW_some] <;> rfl), by repeat (first | (with_reducible first | exact HB.out | apply below_alloc | apply pw_below_drewN | apply below_drew1) | exact HB.out)⟩
      · replace c19 := Bool.eq_false_iff.mpr c19
        subst c19
        have H1 : ((group_Exp.f kj4 37 a0).bind fun t414 => ((seal_Wrap.f kj4 t414 a1 a2).bind fun bt415 => ((seal_Unwrap.f kj4 a0 bt415.1 bt415.2.1 bt415.2.2.1 bt415.2.2.2.1 bt415.2.2.2.2.1).bind fun bt422 => (if bt415.2.2.2.2.2 = true then (if bt422.2 = true then (if bt422.1.toList = a2.toList then (if bt415.1 = t414 then (if bt415.2.1 < 1 then (agoralaw06_SealWraps.j1 kj4 a0 a1 a2 t409 t414 true bt415.1 bt415.2.1 bt415.2.2.1 bt415.2.2.2.1 bt415.2.2.2.2.1) else (agoralaw06_SealWraps.j1 kj4 a0 a1 a2 t409 t414 (decide (bt415.2.1 ≥ 2305843009213693951)) bt415.1 bt415.2.1 bt415.2.2.1 bt415.2.2.2.1 bt415.2.2.2.2.1)) else (agoralaw06_SealWraps.j1 kj4 a0 a1 a2 t409 t414 true bt415.1 bt415.2.1 bt415.2.2.1 bt415.2.2.2.1 bt415.2.2.2.2.1)) else (agoralaw06_SealWraps.j1 kj4 a0 a1 a2 t409 t414 true bt415.1 bt415.2.1 bt415.2.2.1 bt415.2.2.2.1 bt415.2.2.2.2.1)) else (agoralaw06_SealWraps.j1 kj4 a0 a1 a2 t409 t414 true bt415.1 bt415.2.1 bt415.2.2.1 bt415.2.2.2.1 bt415.2.2.2.2.1)) else (agoralaw06_SealWraps.j1 kj4 a0 a1 a2 t409 t414 true bt415.1 bt415.2.1 bt415.2.2.1 bt415.2.2.2.1 bt415.2.2.2.2.1))))) = some r := by rw [if_neg (show ¬ (false = true) by decide)] at H; exact H
        clear H
        have H := H1
        clear H1
        replace H := Option.bind_eq_some_iff.mp H
        obtain ⟨t414, A200, H⟩ := H
        replace H : ((seal_Wrap.f kj4 t414 a1 a2).bind fun bt415 => ((seal_Unwrap.f kj4 a0 bt415.1 bt415.2.1 bt415.2.2.1 bt415.2.2.2.1 bt415.2.2.2.2.1).bind fun bt422 => (if bt415.2.2.2.2.2 = true then (if bt422.2 = true then (if bt422.1.toList = a2.toList then (if bt415.1 = t414 then (if bt415.2.1 < 1 then (agoralaw06_SealWraps.j1 kj4 a0 a1 a2 t409 t414 true bt415.1 bt415.2.1 bt415.2.2.1 bt415.2.2.2.1 bt415.2.2.2.2.1) else (agoralaw06_SealWraps.j1 kj4 a0 a1 a2 t409 t414 (decide (bt415.2.1 ≥ 2305843009213693951)) bt415.1 bt415.2.1 bt415.2.2.1 bt415.2.2.2.1 bt415.2.2.2.2.1)) else (agoralaw06_SealWraps.j1 kj4 a0 a1 a2 t409 t414 true bt415.1 bt415.2.1 bt415.2.2.1 bt415.2.2.2.1 bt415.2.2.2.2.1)) else (agoralaw06_SealWraps.j1 kj4 a0 a1 a2 t409 t414 true bt415.1 bt415.2.1 bt415.2.2.1 bt415.2.2.2.1 bt415.2.2.2.2.1)) else (agoralaw06_SealWraps.j1 kj4 a0 a1 a2 t409 t414 true bt415.1 bt415.2.1 bt415.2.2.1 bt415.2.2.2.1 bt415.2.2.2.2.1)) else (agoralaw06_SealWraps.j1 kj4 a0 a1 a2 t409 t414 true bt415.1 bt415.2.1 bt415.2.2.1 bt415.2.2.2.1 bt415.2.2.2.2.1)))) = some r := H
        have A20 := Aside0.mk A200
        clear A200
        replace H := Option.bind_eq_some_iff.mp H
        obtain ⟨⟨t415, t416, t417, t418, t419, t420⟩, A210, H⟩ := H
        replace H : ((seal_Unwrap.f kj4 a0 t415 t416 t417 t418 t419).bind fun bt422 => (if t420 = true then (if bt422.2 = true then (if bt422.1.toList = a2.toList then (if t415 = t414 then (if t416 < 1 then (agoralaw06_SealWraps.j1 kj4 a0 a1 a2 t409 t414 true t415 t416 t417 t418 t419) else (agoralaw06_SealWraps.j1 kj4 a0 a1 a2 t409 t414 (decide (t416 ≥ 2305843009213693951)) t415 t416 t417 t418 t419)) else (agoralaw06_SealWraps.j1 kj4 a0 a1 a2 t409 t414 true t415 t416 t417 t418 t419)) else (agoralaw06_SealWraps.j1 kj4 a0 a1 a2 t409 t414 true t415 t416 t417 t418 t419)) else (agoralaw06_SealWraps.j1 kj4 a0 a1 a2 t409 t414 true t415 t416 t417 t418 t419)) else (agoralaw06_SealWraps.j1 kj4 a0 a1 a2 t409 t414 true t415 t416 t417 t418 t419))) = some r := H
        have A21 := Aside0.mk A210
        clear A210
        replace H := Option.bind_eq_some_iff.mp H
        obtain ⟨⟨t422, t423⟩, A220, H⟩ := H
        replace H : (if t420 = true then (if t423 = true then (if t422.toList = a2.toList then (if t415 = t414 then (if t416 < 1 then (agoralaw06_SealWraps.j1 kj4 a0 a1 a2 t409 t414 true t415 t416 t417 t418 t419) else (agoralaw06_SealWraps.j1 kj4 a0 a1 a2 t409 t414 (decide (t416 ≥ 2305843009213693951)) t415 t416 t417 t418 t419)) else (agoralaw06_SealWraps.j1 kj4 a0 a1 a2 t409 t414 true t415 t416 t417 t418 t419)) else (agoralaw06_SealWraps.j1 kj4 a0 a1 a2 t409 t414 true t415 t416 t417 t418 t419)) else (agoralaw06_SealWraps.j1 kj4 a0 a1 a2 t409 t414 true t415 t416 t417 t418 t419)) else (agoralaw06_SealWraps.j1 kj4 a0 a1 a2 t409 t414 true t415 t416 t417 t418 t419)) = some r := H
        have A22 := Aside0.mk A220
        clear A220
        have HC23 := Aside0.mk H
        clear H
        go_upto_region 7 with (first | ((with_reducible refine gate_callee (f := 18) rfl ?_); refine goesL_ (some 35) rfl rfl Try.func18 (by kernel_rfl) rfl #[.int .i64 37, .int .i64 a0] rfl (by (try simp only [List.map_toArray, List.map_cons, List.map_nil]); first | done | rfl | (simp only [List.length_drop, List.length_take]; rfl)) ?_; (with_reducible refine (group_Exp.calls kj4 37 a0 t414 _ A20.out).mono ?_); rintro e w' ⟨rfl, ⟨nd, rfl⟩⟩; refine ⟨_, rfl, ?_⟩; (try simp only [World.drewN_drewN]); (try (rw [drewN_self wc]; generalize hq_ : World.drewN wc _ = wc; have n0_ : Aside0 (Below w.heap.size w wc) := ⟨by rw [← hq_]; exact (by repeat (first | (with_reducible first | exact HB.out | apply below_alloc | apply pw_below_drewN | apply below_drew1) | exact HB.out))⟩; clear HB hq_; have HB := n0_; clear n0_))) | ((with_reducible refine gate_callee (f := 12) rfl ?_); refine goesL_ (some 40) rfl rfl Try.func12 (by kernel_rfl) rfl #[.int .i64 t414, .string a1, .string a2] rfl (by (try simp only [List.map_toArray, List.map_cons, List.map_nil]); first | done | rfl | (simp only [List.length_drop, List.length_take]; rfl)) ?_; (with_reducible refine (seal_Wrap.calls kj4 t414 a1 a2 t415 t416 t417 t418 t419 t420 _ A21.out).mono ?_); rintro e w24 ⟨rfl, hb⟩; refine ⟨_, rfl, ?_⟩; have n0_ := Aside0.mk (below_step (by repeat (first | (with_reducible first | exact HB.out | apply below_alloc | apply pw_below_drewN | apply below_drew1) | exact HB.out)) hb); clear HB; have HB := n0_; clear n0_; (try clear hb); (try clear hb2); (try clear hk); (try clear hi)) | ((with_reducible refine gate_dst (N := 9) rfl ?_); refine box_event ?hg (N := 9) ?hd (cs := #[.int .i64 0, .int .i64 0, .string (⟨#[]⟩ : ByteArray), .string (⟨#[]⟩ : ByteArray), .string (⟨#[]⟩ : ByteArray)]) (t := 25) ?hr ?_; (case hd => rfl); (case hg => rfl); (case hr => first | (go_simp; done) | (go_simp; rfl) | (go_simp; simp only [IntKind.wrap_u32', Int.emod_add_emod, Int.add_emod_emod])); intro gb421 hg w25 hbox hb; have n0_ := Aside0.mk (below_step (by repeat (first | (with_reducible first | exact HB.out | apply below_alloc | apply pw_below_drewN | apply below_drew1) | exact HB.out)) hb); have n1_ := Aside0.mk (hbox); have n2_ := Aside0.mk ((by rw [hg]; exact (below_size (by repeat (first | (with_reducible first | exact HB.out | apply below_alloc | apply pw_below_drewN | apply below_drew1) | exact HB.out))) : w.heap.size ≤ gb421)); have n3_ := Aside0.mk ((by rw [hg]; exact (below_size (by repeat (first | (with_reducible first | exact HB.out | apply below_alloc | apply pw_below_drewN | apply below_drew1) | exact HB.out))) : w.heap.size ≤ gb421)); clear HB; have HB := n0_; have BK421 := n1_; have GW421 := n2_; have GE421 := n3_; clear n0_ n1_ n2_ n3_; clear hb hbox hg; have hcz26_0 : w25.cell? ⟨gb421, 0, none⟩ = some (.int .i64 0) := (blk_cell BK421.out 0).trans rfl; have hcz26_1 : w25.cell? ⟨gb421, 1, none⟩ = some (.int .i64 0) := (blk_cell BK421.out 1).trans rfl; have hcz26_2 : w25.cell? ⟨gb421, 2, none⟩ = some (.string (⟨#[]⟩ : ByteArray)) := (blk_cell BK421.out 2).trans rfl; have hcz26_3 : w25.cell? ⟨gb421, 3, none⟩ = some (.string (⟨#[]⟩ : ByteArray)) := (blk_cell BK421.out 3).trans rfl; have hcz26_4 : w25.cell? ⟨gb421, 4, none⟩ = some (.string (⟨#[]⟩ : ByteArray)) := (blk_cell BK421.out 4).trans rfl; have hfz26_0 := blk_frozen BK421.out 0; have hfz26_1 := blk_frozen BK421.out 1; have hfz26_2 := blk_frozen BK421.out 2; have hfz26_3 := blk_frozen BK421.out 3; have hfz26_4 := blk_frozen BK421.out 4) | ((with_reducible refine gate_callee (f := 14) rfl ?_); refine goesL_ (some 46) rfl rfl Try.func14 (by kernel_rfl) rfl #[.int .i64 a0, .agg #[.int .i64 t415, .int .i64 t416, .string t417, .string t418, .string t419]] rfl (by (try simp only [List.map_toArray, List.map_cons, List.map_nil]); first | done | rfl | (simp only [List.length_drop, List.length_take]; rfl)) ?_; (with_reducible refine (seal_Unwrap.calls kj4 a0 t415 t416 t417 t418 t419 t422 t423 _ A22.out).mono ?_); rintro e w27 ⟨rfl, hb⟩; refine ⟨_, rfl, ?_⟩; have n0_ := Aside0.mk (blk_below (g := gb421) (o := .cells #[.int .i64 t415, .int .i64 t416, .string t417, .string t418, .string t419] 25 (0, 0)) (by (with_reducible repeat (first | refine blk_drewN ?_ _ | refine blk_drew ?_ | refine blk_alloc ?_ _)); refine blk_put (cs := #[.int .i64 t415, .int .i64 t416, .string t417, .string t418, .string (⟨#[]⟩ : ByteArray)]) ?_ 4 _ rfl; (with_reducible repeat (first | refine blk_drewN ?_ _ | refine blk_drew ?_ | refine blk_alloc ?_ _)); refine blk_put (cs := #[.int .i64 t415, .int .i64 t416, .string t417, .string (⟨#[]⟩ : ByteArray), .string (⟨#[]⟩ : ByteArray)]) ?_ 3 _ rfl; (with_reducible repeat (first | refine blk_drewN ?_ _ | refine blk_drew ?_ | refine blk_alloc ?_ _)); refine blk_put (cs := #[.int .i64 t415, .int .i64 t416, .string (⟨#[]⟩ : ByteArray), .string (⟨#[]⟩ : ByteArray), .string (⟨#[]⟩ : ByteArray)]) ?_ 2 _ rfl; (with_reducible repeat (first | refine blk_drewN ?_ _ | refine blk_drew ?_ | refine blk_alloc ?_ _)); refine blk_put (cs := #[.int .i64 t415, .int .i64 0, .string (⟨#[]⟩ : ByteArray), .string (⟨#[]⟩ : ByteArray), .string (⟨#[]⟩ : ByteArray)]) ?_ 1 _ rfl; (with_reducible repeat (first | refine blk_drewN ?_ _ | refine blk_drew ?_ | refine blk_alloc ?_ _)); refine blk_put (cs := #[.int .i64 0, .int .i64 0, .string (⟨#[]⟩ : ByteArray), .string (⟨#[]⟩ : ByteArray), .string (⟨#[]⟩ : ByteArray)]) ?_ 0 _ rfl; (with_reducible repeat (first | refine blk_drewN ?_ _ | refine blk_drew ?_ | refine blk_alloc ?_ _)); exact BK421.out) hb); have n1_ := Aside0.mk (below_step (by repeat (first | (with_reducible first | exact HB.out | apply below_alloc | apply pw_below_drewN | apply below_drew1 | refine below_set ?_ GE421.out) | exact HB.out)) hb); clear BK421; clear HB; have BK421 := n0_; have HB := n1_; clear n0_ n1_; (try clear hb); (try clear hb2); (try clear hk); (try clear hi)))
        (try simp only [Act.put, List.setIfInBounds_toArray, List.set_cons_zero, List.set_cons_succ])
        go_cut [75] (fun v75 wc => ∃ (kq : Nat) (x75_22 : Bool), v75 = .bool x75_22 ∧ Aside0 (agoralaw06_SealWraps.j1 kq a0 a1 a2 t409 t414 x75_22 t415 t416 t417 t418 t419 = some r) ∧ Aside0 (kq ≤ kj4) ∧ Aside0 (wc.heap[gb421]? = some (.cells #[.int .i64 t415, .int .i64 t416, .string t417, .string t418, .string t419] 25 (0, 0))) ∧ Aside0 (Below w.heap.size w wc))
        case first =>
          have H := HC23.out
          clear HC23
          by_cases c28 : t420 = true
          · subst c28
            have H1 : (if t423 = true then (if t422.toList = a2.toList then (if t415 = t414 then (if t416 < 1 then (agoralaw06_SealWraps.j1 kj4 a0 a1 a2 t409 t414 true t415 t416 t417 t418 t419) else (agoralaw06_SealWraps.j1 kj4 a0 a1 a2 t409 t414 (decide (t416 ≥ 2305843009213693951)) t415 t416 t417 t418 t419)) else (agoralaw06_SealWraps.j1 kj4 a0 a1 a2 t409 t414 true t415 t416 t417 t418 t419)) else (agoralaw06_SealWraps.j1 kj4 a0 a1 a2 t409 t414 true t415 t416 t417 t418 t419)) else (agoralaw06_SealWraps.j1 kj4 a0 a1 a2 t409 t414 true t415 t416 t417 t418 t419)) = some r := by rw [if_pos rfl] at H; exact H
            clear H
            have H := H1
            clear H1
            by_cases c29 : t423 = true
            · subst c29
              have H1 : (if t422.toList = a2.toList then (if t415 = t414 then (if t416 < 1 then (agoralaw06_SealWraps.j1 kj4 a0 a1 a2 t409 t414 true t415 t416 t417 t418 t419) else (agoralaw06_SealWraps.j1 kj4 a0 a1 a2 t409 t414 (decide (t416 ≥ 2305843009213693951)) t415 t416 t417 t418 t419)) else (agoralaw06_SealWraps.j1 kj4 a0 a1 a2 t409 t414 true t415 t416 t417 t418 t419)) else (agoralaw06_SealWraps.j1 kj4 a0 a1 a2 t409 t414 true t415 t416 t417 t418 t419)) = some r := by rw [if_pos rfl] at H; exact H
              clear H
              have H := H1
              clear H1
              by_cases c30 : t422.toList = a2.toList
              · rw [if_pos c30] at H
                have c30b0 : (t422.toList == a2.toList) = true := beq_iff_eq.mpr c30
                have c30b1 : (t422.toList != a2.toList) = false := bne_eq_false_iff_eq.mpr c30
                clear c30
                (first | rw [c30b0] | (simp only [i64_w, i32_w]; rw [c30b0]) | skip)
                by_cases c31 : t415 = t414
                · rw [if_pos c31] at H
                  have c31b0 : (t415 == t414) = true := beq_iff_eq.mpr c31
                  have c31b1 : (t415 != t414) = false := bne_eq_false_iff_eq.mpr c31
                  clear c31
                  by_cases c32 : t416 < 1
                  · rw [if_pos c32] at H
                    have c32b0 : decide (t416 < 1) = true := decide_eq_true c32
                    clear c32
                    have H' := Aside0.mk H
                    clear H
                    have hcz33_0 : w27.cell? ⟨gb421, 0, none⟩ = some (.int .i64 t415) := (blk_cell BK421.out 0).trans rfl
                    have hcz33_1 : w27.cell? ⟨gb421, 1, none⟩ = some (.int .i64 t416) := (blk_cell BK421.out 1).trans rfl
                    have hcz33_2 : w27.cell? ⟨gb421, 2, none⟩ = some (.string t417) := (blk_cell BK421.out 2).trans rfl
                    have hcz33_3 : w27.cell? ⟨gb421, 3, none⟩ = some (.string t418) := (blk_cell BK421.out 3).trans rfl
                    have hcz33_4 : w27.cell? ⟨gb421, 4, none⟩ = some (.string t419) := (blk_cell BK421.out 4).trans rfl
                    have hfz33_0 := blk_frozen BK421.out 0
                    have hfz33_1 := blk_frozen BK421.out 1
                    have hfz33_2 := blk_frozen BK421.out 2
                    have hfz33_3 := blk_frozen BK421.out 3
                    have hfz33_4 := blk_frozen BK421.out 4
                    go_wp2
                    go_meet
                    case rel => exact ⟨_, (true), (by first | rfl | (simp; done) | (simp [*]; done)), H', ⟨by have := HJ4.out; first | omega | exact Nat.le_refl _⟩, ⟨by (with_reducible repeat (first | refine blk_drewN ?_ _ | refine blk_drew ?_ | refine blk_alloc ?_ _)); exact BK421.out⟩, ⟨by repeat (first | (with_reducible first | exact HB.out | apply below_alloc | apply pw_below_drewN | apply below_drew1 | refine below_set ?_ GE421.out) | exact HB.out)⟩⟩
                  · rw [if_neg c32] at H
                    have c32b0 : decide (t416 < 1) = false := decide_eq_false c32
                    clear c32
                    have H' := Aside0.mk H
                    clear H
                    have hcz34_0 : w27.cell? ⟨gb421, 0, none⟩ = some (.int .i64 t415) := (blk_cell BK421.out 0).trans rfl
                    have hcz34_1 : w27.cell? ⟨gb421, 1, none⟩ = some (.int .i64 t416) := (blk_cell BK421.out 1).trans rfl
                    have hcz34_2 : w27.cell? ⟨gb421, 2, none⟩ = some (.string t417) := (blk_cell BK421.out 2).trans rfl
                    have hcz34_3 : w27.cell? ⟨gb421, 3, none⟩ = some (.string t418) := (blk_cell BK421.out 3).trans rfl
                    have hcz34_4 : w27.cell? ⟨gb421, 4, none⟩ = some (.string t419) := (blk_cell BK421.out 4).trans rfl
                    have hfz34_0 := blk_frozen BK421.out 0
                    have hfz34_1 := blk_frozen BK421.out 1
                    have hfz34_2 := blk_frozen BK421.out 2
                    have hfz34_3 := blk_frozen BK421.out 3
                    have hfz34_4 := blk_frozen BK421.out 4
                    go_wp2
                    go_meet
                    case rel => exact ⟨_, (decide (t416 ≥ 2305843009213693951)), (by first | rfl | (simp; done) | (simp [*]; done)), H', ⟨by have := HJ4.out; first | omega | exact Nat.le_refl _⟩, ⟨by (with_reducible repeat (first | refine blk_drewN ?_ _ | refine blk_drew ?_ | refine blk_alloc ?_ _)); exact BK421.out⟩, ⟨by repeat (first | (with_reducible first | exact HB.out | apply below_alloc | apply pw_below_drewN | apply below_drew1 | refine below_set ?_ GE421.out) | exact HB.out)⟩⟩
                · rw [if_neg c31] at H
                  have c31b0 : (t415 == t414) = false := beq_eq_false_iff_ne.mpr c31
                  have c31b1 : (t415 != t414) = true := bne_iff_ne.mpr c31
                  have H' := Aside0.mk H
                  clear H
                  have hcz35_0 : w27.cell? ⟨gb421, 0, none⟩ = some (.int .i64 t415) := (blk_cell BK421.out 0).trans rfl
                  have hcz35_1 : w27.cell? ⟨gb421, 1, none⟩ = some (.int .i64 t416) := (blk_cell BK421.out 1).trans rfl
                  have hcz35_2 : w27.cell? ⟨gb421, 2, none⟩ = some (.string t417) := (blk_cell BK421.out 2).trans rfl
                  have hcz35_3 : w27.cell? ⟨gb421, 3, none⟩ = some (.string t418) := (blk_cell BK421.out 3).trans rfl
                  have hcz35_4 : w27.cell? ⟨gb421, 4, none⟩ = some (.string t419) := (blk_cell BK421.out 4).trans rfl
                  have hfz35_0 := blk_frozen BK421.out 0
                  have hfz35_1 := blk_frozen BK421.out 1
                  have hfz35_2 := blk_frozen BK421.out 2
                  have hfz35_3 := blk_frozen BK421.out 3
                  have hfz35_4 := blk_frozen BK421.out 4
                  go_wp2
                  go_meet
                  case rel => exact ⟨_, (true), (by first | rfl | (simp; done) | (simp [*]; done)), H', ⟨by have := HJ4.out; first | omega | exact Nat.le_refl _⟩, ⟨by (with_reducible repeat (first | refine blk_drewN ?_ _ | refine blk_drew ?_ | refine blk_alloc ?_ _)); exact BK421.out⟩, ⟨by repeat (first | (with_reducible first | exact HB.out | apply below_alloc | apply pw_below_drewN | apply below_drew1 | refine below_set ?_ GE421.out) | exact HB.out)⟩⟩
              · rw [if_neg c30] at H
                have c30b0 : (t422.toList == a2.toList) = false := beq_eq_false_iff_ne.mpr c30
                have c30b1 : (t422.toList != a2.toList) = true := bne_iff_ne.mpr c30
                (first | rw [c30b0] | (simp only [i64_w, i32_w]; rw [c30b0]) | skip)
                have H' := Aside0.mk H
                clear H
                go_wp2
                go_meet
                case rel => exact ⟨_, (true), (by first | rfl | (simp; done) | (simp [*]; done)), H', ⟨by have := HJ4.out; first | omega | exact Nat.le_refl _⟩, ⟨by (with_reducible repeat (first | refine blk_drewN ?_ _ | refine blk_drew ?_ | refine blk_alloc ?_ _)); exact BK421.out⟩, ⟨by repeat (first | (with_reducible first | exact HB.out | apply below_alloc | apply pw_below_drewN | apply below_drew1 | refine below_set ?_ GE421.out) | exact HB.out)⟩⟩
            · replace c29 := Bool.eq_false_iff.mpr c29
              subst c29
              have H1 : (agoralaw06_SealWraps.j1 kj4 a0 a1 a2 t409 t414 true t415 t416 t417 t418 t419) = some r := by rw [if_neg (show ¬ (false = true) by decide)] at H; exact H
              clear H
              have H := H1
              clear H1
              have H' := Aside0.mk H
              clear H
              go_wp2
              go_meet
              case rel => exact ⟨_, (true), (by first | rfl | (simp; done) | (simp [*]; done)), H', ⟨by have := HJ4.out; first | omega | exact Nat.le_refl _⟩, ⟨by (with_reducible repeat (first | refine blk_drewN ?_ _ | refine blk_drew ?_ | refine blk_alloc ?_ _)); exact BK421.out⟩, ⟨by repeat (first | (with_reducible first | exact HB.out | apply below_alloc | apply pw_below_drewN | apply below_drew1 | refine below_set ?_ GE421.out) | exact HB.out)⟩⟩
          · replace c28 := Bool.eq_false_iff.mpr c28
            subst c28
            have H1 : (agoralaw06_SealWraps.j1 kj4 a0 a1 a2 t409 t414 true t415 t416 t417 t418 t419) = some r := by rw [if_neg (show ¬ (false = true) by decide)] at H; exact H
            clear H
            have H := H1
            clear H1
            have H' := Aside0.mk H
            clear H
            go_wp2
            go_meet
            case rel => exact ⟨_, (true), (by first | rfl | (simp; done) | (simp [*]; done)), H', ⟨by have := HJ4.out; first | omega | exact Nat.le_refl _⟩, ⟨by (with_reducible repeat (first | refine blk_drewN ?_ _ | refine blk_drew ?_ | refine blk_alloc ?_ _)); exact BK421.out⟩, ⟨by repeat (first | (with_reducible first | exact HB.out | apply below_alloc | apply pw_below_drewN | apply below_drew1 | refine below_set ?_ GE421.out) | exact HB.out)⟩⟩
        case rest =>
          clear HC23
          try clear c1
          try clear c2
          try clear p2
          try clear c3
          try clear c6
          try clear c8
          try clear c9
          try clear c9b0
          try clear c12
          try clear c14
          try clear c18
          try clear c19
          try clear c28
          try clear c29
          try clear c30
          try clear c30b0
          try clear c30b1
          try clear c31
          try clear c31b0
          try clear c31b1
          try clear c32
          try clear c32b0
          try clear hcz26_0
          try clear hcz26_1
          try clear hcz26_2
          try clear hcz26_3
          try clear hcz26_4
          try clear hcz33_0
          try clear hcz33_1
          try clear hcz33_2
          try clear hcz33_3
          try clear hcz33_4
          try clear hcz34_0
          try clear hcz34_1
          try clear hcz34_2
          try clear hcz34_3
          try clear hcz34_4
          try clear hcz35_0
          try clear hcz35_1
          try clear hcz35_2
          try clear hcz35_3
          try clear hcz35_4
          try clear hfz26_0
          try clear hfz26_1
          try clear hfz26_2
          try clear hfz26_3
          try clear hfz26_4
          try clear hfz33_0
          try clear hfz33_1
          try clear hfz33_2
          try clear hfz33_3
          try clear hfz33_4
          try clear hfz34_0
          try clear hfz34_1
          try clear hfz34_2
          try clear hfz34_3
          try clear hfz34_4
          try clear hfz35_0
          try clear hfz35_1
          try clear hfz35_2
          try clear hfz35_3
          try clear hfz35_4
          try clear p2
          obtain ⟨kq, x75_22, rfl, HA, HJ22, BK421, HB⟩ := hcut
          cases kq with
          | zero => exact absurd HA.out (by simp [agoralaw06_SealWraps.j1])
          | succ kj22 =>
            have H := HA.out
            clear HA
            simp only [agoralaw06_SealWraps.j1] at H
            by_cases c36 : x75_22 = true
            · subst c36
              have H1 : (none) = some r := by rw [if_pos rfl] at H; exact H
              clear H
              have H := H1
              clear H1
              exact absurd H (by simp)
            · replace c36 := Bool.eq_false_iff.mpr c36
              subst c36
              have H1 : ((code_Num.f t414).bind fun t424 => ((code_List.f (([(⟨#[101, 112, 104]⟩ : ByteArray), a1, t424] : List ByteArray))).bind fun t428 => ((sum_Sha.f t428).bind fun t429 => ((sum_Num.f kj22 t429).bind fun t430 => ((group_Exp.f kj22 t414 (wrap64 (1 + (Int.tmod t430 2305843009213693949)))).bind fun t431 => ((group_Exp.f kj22 t416 a0).bind fun t432 => (if t431 = t432 then ((group_Exp.f kj22 37 (wrap64 (1 + (Int.tmod t430 2305843009213693949)))).bind fun t433 => (agoralaw06_SealWraps.j2 kj22 a2 t409 t414 t431 (t416 != t433) t415 t416 t417 t418 t419)) else (agoralaw06_SealWraps.j2 kj22 a2 t409 t414 t431 true t415 t416 t417 t418 t419)))))))) = some r := by rw [if_neg (show ¬ (false = true) by decide)] at H; exact H
              clear H
              have H := H1
              clear H1
              replace H := Option.bind_eq_some_iff.mp H
              obtain ⟨t424, A370, H⟩ := H
              replace H : ((code_List.f (([(⟨#[101, 112, 104]⟩ : ByteArray), a1, t424] : List ByteArray))).bind fun t428 => ((sum_Sha.f t428).bind fun t429 => ((sum_Num.f kj22 t429).bind fun t430 => ((group_Exp.f kj22 t414 (wrap64 (1 + (Int.tmod t430 2305843009213693949)))).bind fun t431 => ((group_Exp.f kj22 t416 a0).bind fun t432 => (if t431 = t432 then ((group_Exp.f kj22 37 (wrap64 (1 + (Int.tmod t430 2305843009213693949)))).bind fun t433 => (agoralaw06_SealWraps.j2 kj22 a2 t409 t414 t431 (t416 != t433) t415 t416 t417 t418 t419)) else (agoralaw06_SealWraps.j2 kj22 a2 t409 t414 t431 true t415 t416 t417 t418 t419))))))) = some r := H
              have A37 := Aside0.mk A370
              clear A370
              obtain ⟨y425, hy425⟩ : ∃ y_ : List ByteArray, y_ = (([(⟨#[101, 112, 104]⟩ : ByteArray), a1, t424] : List ByteArray)) := ⟨_, rfl⟩
              replace H : ((code_List.f y425).bind fun t428 => ((sum_Sha.f t428).bind fun t429 => ((sum_Num.f kj22 t429).bind fun t430 => ((group_Exp.f kj22 t414 (wrap64 (1 + (Int.tmod t430 2305843009213693949)))).bind fun t431 => ((group_Exp.f kj22 t416 a0).bind fun t432 => (if t431 = t432 then ((group_Exp.f kj22 37 (wrap64 (1 + (Int.tmod t430 2305843009213693949)))).bind fun t433 => (agoralaw06_SealWraps.j2 kj22 a2 t409 t414 t431 (t416 != t433) t415 t416 t417 t418 t419)) else (agoralaw06_SealWraps.j2 kj22 a2 t409 t414 t431 true t415 t416 t417 t418 t419))))))) = some r := by first | (rw [hy425]; with_reducible exact H) | (have H2_ := (Option.bind_some _ _).symm.trans H; rw [hy425]; with_reducible exact H2_) | (have H2_ := (Option.bind_some _ _).symm.trans H; with_reducible exact H2_) | with_reducible exact H | (rw [hy425]; exact H) | exact H
              have Ny425 := Aside0.mk hy425
              clear hy425
              replace H := Option.bind_eq_some_iff.mp H
              obtain ⟨t428, A380, H⟩ := H
              replace H : ((sum_Sha.f t428).bind fun t429 => ((sum_Num.f kj22 t429).bind fun t430 => ((group_Exp.f kj22 t414 (wrap64 (1 + (Int.tmod t430 2305843009213693949)))).bind fun t431 => ((group_Exp.f kj22 t416 a0).bind fun t432 => (if t431 = t432 then ((group_Exp.f kj22 37 (wrap64 (1 + (Int.tmod t430 2305843009213693949)))).bind fun t433 => (agoralaw06_SealWraps.j2 kj22 a2 t409 t414 t431 (t416 != t433) t415 t416 t417 t418 t419)) else (agoralaw06_SealWraps.j2 kj22 a2 t409 t414 t431 true t415 t416 t417 t418 t419)))))) = some r := H
              have A38 := Aside0.mk A380
              clear A380
              replace H := Option.bind_eq_some_iff.mp H
              obtain ⟨t429, A390, H⟩ := H
              replace H : ((sum_Num.f kj22 t429).bind fun t430 => ((group_Exp.f kj22 t414 (wrap64 (1 + (Int.tmod t430 2305843009213693949)))).bind fun t431 => ((group_Exp.f kj22 t416 a0).bind fun t432 => (if t431 = t432 then ((group_Exp.f kj22 37 (wrap64 (1 + (Int.tmod t430 2305843009213693949)))).bind fun t433 => (agoralaw06_SealWraps.j2 kj22 a2 t409 t414 t431 (t416 != t433) t415 t416 t417 t418 t419)) else (agoralaw06_SealWraps.j2 kj22 a2 t409 t414 t431 true t415 t416 t417 t418 t419))))) = some r := H
              have A39 := Aside0.mk A390
              clear A390
              replace H := Option.bind_eq_some_iff.mp H
              obtain ⟨t430, A400, H⟩ := H
              replace H : ((group_Exp.f kj22 t414 (wrap64 (1 + (Int.tmod t430 2305843009213693949)))).bind fun t431 => ((group_Exp.f kj22 t416 a0).bind fun t432 => (if t431 = t432 then ((group_Exp.f kj22 37 (wrap64 (1 + (Int.tmod t430 2305843009213693949)))).bind fun t433 => (agoralaw06_SealWraps.j2 kj22 a2 t409 t414 t431 (t416 != t433) t415 t416 t417 t418 t419)) else (agoralaw06_SealWraps.j2 kj22 a2 t409 t414 t431 true t415 t416 t417 t418 t419)))) = some r := H
              have A40 := Aside0.mk A400
              clear A400
              replace H := Option.bind_eq_some_iff.mp H
              obtain ⟨t431, A410, H⟩ := H
              replace H : ((group_Exp.f kj22 t416 a0).bind fun t432 => (if t431 = t432 then ((group_Exp.f kj22 37 (wrap64 (1 + (Int.tmod t430 2305843009213693949)))).bind fun t433 => (agoralaw06_SealWraps.j2 kj22 a2 t409 t414 t431 (t416 != t433) t415 t416 t417 t418 t419)) else (agoralaw06_SealWraps.j2 kj22 a2 t409 t414 t431 true t415 t416 t417 t418 t419))) = some r := H
              have A41 := Aside0.mk A410
              clear A410
              replace H := Option.bind_eq_some_iff.mp H
              obtain ⟨t432, A420, H⟩ := H
              replace H : (if t431 = t432 then ((group_Exp.f kj22 37 (wrap64 (1 + (Int.tmod t430 2305843009213693949)))).bind fun t433 => (agoralaw06_SealWraps.j2 kj22 a2 t409 t414 t431 (t416 != t433) t415 t416 t417 t418 t419)) else (agoralaw06_SealWraps.j2 kj22 a2 t409 t414 t431 true t415 t416 t417 t418 t419)) = some r := H
              have A42 := Aside0.mk A420
              clear A420
              have HC43 := Aside0.mk H
              clear H
              go_upto_region 12 with (first | ((with_reducible refine gate_callee (f := 22) rfl ?_); refine goesL_ (some 78) rfl rfl Try.func22 (by kernel_rfl) rfl #[.int .i64 t414] rfl (by (try simp only [List.map_toArray, List.map_cons, List.map_nil]); first | done | rfl | (simp only [List.length_drop, List.length_take]; rfl)) ?_; (with_reducible refine (code_Num.calls t414 t424 _ A37.out).mono ?_); rintro e w44 ⟨rfl, hb⟩; refine ⟨_, rfl, ?_⟩; have n0_ := Aside0.mk (blk_below (g := gb421) (o := .cells #[.int .i64 t415, .int .i64 t416, .string t417, .string t418, .string t419] 25 (0, 0)) (by (with_reducible repeat (first | refine blk_drewN ?_ _ | refine blk_drew ?_ | refine blk_alloc ?_ _)); exact BK421.out) hb); have n1_ := Aside0.mk (below_step (by repeat (first | (with_reducible first | exact HB.out | apply below_alloc | apply pw_below_drewN | apply below_drew1 | refine below_set ?_ GE421.out) | exact HB.out)) hb); clear BK421; clear HB; have BK421 := n0_; have HB := n1_; clear n0_ n1_; (try clear hb); (try clear hb2); (try clear hk); (try clear hi)) | ((with_reducible refine gate_dst (N := 79) rfl ?_); refine Kd.R_lit Kd.string _ 9 ?hg (N := 79) ?hd (xs := ([(⟨#[101, 112, 104]⟩ : ByteArray), a1, t424] : List ByteArray)) (inner := [.string (⟨#[101, 112, 104]⟩ : ByteArray), .string a1, .string t424]) (ok := fun _ => True) (okp := fun _ => True) ?hr ?hp (fun _ hk => hk) trivial (Below.refl _ _) (Nat.le_refl _) (by simp) ?_; (case hd => rfl); (case hg => rfl); (case hr => first | (go_simp; done) | (go_simp; rfl) | (go_simp; simp only [IntKind.wrap_u32', Int.emod_add_emod, Int.add_emod_emod])); (case hp => exact (Reps.one (show Kd.M Kd.string _ _ _ (⟨#[101, 112, 104]⟩ : ByteArray) [.string (⟨#[101, 112, 104]⟩ : ByteArray)] from rfl) (Reps.one (show Kd.M Kd.string _ _ _ a1 [.string a1] from rfl) (Reps.one (show Kd.M Kd.string _ _ _ t424 [.string t424] from rfl) (Reps.none _ _))))); intro v426 w45 ho46 hb hg_ hnew_; clear hg_ hnew_; (first | rw [← Ny425.out] at ho46 | (simp only [Int.reduceToNat] at ho46; rw [← Ny425.out] at ho46)); have n0_ := Aside0.mk (Kd.R_lower ho46 (below_size (by repeat (first | (with_reducible first | exact HB.out | apply below_alloc | apply pw_below_drewN | apply below_drew1 | refine below_set ?_ GE421.out) | exact HB.out)))); have n1_ := Aside0.mk (blk_below (g := gb421) (o := .cells #[.int .i64 t415, .int .i64 t416, .string t417, .string t418, .string t419] 25 (0, 0)) (by (with_reducible repeat (first | refine blk_drewN ?_ _ | refine blk_drew ?_ | refine blk_alloc ?_ _)); exact BK421.out) hb); have n2_ := Aside0.mk (below_step (by repeat (first | (with_reducible first | exact HB.out | apply below_alloc | apply pw_below_drewN | apply below_drew1 | refine below_set ?_ GE421.out) | exact HB.out)) hb); clear BK421; clear HB; have HO427 := n0_; have BK421 := n1_; have HB := n2_; clear n0_ n1_ n2_; clear hb ho46; obtain ⟨Ao47, co47, eo47⟩ := Kd.R_slice HO427.out; subst eo47) | ((with_reducible refine gate_callee (f := 21) rfl ?_); refine goesL_ (some 80) rfl rfl Try.func21 (by kernel_rfl) rfl #[.slice Ao47 y425.length co47] rfl (by (try simp only [List.map_toArray, List.map_cons, List.map_nil]); first | done | rfl | (simp only [List.length_drop, List.length_take]; rfl)) ?_; (with_reducible refine (code_List.calls _ _ y425 t428 _ ?side1 ?side2 A38.out).mono ?_); (case side1 => repeat (first | exact (Kd.R_reads' HO427.out).2.2 | (with_reducible refine Kd.C_alloc ?_ _) | (with_reducible refine Kd.C_drewN ?_ _) | (with_reducible refine Kd.C_drew ?_))); (case side2 => exact (Kd.R_reads' HO427.out).2.1); rintro e w48 ⟨rfl, hb⟩; refine ⟨_, rfl, ?_⟩; have n0_ := Aside0.mk (Kd.R_below (by (with_reducible repeat (first | apply Kd.R_alloc | apply Kd.R_drewN | apply Kd.R_drew)); exact HO427.out) hb); have n1_ := Aside0.mk (blk_below (g := gb421) (o := .cells #[.int .i64 t415, .int .i64 t416, .string t417, .string t418, .string t419] 25 (0, 0)) (by (with_reducible repeat (first | refine blk_drewN ?_ _ | refine blk_drew ?_ | refine blk_alloc ?_ _)); exact BK421.out) hb); have n2_ := Aside0.mk (below_step (by repeat (first | (with_reducible first | exact HB.out | apply below_alloc | apply pw_below_drewN | apply below_drew1 | refine below_set ?_ GE421.out) | exact HB.out)) hb); clear HO427; clear BK421; clear HB; have HO427 := n0_; have BK421 := n1_; have HB := n2_; clear n0_ n1_ n2_; (try clear hb); (try clear hb2); (try clear hk); (try clear hi)) | ((with_reducible refine gate_callee (f := 20) rfl ?_); refine goesL_ (some 81) rfl rfl Try.func20 (by kernel_rfl) rfl #[.string t428] rfl (by (try simp only [List.map_toArray, List.map_cons, List.map_nil]); first | done | rfl | (simp only [List.length_drop, List.length_take]; rfl)) ?_; (with_reducible refine (sum_Sha.calls t428 t429 _ A39.out).mono ?_); rintro e w49 ⟨rfl, hb⟩; refine ⟨_, rfl, ?_⟩; have n0_ := Aside0.mk (Kd.R_below (by (with_reducible repeat (first | apply Kd.R_alloc | apply Kd.R_drewN | apply Kd.R_drew)); exact HO427.out) hb); have n1_ := Aside0.mk (blk_below (g := gb421) (o := .cells #[.int .i64 t415, .int .i64 t416, .string t417, .string t418, .string t419] 25 (0, 0)) (by (with_reducible repeat (first | refine blk_drewN ?_ _ | refine blk_drew ?_ | refine blk_alloc ?_ _)); exact BK421.out) hb); have n2_ := Aside0.mk (below_step (by repeat (first | (with_reducible first | exact HB.out | apply below_alloc | apply pw_below_drewN | apply below_drew1 | refine below_set ?_ GE421.out) | exact HB.out)) hb); clear HO427; clear BK421; clear HB; have HO427 := n0_; have BK421 := n1_; have HB := n2_; clear n0_ n1_ n2_; (try clear hb); (try clear hb2); (try clear hk); (try clear hi)) | ((with_reducible refine gate_callee (f := 19) rfl ?_); refine goesL_ (some 82) rfl rfl Try.func19 (by kernel_rfl) rfl #[.string t429] rfl (by (try simp only [List.map_toArray, List.map_cons, List.map_nil]); first | done | rfl | (simp only [List.length_drop, List.length_take]; rfl)) ?_; (with_reducible refine (sum_Num.calls kj22 t429 t430 _ A40.out).mono ?_); rintro e w' ⟨rfl, ⟨nd, rfl⟩⟩; refine ⟨_, rfl, ?_⟩) | ((with_reducible refine gate_callee (f := 18) rfl ?_); refine goesL_ (some 87) rfl rfl Try.func18 (by kernel_rfl) rfl #[.int .i64 t414, .int .i64 (wrap64 (1 + (Int.tmod t430 2305843009213693949)))] rfl (by (try simp only [List.map_toArray, List.map_cons, List.map_nil]); first | done | rfl | (simp only [List.length_drop, List.length_take]; rfl)) ?_; (with_reducible refine (group_Exp.calls kj22 t414 (wrap64 (1 + (Int.tmod t430 2305843009213693949))) t431 _ A41.out).mono ?_); rintro e w' ⟨rfl, ⟨nd, rfl⟩⟩; refine ⟨_, rfl, ?_⟩; have hcz50_0 : w49.cell? ⟨gb421, 0, none⟩ = some (.int .i64 t415) := (blk_cell BK421.out 0).trans rfl; have hcz50_1 : w49.cell? ⟨gb421, 1, none⟩ = some (.int .i64 t416) := (blk_cell BK421.out 1).trans rfl; have hcz50_2 : w49.cell? ⟨gb421, 2, none⟩ = some (.string t417) := (blk_cell BK421.out 2).trans rfl; have hcz50_3 : w49.cell? ⟨gb421, 3, none⟩ = some (.string t418) := (blk_cell BK421.out 3).trans rfl; have hcz50_4 : w49.cell? ⟨gb421, 4, none⟩ = some (.string t419) := (blk_cell BK421.out 4).trans rfl; have hfz50_0 := blk_frozen BK421.out 0; have hfz50_1 := blk_frozen BK421.out 1; have hfz50_2 := blk_frozen BK421.out 2; have hfz50_3 := blk_frozen BK421.out 3; have hfz50_4 := blk_frozen BK421.out 4) | ((with_reducible refine gate_callee (f := 18) rfl ?_); refine goesL_ (some 91) rfl rfl Try.func18 (by kernel_rfl) rfl #[.int .i64 t416, .int .i64 a0] rfl (by (try simp only [List.map_toArray, List.map_cons, List.map_nil]); first | done | rfl | (simp only [List.length_drop, List.length_take]; rfl)) ?_; (with_reducible refine (group_Exp.calls kj22 t416 a0 t432 _ A42.out).mono ?_); rintro e w' ⟨rfl, ⟨nd, rfl⟩⟩; refine ⟨_, rfl, ?_⟩))
              (try simp only [Act.put, List.setIfInBounds_toArray, List.set_cons_zero, List.set_cons_succ])
              go_cut [101] (fun v101 wc => ∃ (kq : Nat) (x101_42 : Bool), v101 = .bool x101_42 ∧ Aside0 (agoralaw06_SealWraps.j2 kq a2 t409 t414 t431 x101_42 t415 t416 t417 t418 t419 = some r) ∧ Aside0 (kq ≤ kj22) ∧ Aside0 (wc.heap[gb421]? = some (.cells #[.int .i64 t415, .int .i64 t416, .string t417, .string t418, .string t419] 25 (0, 0))) ∧ Aside0 (Below w.heap.size w wc))
              case first =>
                have H := HC43.out
                clear HC43
                by_cases c51 : t431 = t432
                · rw [if_pos c51] at H
                  have c51b0 : (t431 == t432) = true := beq_iff_eq.mpr c51
                  have c51b1 : (t431 != t432) = false := bne_eq_false_iff_eq.mpr c51
                  clear c51
                  (first | rw [c51b0] | (simp only [i64_w, i32_w]; rw [c51b0]) | skip)
                  replace H := Option.bind_eq_some_iff.mp H
                  obtain ⟨t433, A520, H⟩ := H
                  replace H : (agoralaw06_SealWraps.j2 kj22 a2 t409 t414 t431 (t416 != t433) t415 t416 t417 t418 t419) = some r := H
                  have A52 := Aside0.mk A520
                  clear A520
                  have H' := Aside0.mk H
                  clear H
                  try go_wp2
                  have n0_ := Aside0.mk (Kd.R_drew HO427.out)
                  have n1_ := Aside0.mk (blk_drew BK421.out)

                  clear HO427
                  clear BK421

                  have HO427 := n0_
                  have BK421 := n1_

                  clear n0_ n1_
                  refine start_ (n := 10) (S := fun w' => w'.cell? ⟨gb421, 0, none⟩ = some (.int .i64 t415) ∧ w'.cell? ⟨gb421, 1, none⟩ = some (.int .i64 t416) ∧ w'.cell? ⟨gb421, 2, none⟩ = some (.string t417) ∧ w'.cell? ⟨gb421, 3, none⟩ = some (.string t418) ∧ w'.cell? ⟨gb421, 4, none⟩ = some (.string t419)) (ds := []) #[false, false, false, false, false, false, false, false, false, false] (by kernel_rfl) rfl rfl ⟨(blk_cell BK421.out 0).trans rfl, (blk_cell BK421.out 1).trans rfl, (blk_cell BK421.out 2).trans rfl, (blk_cell BK421.out 3).trans rfl, (blk_cell BK421.out 4).trans rfl⟩ (fun hHeld => ?_); refine with_tabW agoralaw06_SealWraps.tab12 agoralaw06_SealWraps.bits12 (fun HT_ HW_ => ?_)
                  refine pure_ (i := 0) (N := some 92) (v := ?_) (a' := ?_) #[true, false, false, false, false, false, false, false, false, false] rfl rfl (any_of HT_.out (by kernel_rfl)) (fun _ _ _ h => h) (Or.inl ⟨by rfl, ?_⟩) ?_ ?_
                  rotate_left
                  · intro w'
                    go_simp
                    with_reducible rfl
                  rotate_left
                  · simp only [Act.put, List.setIfInBounds_toArray, List.set_cons_zero, List.set_cons_succ, i64_w, i32_w]
                    rfl
                  refine pure_ (i := 1) (N := some 93) (v := ?_) (a' := ?_) #[true, true, false, false, false, false, false, false, false, false] rfl rfl (any_of HT_.out (by kernel_rfl)) (fun _ _ _ h => h) (Or.inl ⟨by rfl, ?_⟩) ?_ ?_
                  rotate_left
                  · intro w'
                    go_simp
                    with_reducible rfl
                  rotate_left
                  · simp only [Act.put, List.setIfInBounds_toArray, List.set_cons_zero, List.set_cons_succ, i64_w, i32_w]
                    rfl
                  refine pure_ (i := 2) (N := some 94) (v := ?_) (a' := ?_) #[true, true, true, false, false, false, false, false, false, false] rfl rfl (any_of HT_.out (by kernel_rfl)) (fun _ _ _ h => h) (Or.inl ⟨by rfl, ?_⟩) ?_ ?_
                  rotate_left
                  · intro w'
                    go_simp
                    with_reducible rfl
                  rotate_left
                  · simp only [Act.put, List.setIfInBounds_toArray, List.set_cons_zero, List.set_cons_succ, i64_w, i32_w]
                    rfl
                  refine pure_ (i := 3) (N := some 95) (v := ?_) (a' := ?_) #[true, true, true, true, false, false, false, false, false, false] rfl rfl (any_of HT_.out (by kernel_rfl)) (fun _ _ _ h => h) (Or.inl ⟨by rfl, ?_⟩) ?_ ?_
                  rotate_left
                  · intro w'
                    go_simp
                    with_reducible rfl
                  rotate_left
                  · simp only [Act.put, List.setIfInBounds_toArray, List.set_cons_zero, List.set_cons_succ, i64_w, i32_w]
                    rfl
                  refine pure_ (i := 4) (N := some 96) (v := ?_) (a' := ?_) #[true, true, true, true, true, false, false, false, false, false] rfl rfl (any_of HT_.out (by kernel_rfl)) (fun _ _ _ h => h) (Or.inl ⟨by rfl, ?_⟩) ?_ ?_
                  rotate_left
                  · intro w'
                    go_simp
                    with_reducible rfl
                  rotate_left
                  · simp only [Act.put, List.setIfInBounds_toArray, List.set_cons_zero, List.set_cons_succ, i64_w, i32_w]
                    rfl
                  refine pure_ (i := 6) (N := some 98) (v := ?_) (a' := ?_) #[true, true, true, true, true, false, true, false, false, false] rfl rfl (any_of HT_.out (by kernel_rfl)) (fun _ _ _ h => h) (Or.inl ⟨by rfl, ?_⟩) ?_ ?_
                  rotate_left
                  · intro w'
                    go_simp
                    with_reducible rfl
                  rotate_left
                  · simp only [Act.put, List.setIfInBounds_toArray, List.set_cons_zero, List.set_cons_succ, i64_w, i32_w]
                    rfl
                  refine take_ (i := 5) (N := some 97) (v := ?_) (a' := ?_) #[true, true, true, true, true, true, true, false, false, false] rfl rfl (take_ofW HT_.out HW_.out (by kernel_rfl)) (fun _ _ _ h => h) (Or.inl ⟨by rfl, ?_⟩) hHeld ?_ ?_
                  rotate_left
                  · rintro w' ⟨s0, s1, s2, s3, s4⟩
                    go_simp
                    with_reducible rfl
                  rotate_left
                  · simp only [Act.put, List.setIfInBounds_toArray, List.set_cons_zero, List.set_cons_succ, i64_w, i32_w]
                    rfl
                  refine one_ (i := 7) (N := some 99) #[true, true, true, true, true, true, true, true, false, false] rfl rfl (one_of HT_.out (by kernel_rfl)) (by decide) (fun K hK => ?_)
                  refine goes_ Try.func18 (by kernel_rfl) rfl #[.int .i64 37, .int .i64 (wrap64 (1 + (Int.tmod t430 2305843009213693949)))] (by rfl) rfl rfl (by (try simp only [List.map_toArray, List.map_cons, List.map_nil]); first | done | rfl | (simp only [List.length_drop, List.length_take]; rfl)) ?_
                  with_reducible refine (group_Exp.calls kj22 37 (wrap64 (1 + (Int.tmod t430 2305843009213693949))) t433 _ A52.out).mono ?_
                  rintro e w' ⟨rfl, ⟨nd, rfl⟩⟩
                  refine ⟨_, rfl, ?_⟩
                  refine hK.out _ _ ⟨(blk_cell BK421.out 0).trans rfl, (blk_cell BK421.out 1).trans rfl, (blk_cell BK421.out 2).trans rfl, (blk_cell BK421.out 3).trans rfl, (blk_cell BK421.out 4).trans rfl⟩ (fun hHeld => ?_)
                  clear hK K
                  refine norm_ (a' := ?_) ?_ ?_
                  rotate_left
                  · show Act.put _ (some 99) _ = _
                    simp only [Act.put, List.setIfInBounds_toArray, List.set_cons_zero, List.set_cons_succ, i64_w, i32_w]
                    rfl
                  refine pure_ (i := 8) (N := some 100) (v := ?_) (a' := ?_) #[true, true, true, true, true, true, true, true, true, false] rfl rfl (any_of HT_.out (by kernel_rfl)) (fun _ _ _ h => h) (Or.inl ⟨by rfl, ?_⟩) ?_ ?_
                  rotate_left
                  · intro w'
                    go_simp
                    with_reducible rfl
                  rotate_left
                  · simp only [Act.put, List.setIfInBounds_toArray, List.set_cons_zero, List.set_cons_succ, i64_w, i32_w]
                    rfl
                  refine pure_ (i := 9) (N := some 101) (v := ?_) (a' := ?_) #[true, true, true, true, true, true, true, true, true, true] rfl rfl (any_of HT_.out (by kernel_rfl)) (fun _ _ _ h => h) (Or.inl ⟨by rfl, ?_⟩) ?_ ?_
                  rotate_left
                  · intro w'
                    go_simp
                    with_reducible rfl
                  rotate_left
                  · simp only [Act.put, List.setIfInBounds_toArray, List.set_cons_zero, List.set_cons_succ, i64_w, i32_w]
                    rfl
                  refine done_ (done_of HT_.out (by kernel_rfl)) ?_
                  try go_wp2
                  go_meet
                  case rel => exact ⟨_, ((t416 != t433)), (by first | rfl | (simp; done) | (simp [*]; done)), H', ⟨by have := HJ4.out; have := HJ22.out; first | omega | exact Nat.le_refl _⟩, ⟨by (with_reducible repeat (first | refine blk_drewN ?_ _ | refine blk_drew ?_ | refine blk_alloc ?_ _)); exact BK421.out⟩, ⟨by repeat (first | (with_reducible first | exact HB.out | apply below_alloc | apply pw_below_drewN | apply below_drew1 | refine below_set ?_ GE421.out) | exact HB.out)⟩⟩
                · rw [if_neg c51] at H
                  have c51b0 : (t431 == t432) = false := beq_eq_false_iff_ne.mpr c51
                  have c51b1 : (t431 != t432) = true := bne_iff_ne.mpr c51
                  (first | rw [c51b0] | (simp only [i64_w, i32_w]; rw [c51b0]) | skip)
                  have H' := Aside0.mk H
                  clear H
                  try go_wp2
                  have n0_ := Aside0.mk (Kd.R_drew HO427.out)
                  have n1_ := Aside0.mk (blk_drew BK421.out)

                  clear HO427
                  clear BK421

                  have HO427 := n0_
                  have BK421 := n1_

                  clear n0_ n1_
                  refine start_ (n := 10) (S := fun w' => True) (ds := []) #[false, false, false, false, false, false, false, false, false, false] (by kernel_rfl) rfl rfl trivial (fun hHeld => ?_); refine with_tabW agoralaw06_SealWraps.tab12 agoralaw06_SealWraps.bits12 (fun HT_ HW_ => ?_)
                  refine pure_ (i := 0) (N := some 92) (v := ?_) (a' := ?_) #[true, false, false, false, false, false, false, false, false, false] rfl rfl (any_of HT_.out (by kernel_rfl)) (fun _ _ _ h => h) (Or.inl ⟨by rfl, ?_⟩) ?_ ?_
                  rotate_left
                  · intro w'
                    go_simp
                    with_reducible rfl
                  rotate_left
                  · simp only [Act.put, List.setIfInBounds_toArray, List.set_cons_zero, List.set_cons_succ, i64_w, i32_w]
                    rfl
                  refine pure_ (i := 1) (N := some 93) (v := ?_) (a' := ?_) #[true, true, false, false, false, false, false, false, false, false] rfl rfl (any_of HT_.out (by kernel_rfl)) (fun _ _ _ h => h) (Or.inl ⟨by rfl, ?_⟩) ?_ ?_
                  rotate_left
                  · intro w'
                    go_simp
                    with_reducible rfl
                  rotate_left
                  · simp only [Act.put, List.setIfInBounds_toArray, List.set_cons_zero, List.set_cons_succ, i64_w, i32_w]
                    rfl
                  refine pure_ (i := 2) (N := some 94) (v := ?_) (a' := ?_) #[true, true, true, false, false, false, false, false, false, false] rfl rfl (any_of HT_.out (by kernel_rfl)) (fun _ _ _ h => h) (Or.inl ⟨by rfl, ?_⟩) ?_ ?_
                  rotate_left
                  · intro w'
                    go_simp
                    with_reducible rfl
                  rotate_left
                  · simp only [Act.put, List.setIfInBounds_toArray, List.set_cons_zero, List.set_cons_succ, i64_w, i32_w]
                    rfl
                  refine pure_ (i := 3) (N := some 95) (v := ?_) (a' := ?_) #[true, true, true, true, false, false, false, false, false, false] rfl rfl (any_of HT_.out (by kernel_rfl)) (fun _ _ _ h => h) (Or.inl ⟨by rfl, ?_⟩) ?_ ?_
                  rotate_left
                  · intro w'
                    go_simp
                    with_reducible rfl
                  rotate_left
                  · simp only [Act.put, List.setIfInBounds_toArray, List.set_cons_zero, List.set_cons_succ, i64_w, i32_w]
                    rfl
                  refine pure_ (i := 4) (N := some 96) (v := undef) (a' := ?_) #[true, true, true, true, true, false, false, false, false, false] rfl rfl (any_of HT_.out (by kernel_rfl)) (fun _ _ _ h => h) (Or.inr ⟨by rfl, rfl⟩) ?_ ?_
                  rotate_left
                  · simp only [Act.put, List.setIfInBounds_toArray, List.set_cons_zero, List.set_cons_succ, i64_w, i32_w]
                    rfl
                  refine pure_ (i := 5) (N := some 97) (v := undef) (a' := ?_) #[true, true, true, true, true, true, false, false, false, false] rfl rfl (any_of HT_.out (by kernel_rfl)) (fun _ _ _ h => h) (Or.inr ⟨by rfl, rfl⟩) ?_ ?_
                  rotate_left
                  · simp only [Act.put, List.setIfInBounds_toArray, List.set_cons_zero, List.set_cons_succ, i64_w, i32_w]
                    rfl
                  refine pure_ (i := 6) (N := some 98) (v := undef) (a' := ?_) #[true, true, true, true, true, true, true, false, false, false] rfl rfl (any_of HT_.out (by kernel_rfl)) (fun _ _ _ h => h) (Or.inr ⟨by rfl, rfl⟩) ?_ ?_
                  rotate_left
                  · simp only [Act.put, List.setIfInBounds_toArray, List.set_cons_zero, List.set_cons_succ, i64_w, i32_w]
                    rfl
                  refine pure_ (i := 7) (N := some 99) (v := undef) (a' := ?_) #[true, true, true, true, true, true, true, true, false, false] rfl rfl (any_of HT_.out (by kernel_rfl)) (fun _ _ _ h => h) (Or.inr ⟨by rfl, rfl⟩) ?_ ?_
                  rotate_left
                  · simp only [Act.put, List.setIfInBounds_toArray, List.set_cons_zero, List.set_cons_succ, i64_w, i32_w]
                    rfl
                  refine pure_ (i := 8) (N := some 100) (v := undef) (a' := ?_) #[true, true, true, true, true, true, true, true, true, false] rfl rfl (any_of HT_.out (by kernel_rfl)) (fun _ _ _ h => h) (Or.inr ⟨by rfl, rfl⟩) ?_ ?_
                  rotate_left
                  · simp only [Act.put, List.setIfInBounds_toArray, List.set_cons_zero, List.set_cons_succ, i64_w, i32_w]
                    rfl
                  refine pure_ (i := 9) (N := some 101) (v := ?_) (a' := ?_) #[true, true, true, true, true, true, true, true, true, true] rfl rfl (any_of HT_.out (by kernel_rfl)) (fun _ _ _ h => h) (Or.inl ⟨by rfl, ?_⟩) ?_ ?_
                  rotate_left
                  · intro w'
                    go_simp
                    with_reducible rfl
                  rotate_left
                  · simp only [Act.put, List.setIfInBounds_toArray, List.set_cons_zero, List.set_cons_succ, i64_w, i32_w]
                    rfl
                  refine done_ (done_of HT_.out (by kernel_rfl)) ?_
                  try go_wp2
                  go_meet
                  case rel => exact ⟨_, (true), (by first | rfl | (simp; done) | (simp [*]; done)), H', ⟨by have := HJ4.out; have := HJ22.out; first | omega | exact Nat.le_refl _⟩, ⟨by (with_reducible repeat (first | refine blk_drewN ?_ _ | refine blk_drew ?_ | refine blk_alloc ?_ _)); exact BK421.out⟩, ⟨by repeat (first | (with_reducible first | exact HB.out | apply below_alloc | apply pw_below_drewN | apply below_drew1 | refine below_set ?_ GE421.out) | exact HB.out)⟩⟩
              case rest =>
                clear HC43
                try clear c1
                try clear c2
                try clear p2
                try clear c3
                try clear c5
                try clear c6
                try clear p6
                try clear c8
                try clear c9
                try clear c9b0
                try clear c12
                try clear c14
                try clear c18
                try clear c19
                try clear c20
                try clear c21
                try clear c22
                try clear c28
                try clear c29
                try clear c30
                try clear c30b0
                try clear c30b1
                try clear c31
                try clear c31b0
                try clear c31b1
                try clear c32
                try clear c32b0
                try clear c36
                try clear c51
                try clear c51b0
                try clear c51b1
                try clear hcz26_0
                try clear hcz26_1
                try clear hcz26_2
                try clear hcz26_3
                try clear hcz26_4
                try clear hcz33_0
                try clear hcz33_1
                try clear hcz33_2
                try clear hcz33_3
                try clear hcz33_4
                try clear hcz34_0
                try clear hcz34_1
                try clear hcz34_2
                try clear hcz34_3
                try clear hcz34_4
                try clear hcz35_0
                try clear hcz35_1
                try clear hcz35_2
                try clear hcz35_3
                try clear hcz35_4
                try clear hcz50_0
                try clear hcz50_1
                try clear hcz50_2
                try clear hcz50_3
                try clear hcz50_4
                try clear hfz26_0
                try clear hfz26_1
                try clear hfz26_2
                try clear hfz26_3
                try clear hfz26_4
                try clear hfz33_0
                try clear hfz33_1
                try clear hfz33_2
                try clear hfz33_3
                try clear hfz33_4
                try clear hfz34_0
                try clear hfz34_1
                try clear hfz34_2
                try clear hfz34_3
                try clear hfz34_4
                try clear hfz35_0
                try clear hfz35_1
                try clear hfz35_2
                try clear hfz35_3
                try clear hfz35_4
                try clear hfz50_0
                try clear hfz50_1
                try clear hfz50_2
                try clear hfz50_3
                try clear hfz50_4
                try clear p2
                obtain ⟨kq, x101_42, rfl, HA, HJ42, BK421, HB⟩ := hcut
                cases kq with
                | zero => exact absurd HA.out (by simp [agoralaw06_SealWraps.j2])
                | succ kj42 =>
                  have H := HA.out
                  clear HA
                  simp only [agoralaw06_SealWraps.j2] at H
                  by_cases c55 : x101_42 = true
                  · subst c55
                    have H1 : (none) = some r := by rw [if_pos rfl] at H; exact H
                    clear H
                    have H := H1
                    clear H1
                    exact absurd H (by simp)
                  · replace c55 := Bool.eq_false_iff.mpr c55
                    subst c55
                    have H1 : ((code_Num.f t414).bind fun t434 => ((code_Num.f t416).bind fun t435 => ((code_Num.f t431).bind fun t436 => ((code_List.f (([(⟨#[119, 114, 97, 112]⟩ : ByteArray), t434, t435, t436] : List ByteArray))).bind fun t440 => ((sum_Sha.f t440).bind fun t441 => ((seal_Open.f t441 t417 t418 t419).bind fun bt442 => (if t409 = true then (if bt442.2 = true then (some (bt442.1.toList == a2.toList)) else (none)) else (none)))))))) = some r := by rw [if_neg (show ¬ (false = true) by decide)] at H; exact H
                    clear H
                    have H := H1
                    clear H1
                    replace H := Option.bind_eq_some_iff.mp H
                    obtain ⟨t434, A560, H⟩ := H
                    replace H : ((code_Num.f t416).bind fun t435 => ((code_Num.f t431).bind fun t436 => ((code_List.f (([(⟨#[119, 114, 97, 112]⟩ : ByteArray), t434, t435, t436] : List ByteArray))).bind fun t440 => ((sum_Sha.f t440).bind fun t441 => ((seal_Open.f t441 t417 t418 t419).bind fun bt442 => (if t409 = true then (if bt442.2 = true then (some (bt442.1.toList == a2.toList)) else (none)) else (none))))))) = some r := H
                    have A56 := Aside0.mk A560
                    clear A560
                    replace H := Option.bind_eq_some_iff.mp H
                    obtain ⟨t435, A570, H⟩ := H
                    replace H : ((code_Num.f t431).bind fun t436 => ((code_List.f (([(⟨#[119, 114, 97, 112]⟩ : ByteArray), t434, t435, t436] : List ByteArray))).bind fun t440 => ((sum_Sha.f t440).bind fun t441 => ((seal_Open.f t441 t417 t418 t419).bind fun bt442 => (if t409 = true then (if bt442.2 = true then (some (bt442.1.toList == a2.toList)) else (none)) else (none)))))) = some r := H
                    have A57 := Aside0.mk A570
                    clear A570
                    replace H := Option.bind_eq_some_iff.mp H
                    obtain ⟨t436, A580, H⟩ := H
                    replace H : ((code_List.f (([(⟨#[119, 114, 97, 112]⟩ : ByteArray), t434, t435, t436] : List ByteArray))).bind fun t440 => ((sum_Sha.f t440).bind fun t441 => ((seal_Open.f t441 t417 t418 t419).bind fun bt442 => (if t409 = true then (if bt442.2 = true then (some (bt442.1.toList == a2.toList)) else (none)) else (none))))) = some r := H
                    have A58 := Aside0.mk A580
                    clear A580
                    obtain ⟨y437, hy437⟩ : ∃ y_ : List ByteArray, y_ = (([(⟨#[119, 114, 97, 112]⟩ : ByteArray), t434, t435, t436] : List ByteArray)) := ⟨_, rfl⟩
                    replace H : ((code_List.f y437).bind fun t440 => ((sum_Sha.f t440).bind fun t441 => ((seal_Open.f t441 t417 t418 t419).bind fun bt442 => (if t409 = true then (if bt442.2 = true then (some (bt442.1.toList == a2.toList)) else (none)) else (none))))) = some r := by first | (rw [hy437]; with_reducible exact H) | (have H2_ := (Option.bind_some _ _).symm.trans H; rw [hy437]; with_reducible exact H2_) | (have H2_ := (Option.bind_some _ _).symm.trans H; with_reducible exact H2_) | with_reducible exact H | (rw [hy437]; exact H) | exact H
                    have Ny437 := Aside0.mk hy437
                    clear hy437
                    replace H := Option.bind_eq_some_iff.mp H
                    obtain ⟨t440, A590, H⟩ := H
                    replace H : ((sum_Sha.f t440).bind fun t441 => ((seal_Open.f t441 t417 t418 t419).bind fun bt442 => (if t409 = true then (if bt442.2 = true then (some (bt442.1.toList == a2.toList)) else (none)) else (none)))) = some r := H
                    have A59 := Aside0.mk A590
                    clear A590
                    replace H := Option.bind_eq_some_iff.mp H
                    obtain ⟨t441, A600, H⟩ := H
                    replace H : ((seal_Open.f t441 t417 t418 t419).bind fun bt442 => (if t409 = true then (if bt442.2 = true then (some (bt442.1.toList == a2.toList)) else (none)) else (none))) = some r := H
                    have A60 := Aside0.mk A600
                    clear A600
                    replace H := Option.bind_eq_some_iff.mp H
                    obtain ⟨⟨t442, t443⟩, A610, H⟩ := H
                    replace H : (if t409 = true then (if t443 = true then (some (t442.toList == a2.toList)) else (none)) else (none)) = some r := H
                    have A61 := Aside0.mk A610
                    clear A610
                    by_cases c62 : t409 = true
                    · subst c62
                      have H1 : (if t443 = true then (some (t442.toList == a2.toList)) else (none)) = some r := by rw [if_pos rfl] at H; exact H
                      clear H
                      have H := H1
                      clear H1
                      by_cases c63 : t443 = true
                      · subst c63
                        have H1 : (some (t442.toList == a2.toList)) = some r := by rw [if_pos rfl] at H; exact H
                        clear H
                        have H := H1
                        clear H1
                        obtain rfl := Option.some.inj H
                        try go_wp2
                        have n0_ := Aside0.mk (blk_drew BK421.out)
                        have n1_ := Aside0.mk (below_drew1 HB.out)
                        clear BK421
                        clear HB
                        have BK421 := n0_
                        have HB := n1_
                        clear n0_ n1_
                        refine start_ (n := 11) (S := fun w' => w'.cell? ⟨gb421, 0, none⟩ = some (.int .i64 t415) ∧ w'.cell? ⟨gb421, 1, none⟩ = some (.int .i64 t416) ∧ w'.cell? ⟨gb421, 2, none⟩ = some (.string t417) ∧ w'.cell? ⟨gb421, 3, none⟩ = some (.string t418) ∧ w'.cell? ⟨gb421, 4, none⟩ = some (.string t419)) (ds := []) #[false, false, false, false, false, false, false, false, false, false, false] (by kernel_rfl) rfl rfl ⟨(blk_cell BK421.out 0).trans rfl, (blk_cell BK421.out 1).trans rfl, (blk_cell BK421.out 2).trans rfl, (blk_cell BK421.out 3).trans rfl, (blk_cell BK421.out 4).trans rfl⟩ (fun hHeld => ?_); refine with_tabW agoralaw06_SealWraps.tab14 agoralaw06_SealWraps.bits14 (fun HT_ HW_ => ?_)
                        generalize wc.drew = w64 at BK421 HB hHeld ⊢
                        refine pure_ (i := 0) (N := some 102) (v := ?_) (a' := ?_) #[true, false, false, false, false, false, false, false, false, false, false] rfl rfl (any_of HT_.out (by kernel_rfl)) (fun _ _ _ h => h) (Or.inl ⟨by rfl, ?_⟩) ?_ ?_
                        rotate_left
                        · intro w'
                          go_simp
                          with_reducible rfl
                        rotate_left
                        · simp only [Act.put, List.setIfInBounds_toArray, List.set_cons_zero, List.set_cons_succ, i64_w, i32_w]
                          rfl
                        refine pure_ (i := 2) (N := some 104) (v := ?_) (a' := ?_) #[true, false, true, false, false, false, false, false, false, false, false] rfl rfl (any_of HT_.out (by kernel_rfl)) (fun _ _ _ h => h) (Or.inl ⟨by rfl, ?_⟩) ?_ ?_
                        rotate_left
                        · intro w'
                          go_simp
                          with_reducible rfl
                        rotate_left
                        · simp only [Act.put, List.setIfInBounds_toArray, List.set_cons_zero, List.set_cons_succ, i64_w, i32_w]
                          rfl
                        refine pure_ (i := 5) (N := some 107) (v := ?_) (a' := ?_) #[true, false, true, false, false, true, false, false, false, false, false] rfl rfl (any_of HT_.out (by kernel_rfl)) (fun _ _ _ h => h) (Or.inl ⟨by rfl, ?_⟩) ?_ ?_
                        rotate_left
                        · intro w'
                          go_simp
                          with_reducible rfl
                        rotate_left
                        · simp only [Act.put, List.setIfInBounds_toArray, List.set_cons_zero, List.set_cons_succ, i64_w, i32_w]
                          rfl
                        refine take_ (i := 3) (N := some 105) (v := ?_) (a' := ?_) #[true, false, true, true, false, true, false, false, false, false, false] rfl rfl (take_ofW HT_.out HW_.out (by kernel_rfl)) (fun _ _ _ h => h) (Or.inl ⟨by rfl, ?_⟩) hHeld ?_ ?_
                        rotate_left
                        · rintro w' ⟨s0, s1, s2, s3, s4⟩
                          go_simp
                          with_reducible rfl
                        rotate_left
                        · simp only [Act.put, List.setIfInBounds_toArray, List.set_cons_zero, List.set_cons_succ, i64_w, i32_w]
                          rfl
                        refine one_ (i := 1) (N := some 103) #[true, true, true, true, false, true, false, false, false, false, false] rfl rfl (one_of HT_.out (by kernel_rfl)) (by decide) (fun K hK => ?_)
                        refine goes_ Try.func22 (by kernel_rfl) rfl #[.int .i64 t414] (by rfl) rfl rfl (by (try simp only [List.map_toArray, List.map_cons, List.map_nil]); first | done | rfl | (simp only [List.length_drop, List.length_take]; rfl)) ?_
                        with_reducible refine (code_Num.calls t414 t434 _ A56.out).mono ?_
                        rintro e w65 ⟨rfl, hb⟩
                        refine ⟨_, rfl, ?_⟩
                        have n0_ := Aside0.mk (blk_below (g := gb421) (o := .cells #[.int .i64 t415, .int .i64 t416, .string t417, .string t418, .string t419] 25 (0, 0)) (by (with_reducible repeat (first | refine blk_drewN ?_ _ | refine blk_drew ?_ | refine blk_alloc ?_ _)); exact BK421.out) hb)
                        have n1_ := Aside0.mk (below_step (by repeat (first | (with_reducible first | exact HB.out | apply below_alloc | apply pw_below_drewN | apply below_drew1 | refine below_set ?_ GE421.out) | exact HB.out)) hb)
                        clear BK421
                        clear HB
                        have BK421 := n0_
                        have HB := n1_
                        clear n0_ n1_
                        (try clear hb)
                        (try clear hb2)
                        (try clear hk)
                        (try clear hi)
                        refine hK.out _ _ ⟨(blk_cell BK421.out 0).trans rfl, (blk_cell BK421.out 1).trans rfl, (blk_cell BK421.out 2).trans rfl, (blk_cell BK421.out 3).trans rfl, (blk_cell BK421.out 4).trans rfl⟩ (fun hHeld => ?_)
                        clear hK K
                        refine norm_ (a' := ?_) ?_ ?_
                        rotate_left
                        · show Act.put _ (some 103) _ = _
                          simp only [Act.put, List.setIfInBounds_toArray, List.set_cons_zero, List.set_cons_succ, i64_w, i32_w]
                          rfl
                        refine one_ (i := 4) (N := some 106) #[true, true, true, true, true, true, false, false, false, false, false] rfl rfl (one_of HT_.out (by kernel_rfl)) (by decide) (fun K hK => ?_)
                        refine goes_ Try.func22 (by kernel_rfl) rfl #[.int .i64 t416] (by rfl) rfl rfl (by (try simp only [List.map_toArray, List.map_cons, List.map_nil]); first | done | rfl | (simp only [List.length_drop, List.length_take]; rfl)) ?_
                        with_reducible refine (code_Num.calls t416 t435 _ A57.out).mono ?_
                        rintro e w66 ⟨rfl, hb⟩
                        refine ⟨_, rfl, ?_⟩
                        have n0_ := Aside0.mk (blk_below (g := gb421) (o := .cells #[.int .i64 t415, .int .i64 t416, .string t417, .string t418, .string t419] 25 (0, 0)) (by (with_reducible repeat (first | refine blk_drewN ?_ _ | refine blk_drew ?_ | refine blk_alloc ?_ _)); exact BK421.out) hb)
                        have n1_ := Aside0.mk (below_step (by repeat (first | (with_reducible first | exact HB.out | apply below_alloc | apply pw_below_drewN | apply below_drew1 | refine below_set ?_ GE421.out) | exact HB.out)) hb)
                        clear BK421
                        clear HB
                        have BK421 := n0_
                        have HB := n1_
                        clear n0_ n1_
                        (try clear hb)
                        (try clear hb2)
                        (try clear hk)
                        (try clear hi)
                        refine hK.out _ _ ⟨(blk_cell BK421.out 0).trans rfl, (blk_cell BK421.out 1).trans rfl, (blk_cell BK421.out 2).trans rfl, (blk_cell BK421.out 3).trans rfl, (blk_cell BK421.out 4).trans rfl⟩ (fun hHeld => ?_)
                        clear hK K
                        refine norm_ (a' := ?_) ?_ ?_
                        rotate_left
                        · show Act.put _ (some 106) _ = _
                          simp only [Act.put, List.setIfInBounds_toArray, List.set_cons_zero, List.set_cons_succ, i64_w, i32_w]
                          rfl
                        refine one_ (i := 6) (N := some 108) #[true, true, true, true, true, true, true, false, false, false, false] rfl rfl (one_of HT_.out (by kernel_rfl)) (by decide) (fun K hK => ?_)
                        refine goes_ Try.func22 (by kernel_rfl) rfl #[.int .i64 t431] (by rfl) rfl rfl (by (try simp only [List.map_toArray, List.map_cons, List.map_nil]); first | done | rfl | (simp only [List.length_drop, List.length_take]; rfl)) ?_
                        with_reducible refine (code_Num.calls t431 t436 _ A58.out).mono ?_
                        rintro e w67 ⟨rfl, hb⟩
                        refine ⟨_, rfl, ?_⟩
                        have n0_ := Aside0.mk (blk_below (g := gb421) (o := .cells #[.int .i64 t415, .int .i64 t416, .string t417, .string t418, .string t419] 25 (0, 0)) (by (with_reducible repeat (first | refine blk_drewN ?_ _ | refine blk_drew ?_ | refine blk_alloc ?_ _)); exact BK421.out) hb)
                        have n1_ := Aside0.mk (below_step (by repeat (first | (with_reducible first | exact HB.out | apply below_alloc | apply pw_below_drewN | apply below_drew1 | refine below_set ?_ GE421.out) | exact HB.out)) hb)
                        clear BK421
                        clear HB
                        have BK421 := n0_
                        have HB := n1_
                        clear n0_ n1_
                        (try clear hb)
                        (try clear hb2)
                        (try clear hk)
                        (try clear hi)
                        refine hK.out _ _ ⟨(blk_cell BK421.out 0).trans rfl, (blk_cell BK421.out 1).trans rfl, (blk_cell BK421.out 2).trans rfl, (blk_cell BK421.out 3).trans rfl, (blk_cell BK421.out 4).trans rfl⟩ (fun hHeld => ?_)
                        clear hK K
                        refine norm_ (a' := ?_) ?_ ?_
                        rotate_left
                        · show Act.put _ (some 108) _ = _
                          simp only [Act.put, List.setIfInBounds_toArray, List.set_cons_zero, List.set_cons_succ, i64_w, i32_w]
                          rfl
                        refine one_ (i := 7) (N := some 109) #[true, true, true, true, true, true, true, true, false, false, false] rfl rfl (one_of HT_.out (by kernel_rfl)) (by decide) (fun K hK => ?_)
                        refine Kd.R_lit_step Kd.string _ 9 ?hg (N := 109) ?hd (xs := ([(⟨#[119, 114, 97, 112]⟩ : ByteArray), t434, t435, t436] : List ByteArray)) (inner := [.string (⟨#[119, 114, 97, 112]⟩ : ByteArray), .string t434, .string t435, .string t436]) (ok := fun _ => True) (okp := fun _ => True) ?hr ?hp (fun _ hk => hk) trivial (Below.refl _ _) (Nat.le_refl _) (by simp) ?_; (case hd => rfl); (case hg => rfl); (case hr => first | (go_simp; done) | (go_simp; rfl) | (go_simp; simp only [IntKind.wrap_u32', Int.emod_add_emod, Int.add_emod_emod])); (case hp => exact (Reps.one (show Kd.M Kd.string _ _ _ (⟨#[119, 114, 97, 112]⟩ : ByteArray) [.string (⟨#[119, 114, 97, 112]⟩ : ByteArray)] from rfl) (Reps.one (show Kd.M Kd.string _ _ _ t434 [.string t434] from rfl) (Reps.one (show Kd.M Kd.string _ _ _ t435 [.string t435] from rfl) (Reps.one (show Kd.M Kd.string _ _ _ t436 [.string t436] from rfl) (Reps.none _ _))))))
                        intro v438 w68 ho69 hb hg_ hnew_
                        clear hg_ hnew_
                        (first | rw [← Ny437.out] at ho69 | (simp only [Int.reduceToNat] at ho69; rw [← Ny437.out] at ho69))
                        have n0_ := Aside0.mk (Kd.R_lower ho69 (below_size (by repeat (first | (with_reducible first | exact HB.out | apply below_alloc | apply pw_below_drewN | apply below_drew1 | refine below_set ?_ GE421.out) | exact HB.out))))
                        have n1_ := Aside0.mk (blk_below (g := gb421) (o := .cells #[.int .i64 t415, .int .i64 t416, .string t417, .string t418, .string t419] 25 (0, 0)) (by (with_reducible repeat (first | refine blk_drewN ?_ _ | refine blk_drew ?_ | refine blk_alloc ?_ _)); exact BK421.out) hb)
                        have n2_ := Aside0.mk (below_step (by repeat (first | (with_reducible first | exact HB.out | apply below_alloc | apply pw_below_drewN | apply below_drew1 | refine below_set ?_ GE421.out) | exact HB.out)) hb)
                        clear BK421
                        clear HB
                        have HO439 := n0_
                        have BK421 := n1_
                        have HB := n2_
                        clear n0_ n1_ n2_
                        clear hb ho69
                        obtain ⟨Ao70, co70, eo70⟩ := Kd.R_slice HO439.out
                        (first | subst eo70 | (injection eo70 with f1_ f2_ f3_; have f4_ := f1_.symm; have f5_ := f3_.symm; clear f1_ f2_ f3_; subst f4_; subst f5_))
                        refine hK.out _ _ ⟨(blk_cell BK421.out 0).trans rfl, (blk_cell BK421.out 1).trans rfl, (blk_cell BK421.out 2).trans rfl, (blk_cell BK421.out 3).trans rfl, (blk_cell BK421.out 4).trans rfl⟩ (fun hHeld => ?_)
                        clear hK K
                        refine norm_ (a' := ?_) ?_ ?_
                        rotate_left
                        · show Act.put _ (some 109) _ = _
                          simp only [Act.put, List.setIfInBounds_toArray, List.set_cons_zero, List.set_cons_succ, i64_w, i32_w]
                          rfl
                        refine one_ (i := 8) (N := some 110) #[true, true, true, true, true, true, true, true, true, false, false] rfl rfl (one_of HT_.out (by kernel_rfl)) (by decide) (fun K hK => ?_)
                        refine goes_ Try.func21 (by kernel_rfl) rfl #[.slice Ao70 y437.length co70] (by rfl) rfl rfl (by (try simp only [List.map_toArray, List.map_cons, List.map_nil]); first | done | rfl | (simp only [List.length_drop, List.length_take]; rfl)) ?_
                        with_reducible refine (code_List.calls _ _ y437 t440 _ ?side1 ?side2 A59.out).mono ?_
                        (case side1 => repeat (first | exact (Kd.R_reads' HO439.out).2.2 | (with_reducible refine Kd.C_alloc ?_ _) | (with_reducible refine Kd.C_drewN ?_ _) | (with_reducible refine Kd.C_drew ?_)))
                        (case side2 => exact (Kd.R_reads' HO439.out).2.1)
                        rintro e w71 ⟨rfl, hb⟩
                        refine ⟨_, rfl, ?_⟩
                        have n0_ := Aside0.mk (Kd.R_below (by (with_reducible repeat (first | apply Kd.R_alloc | apply Kd.R_drewN | apply Kd.R_drew)); exact HO439.out) hb)
                        have n1_ := Aside0.mk (blk_below (g := gb421) (o := .cells #[.int .i64 t415, .int .i64 t416, .string t417, .string t418, .string t419] 25 (0, 0)) (by (with_reducible repeat (first | refine blk_drewN ?_ _ | refine blk_drew ?_ | refine blk_alloc ?_ _)); exact BK421.out) hb)
                        have n2_ := Aside0.mk (below_step (by repeat (first | (with_reducible first | exact HB.out | apply below_alloc | apply pw_below_drewN | apply below_drew1 | refine below_set ?_ GE421.out) | exact HB.out)) hb)
                        clear HO439
                        clear BK421
                        clear HB
                        have HO439 := n0_
                        have BK421 := n1_
                        have HB := n2_
                        clear n0_ n1_ n2_
                        (try clear hb)
                        (try clear hb2)
                        (try clear hk)
                        (try clear hi)
                        refine hK.out _ _ ⟨(blk_cell BK421.out 0).trans rfl, (blk_cell BK421.out 1).trans rfl, (blk_cell BK421.out 2).trans rfl, (blk_cell BK421.out 3).trans rfl, (blk_cell BK421.out 4).trans rfl⟩ (fun hHeld => ?_)
                        clear hK K
                        refine norm_ (a' := ?_) ?_ ?_
                        rotate_left
                        · show Act.put _ (some 110) _ = _
                          simp only [Act.put, List.setIfInBounds_toArray, List.set_cons_zero, List.set_cons_succ, i64_w, i32_w]
                          rfl
                        refine one_ (i := 9) (N := some 111) #[true, true, true, true, true, true, true, true, true, true, false] rfl rfl (one_of HT_.out (by kernel_rfl)) (by decide) (fun K hK => ?_)
                        refine goes_ Try.func20 (by kernel_rfl) rfl #[.string t440] (by rfl) rfl rfl (by (try simp only [List.map_toArray, List.map_cons, List.map_nil]); first | done | rfl | (simp only [List.length_drop, List.length_take]; rfl)) ?_
                        with_reducible refine (sum_Sha.calls t440 t441 _ A60.out).mono ?_
                        rintro e w72 ⟨rfl, hb⟩
                        refine ⟨_, rfl, ?_⟩
                        have n0_ := Aside0.mk (Kd.R_below (by (with_reducible repeat (first | apply Kd.R_alloc | apply Kd.R_drewN | apply Kd.R_drew)); exact HO439.out) hb)
                        have n1_ := Aside0.mk (blk_below (g := gb421) (o := .cells #[.int .i64 t415, .int .i64 t416, .string t417, .string t418, .string t419] 25 (0, 0)) (by (with_reducible repeat (first | refine blk_drewN ?_ _ | refine blk_drew ?_ | refine blk_alloc ?_ _)); exact BK421.out) hb)
                        have n2_ := Aside0.mk (below_step (by repeat (first | (with_reducible first | exact HB.out | apply below_alloc | apply pw_below_drewN | apply below_drew1 | refine below_set ?_ GE421.out) | exact HB.out)) hb)
                        clear HO439
                        clear BK421
                        clear HB
                        have HO439 := n0_
                        have BK421 := n1_
                        have HB := n2_
                        clear n0_ n1_ n2_
                        (try clear hb)
                        (try clear hb2)
                        (try clear hk)
                        (try clear hi)
                        refine hK.out _ _ ⟨(blk_cell BK421.out 0).trans rfl, (blk_cell BK421.out 1).trans rfl, (blk_cell BK421.out 2).trans rfl, (blk_cell BK421.out 3).trans rfl, (blk_cell BK421.out 4).trans rfl⟩ (fun hHeld => ?_)
                        clear hK K
                        refine norm_ (a' := ?_) ?_ ?_
                        rotate_left
                        · show Act.put _ (some 111) _ = _
                          simp only [Act.put, List.setIfInBounds_toArray, List.set_cons_zero, List.set_cons_succ, i64_w, i32_w]
                          rfl
                        refine pure_ (i := 10) (N := some 16) (v := ?_) (a' := ?_) #[true, true, true, true, true, true, true, true, true, true, true] rfl rfl (any_of HT_.out (by kernel_rfl)) (fun _ _ _ h => h) (Or.inl ⟨by rfl, ?_⟩) ?_ ?_
                        rotate_left
                        · intro w'
                          go_simp
                          with_reducible rfl
                        rotate_left
                        · simp only [Act.put, List.setIfInBounds_toArray, List.set_cons_zero, List.set_cons_succ, i64_w, i32_w]
                          rfl
                        refine done_ (done_of HT_.out (by kernel_rfl)) ?_
                        have hcz73_0 : w72.cell? ⟨gb421, 0, none⟩ = some (.int .i64 t415) := (blk_cell BK421.out 0).trans rfl
                        have hcz73_1 : w72.cell? ⟨gb421, 1, none⟩ = some (.int .i64 t416) := (blk_cell BK421.out 1).trans rfl
                        have hcz73_2 : w72.cell? ⟨gb421, 2, none⟩ = some (.string t417) := (blk_cell BK421.out 2).trans rfl
                        have hcz73_3 : w72.cell? ⟨gb421, 3, none⟩ = some (.string t418) := (blk_cell BK421.out 3).trans rfl
                        have hcz73_4 : w72.cell? ⟨gb421, 4, none⟩ = some (.string t419) := (blk_cell BK421.out 4).trans rfl
                        have hfz73_0 := blk_frozen BK421.out 0
                        have hfz73_1 := blk_frozen BK421.out 1
                        have hfz73_2 := blk_frozen BK421.out 2
                        have hfz73_3 := blk_frozen BK421.out 3
                        have hfz73_4 := blk_frozen BK421.out 4
                        try go_wp2_with (first | ((with_reducible refine gate_callee (f := 10) rfl ?_); refine goesL_ (some 116) rfl rfl Try.func10 (by kernel_rfl) rfl #[.string t441, .agg #[.string t417, .string t418, .string t419]] rfl (by (try simp only [List.map_toArray, List.map_cons, List.map_nil]); first | done | rfl | (simp only [List.length_drop, List.length_take]; rfl)) ?_; (with_reducible refine (seal_Open.calls t441 t417 t418 t419 t442 true _ A61.out).mono ?_); rintro e w74 ⟨rfl, hb⟩; refine ⟨_, rfl, ?_⟩; have n0_ := Aside0.mk (Kd.R_below (by (with_reducible repeat (first | apply Kd.R_alloc | apply Kd.R_drewN | apply Kd.R_drew)); exact HO439.out) hb); have n1_ := Aside0.mk (blk_below (g := gb421) (o := .cells #[.int .i64 t415, .int .i64 t416, .string t417, .string t418, .string t419] 25 (0, 0)) (by (with_reducible repeat (first | refine blk_drewN ?_ _ | refine blk_drew ?_ | refine blk_alloc ?_ _)); exact BK421.out) hb); have n2_ := Aside0.mk (below_step (by repeat (first | (with_reducible first | exact HB.out | apply below_alloc | apply pw_below_drewN | apply below_drew1 | refine below_set ?_ GE421.out) | exact HB.out)) hb); clear HO439; clear BK421; clear HB; have HO439 := n0_; have BK421 := n1_; have HB := n2_; clear n0_ n1_ n2_; (try clear hb); (try clear hb2); (try clear hk); (try clear hi)))
                        go_ret
                        exact ⟨by first | rfl | (simp [errW_none, errW_some] <;> rfl) | (simp [*, errW_none, errW_some] <;> rfl), by repeat (first | (with_reducible first | exact HB.out | apply below_alloc | apply pw_below_drewN | apply below_drew1 | refine below_set ?_ GE421.out) | exact HB.out)⟩
                      · replace c63 := Bool.eq_false_iff.mpr c63
                        subst c63
                        have H1 : (none) = some r := by rw [if_neg (show ¬ (false = true) by decide)] at H; exact H
                        clear H
                        have H := H1
                        clear H1
                        exact absurd H (by simp)
                    · replace c62 := Bool.eq_false_iff.mpr c62
                      subst c62
                      have H1 : (none) = some r := by rw [if_neg (show ¬ (false = true) by decide)] at H; exact H
                      clear H
                      have H := H1
                      clear H1
                      exact absurd H (by simp)
/-- THE ONE PURE STATEMENT of agoralaw06_SealWraps: yours. -/
def agoralaw06_SealWraps.Pure : Prop := ∀ (a0 : Int) (a1 : ByteArray) (a2 : ByteArray), (Lit.int .i64 a0).wf = true → a1.size ≤ 140737488351232 → a2.size ≤ 140737488351232 → ∃ k, agoralaw06_SealWraps.f k a0 a1 a2 = some true
theorem agoralaw06_SealWraps.walk (P : agoralaw06_SealWraps.Pure) (a0 : Int) (a1 : ByteArray) (a2 : ByteArray) (w : World) (w0 : (Lit.int .i64 a0).wf = true) (w1 : a1.size ≤ 140737488351232) (w2 : a2.size ≤ 140737488351232) :
    Calls Try.prog 6 #[.int .i64 a0, .string a1, .string a2] w fun e w' => e = .returned (.bool true) ∧ Below w.heap.size w w' := by
  obtain ⟨k, h⟩ := P a0 a1 a2 w0 w1 w2
  refine (agoralaw06_SealWraps.calls k a0 a1 a2 true w h).mono ?_
  rintro e w' ⟨rfl, hd⟩
  exact ⟨rfl, hd⟩
end Go.Proofs.Ytdmeclmniooedaa.P
end P21_SealWraps_
