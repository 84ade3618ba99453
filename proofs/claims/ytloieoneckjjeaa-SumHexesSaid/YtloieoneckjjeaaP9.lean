/- Functions of the given program as plain Lean functions, each with the proof that a call of it comes to what that function says (no conditions beside those in the statements). Written by a program of the session (myprint.py). -/
import Derived.Test.YtloieoneckjjeaaP0
import Derived.Test.YtloieoneckjjeaaP2
import Derived.Test.YtloieoneckjjeaaP3
namespace Go.Proofs.Ytloieoneckjjeaa.P
open Go.RowKit Go.Proofs.YtloieoneckjjeaaW.PrintWords Go.Proofs.YtloieoneckjjeaaW.PrintLast Go.Proofs.YtloieoneckjjeaaW.PrintMore
attribute [local go_sem] max2_int min2_int max_two min_two max_three min_three max_four min_four   -- for this text's walks alone
set_option linter.unusedVariables false
set_option linter.unusedSimpArgs false
private theorem isEmpty_ne_ (l : List UInt8) : (l != []) = !l.isEmpty := by cases l <;> rfl

/-! ### agoralaw03_SumHexes: function 4 -/
mutual
def agoralaw03_SumHexes.j0 : Nat → ByteArray → ByteArray → Bool → Bool → Option (Bool)
  | 0, _, _, _, _ => none
  | k + 1, x0, x1, x5, x25 => if x25 = true then (some x5) else ((sum_Hex.f k x0).bind fun t228 => ((sum_Unhex.f k t228).bind fun bt229 => (if bt229.2 = true then (if bt229.1.toList = x0.toList then (agoralaw03_SumHexes.j1 k x1 x5 t228 ((t228.size : Int) != (wrap64 (2 * (x0.size : Int))))) else (agoralaw03_SumHexes.j1 k x1 x5 t228 true)) else (agoralaw03_SumHexes.j1 k x1 x5 t228 true))))
def agoralaw03_SumHexes.j1 : Nat → ByteArray → Bool → ByteArray → Bool → Option (Bool)
  | 0, _, _, _, _ => none
  | k + 1, x1, x5, x6, x48 => if x48 = true then (none) else (agoralaw03_SumHexes.l0 k x1 x5 x6 0)
def agoralaw03_SumHexes.l0 : Nat → ByteArray → Bool → ByteArray → Int → Option (Bool)
  | 0, _, _, _, _ => none
  | k + 1, x1, x5, x6, x9 => if x9 < (x6.size : Int) then (if 0 ≤ x9 then (if (bt x6 x9) ≥ 48 then (if (bt x6 x9) ≤ 57 then (agoralaw03_SumHexes.l0 k x1 x5 x6 (wrap64 (x9 + 1))) else (if (bt x6 x9) ≥ 97 then (if ((bt x6 x9) ≤ 102) then (agoralaw03_SumHexes.l0 k x1 x5 x6 (wrap64 (x9 + 1))) else (none)) else (none))) else (if (bt x6 x9) ≥ 97 then (if ((bt x6 x9) ≤ 102) then (agoralaw03_SumHexes.l0 k x1 x5 x6 (wrap64 (x9 + 1))) else (none)) else (none))) else (none)) else ((sum_Unhex.f k x1).bind fun bt231 => (if bt231.2 = true then ((sum_Hex.f k bt231.1).bind fun t233 => (if t233.toList = x1.toList then (agoralaw03_SumHexes.j3 k x5 x6 false) else (agoralaw03_SumHexes.j3 k x5 x6 true))) else (agoralaw03_SumHexes.j3 k x5 x6 (bt231.1.toList != ([] : List UInt8)))))
def agoralaw03_SumHexes.j3 : Nat → Bool → ByteArray → Bool → Option (Bool)
  | 0, _, _, _ => none
  | k + 1, x5, x6, x98 => if x98 = true then (none) else (if x6.size + 1 ≤ 9223372036854775807 then ((sum_Unhex.f k (x6 ++ (⟨#[48]⟩ : ByteArray))).bind fun bt234 => (if x6.size + 2 ≤ 9223372036854775807 then ((sum_Unhex.f k (x6 ++ (⟨#[65, 48]⟩ : ByteArray))).bind fun bt236 => (if x5 = true then (if bt234.2 = true then (none) else (some (!bt236.2))) else (none))) else (none))) else (none))
end
def agoralaw03_SumHexes.f (k : Nat) (a0 : ByteArray) (a1 : ByteArray) : Option (Bool) := (agoralaw03_small.f k).bind fun t227 => (if (a0.size : Int) > 4000 then (agoralaw03_SumHexes.j0 k a0 a1 t227 true) else (agoralaw03_SumHexes.j0 k a0 a1 t227 (decide ((a1.size : Int) > 4000))))
theorem agoralaw03_SumHexes.mono_l : ∀ k, (∀ y0 y1 y2 y3, LeO (agoralaw03_SumHexes.j0 k y0 y1 y2 y3) (agoralaw03_SumHexes.j0 (k + 1) y0 y1 y2 y3)) ∧ (∀ y0 y1 y2 y3, LeO (agoralaw03_SumHexes.j1 k y0 y1 y2 y3) (agoralaw03_SumHexes.j1 (k + 1) y0 y1 y2 y3)) ∧ (∀ y0 y1 y2 y3, LeO (agoralaw03_SumHexes.l0 k y0 y1 y2 y3) (agoralaw03_SumHexes.l0 (k + 1) y0 y1 y2 y3)) ∧ (∀ y0 y1 y2, LeO (agoralaw03_SumHexes.j3 k y0 y1 y2) (agoralaw03_SumHexes.j3 (k + 1) y0 y1 y2))
  | 0 => ⟨fun _ _ _ _ r h => by simp [agoralaw03_SumHexes.j0] at h, fun _ _ _ _ r h => by simp [agoralaw03_SumHexes.j1] at h, fun _ _ _ _ r h => by simp [agoralaw03_SumHexes.l0] at h, fun _ _ _ r h => by simp [agoralaw03_SumHexes.j3] at h⟩
  | k + 1 => by
    obtain ⟨ih0, ih1, ih2, ih3⟩ := agoralaw03_SumHexes.mono_l k
    refine ⟨?_, ?_, ?_, ?_⟩
    · intro y0 y1 y2 y3
      unfold agoralaw03_SumHexes.j0
      repeat' first
      | (with_reducible exact ih0 _ _ _ _)
      | (with_reducible exact ih1 _ _ _ _)
      | (with_reducible exact ih2 _ _ _ _)
      | (with_reducible exact ih3 _ _ _)
      | (with_reducible exact agoralaw03_small.mono _)
      | (with_reducible exact sum_Hex.mono _ _)
      | (with_reducible exact sum_Unhex.mono _ _)
      | (with_reducible exact LeO.refl _)
      | (with_reducible exact LeO.none _)
      | (with_reducible refine LeO.ite ?_ ?_)
      | (with_reducible refine LeO.bind ?_ (fun _ => ?_))
      | exact ih0 _ _ _ _
      | exact ih1 _ _ _ _
      | exact ih2 _ _ _ _
      | exact ih3 _ _ _
      | exact agoralaw03_small.mono _
      | exact sum_Hex.mono _ _
      | exact sum_Unhex.mono _ _
      | exact LeO.none _
      | refine LeO.ite ?_ ?_
      | refine LeO.bind ?_ (fun _ => ?_)
    · intro y0 y1 y2 y3
      unfold agoralaw03_SumHexes.j1
      repeat' first
      | (with_reducible exact ih0 _ _ _ _)
      | (with_reducible exact ih1 _ _ _ _)
      | (with_reducible exact ih2 _ _ _ _)
      | (with_reducible exact ih3 _ _ _)
      | (with_reducible exact agoralaw03_small.mono _)
      | (with_reducible exact sum_Hex.mono _ _)
      | (with_reducible exact sum_Unhex.mono _ _)
      | (with_reducible exact LeO.refl _)
      | (with_reducible exact LeO.none _)
      | (with_reducible refine LeO.ite ?_ ?_)
      | (with_reducible refine LeO.bind ?_ (fun _ => ?_))
      | exact ih0 _ _ _ _
      | exact ih1 _ _ _ _
      | exact ih2 _ _ _ _
      | exact ih3 _ _ _
      | exact agoralaw03_small.mono _
      | exact sum_Hex.mono _ _
      | exact sum_Unhex.mono _ _
      | exact LeO.none _
      | refine LeO.ite ?_ ?_
      | refine LeO.bind ?_ (fun _ => ?_)
    · intro y0 y1 y2 y3
      unfold agoralaw03_SumHexes.l0
      repeat' first
      | (with_reducible exact ih0 _ _ _ _)
      | (with_reducible exact ih1 _ _ _ _)
      | (with_reducible exact ih2 _ _ _ _)
      | (with_reducible exact ih3 _ _ _)
      | (with_reducible exact agoralaw03_small.mono _)
      | (with_reducible exact sum_Hex.mono _ _)
      | (with_reducible exact sum_Unhex.mono _ _)
      | (with_reducible exact LeO.refl _)
      | (with_reducible exact LeO.none _)
      | (with_reducible refine LeO.ite ?_ ?_)
      | (with_reducible refine LeO.bind ?_ (fun _ => ?_))
      | exact ih0 _ _ _ _
      | exact ih1 _ _ _ _
      | exact ih2 _ _ _ _
      | exact ih3 _ _ _
      | exact agoralaw03_small.mono _
      | exact sum_Hex.mono _ _
      | exact sum_Unhex.mono _ _
      | exact LeO.none _
      | refine LeO.ite ?_ ?_
      | refine LeO.bind ?_ (fun _ => ?_)
    · intro y0 y1 y2
      unfold agoralaw03_SumHexes.j3
      repeat' first
      | (with_reducible exact ih0 _ _ _ _)
      | (with_reducible exact ih1 _ _ _ _)
      | (with_reducible exact ih2 _ _ _ _)
      | (with_reducible exact ih3 _ _ _)
      | (with_reducible exact agoralaw03_small.mono _)
      | (with_reducible exact sum_Hex.mono _ _)
      | (with_reducible exact sum_Unhex.mono _ _)
      | (with_reducible exact LeO.refl _)
      | (with_reducible exact LeO.none _)
      | (with_reducible refine LeO.ite ?_ ?_)
      | (with_reducible refine LeO.bind ?_ (fun _ => ?_))
      | exact ih0 _ _ _ _
      | exact ih1 _ _ _ _
      | exact ih2 _ _ _ _
      | exact ih3 _ _ _
      | exact agoralaw03_small.mono _
      | exact sum_Hex.mono _ _
      | exact sum_Unhex.mono _ _
      | exact LeO.none _
      | refine LeO.ite ?_ ?_
      | refine LeO.bind ?_ (fun _ => ?_)
theorem agoralaw03_SumHexes.mono : ∀ a0 a1 k, LeO (agoralaw03_SumHexes.f k a0 a1) (agoralaw03_SumHexes.f (k + 1) a0 a1) := by
  intro a0 a1 k
  obtain ⟨ih0, ih1, ih2, ih3⟩ := agoralaw03_SumHexes.mono_l k
  unfold agoralaw03_SumHexes.f
  repeat' first
      | (with_reducible exact ih0 _ _ _ _)
      | (with_reducible exact ih1 _ _ _ _)
      | (with_reducible exact ih2 _ _ _ _)
      | (with_reducible exact ih3 _ _ _)
      | (with_reducible exact agoralaw03_small.mono _)
      | (with_reducible exact sum_Hex.mono _ _)
      | (with_reducible exact sum_Unhex.mono _ _)
      | (with_reducible exact LeO.refl _)
      | (with_reducible exact LeO.none _)
      | (with_reducible refine LeO.ite ?_ ?_)
      | (with_reducible refine LeO.bind ?_ (fun _ => ?_))
      | exact ih0 _ _ _ _
      | exact ih1 _ _ _ _
      | exact ih2 _ _ _ _
      | exact ih3 _ _ _
      | exact agoralaw03_small.mono _
      | exact sum_Hex.mono _ _
      | exact sum_Unhex.mono _ _
      | exact LeO.none _
      | refine LeO.ite ?_ ?_
      | refine LeO.bind ?_ (fun _ => ?_)
set_option maxHeartbeats 8000000 in
set_option maxRecDepth 100000 in
theorem agoralaw03_SumHexes.calls (k : Nat) (a0 : ByteArray) (a1 : ByteArray) (r : Bool) (w : World) (h : agoralaw03_SumHexes.f k a0 a1 = some r) :
    Calls Try.prog 4 #[.string a0, .string a1] w fun e w' => e = .returned (.bool r) ∧ Below w.heap.size w w' := by
  have HB := Aside0.mk (Below.refl w.heap.size w)
  have H : ((agoralaw03_small.f k).bind fun t227 => (if (a0.size : Int) > 4000 then (agoralaw03_SumHexes.j0 k a0 a1 t227 true) else (agoralaw03_SumHexes.j0 k a0 a1 t227 (decide ((a1.size : Int) > 4000))))) = some r := h
  clear h
  replace H := Option.bind_eq_some_iff.mp H
  obtain ⟨t227, A30, H⟩ := H
  replace H : (if (a0.size : Int) > 4000 then (agoralaw03_SumHexes.j0 k a0 a1 t227 true) else (agoralaw03_SumHexes.j0 k a0 a1 t227 (decide ((a1.size : Int) > 4000)))) = some r := H
  have A3 := Aside0.mk A30
  clear A30
  have HC4 := Aside0.mk H
  clear H
  go_enter Try.func4, Try.ntmps4
  go_upto_region 2 with (first | ((with_reducible refine gate_callee (f := 9) rfl ?_); refine goesL_ (some 17) rfl rfl Try.func9 (by kernel_rfl) rfl #[] rfl (by (try simp only [List.map_toArray, List.map_cons, List.map_nil]); first | done | rfl | (simp only [List.length_drop, List.length_take]; rfl)) ?_; (with_reducible refine (agoralaw03_small.calls k  t227 _ A3.out).mono ?_); rintro e w5 ⟨rfl, hb⟩; refine ⟨_, rfl, ?_⟩; have n0_ := Aside0.mk (below_step (by repeat (first | (with_reducible first | exact HB.out | apply below_alloc | apply pw_below_drewN | apply below_drew1) | exact HB.out)) hb); clear HB; have HB := n0_; clear n0_; (try clear hb); (try clear hb2); (try clear hk); (try clear hi)))
  (try simp only [Act.put, List.setIfInBounds_toArray, List.set_cons_zero, List.set_cons_succ])
  go_cut [25] (fun v25 wc => ∃ (kq : Nat) (x25_3 : Bool), v25 = .bool x25_3 ∧ Aside0 (agoralaw03_SumHexes.j0 kq a0 a1 t227 x25_3 = some r) ∧ Aside0 (kq ≤ k) ∧ Aside0 (Below w.heap.size w wc))
  case first =>
    have H := HC4.out
    clear HC4
    by_cases c6 : (a0.size : Int) > 4000
    · rw [if_pos c6] at H
      have c6b0 : decide (4000 < (a0.size : Int)) = true := decide_eq_true c6
      have c6b1 : decide (4000 < a0.size) = true := decide_eq_true (by omega)
      clear c6
      (first | rw [c6b0] | (simp only [i64_w, i32_w]; rw [c6b0]) | skip)
      have H' := Aside0.mk H
      clear H
      go_wp2
      go_meet
      case rel => exact ⟨_, (true), (by first | rfl | (simp; done) | (simp [*]; done) | (simp [isEmpty_ne_]; done)), H', ⟨by first | omega | exact Nat.le_refl _⟩, ⟨by repeat (first | (with_reducible first | exact HB.out | apply below_alloc | apply pw_below_drewN | apply below_drew1) | exact HB.out)⟩⟩
    · rw [if_neg c6] at H
      have c6b0 : decide (4000 < (a0.size : Int)) = false := decide_eq_false c6
      have c6b1 : decide (4000 < a0.size) = false := decide_eq_false (by omega)
      clear c6
      (first | rw [c6b0] | (simp only [i64_w, i32_w]; rw [c6b0]) | skip)
      have H' := Aside0.mk H
      clear H
      go_wp2
      go_meet
      case rel => exact ⟨_, (decide ((a1.size : Int) > 4000)), (by first | rfl | (simp; done) | (simp [*]; done) | (simp [isEmpty_ne_]; done)), H', ⟨by first | omega | exact Nat.le_refl _⟩, ⟨by repeat (first | (with_reducible first | exact HB.out | apply below_alloc | apply pw_below_drewN | apply below_drew1) | exact HB.out)⟩⟩
  case rest =>
    clear HC4
    try clear p2
    try clear c4
    try clear c6
    try clear c6b0
    try clear c6b1
    obtain ⟨kq, x25_3, rfl, HA, HJ3, HB⟩ := hcut
    cases kq with
    | zero => exact absurd HA.out (by simp [agoralaw03_SumHexes.j0])
    | succ kj3 =>
      have H := HA.out
      clear HA
      simp only [agoralaw03_SumHexes.j0] at H
      by_cases c7 : x25_3 = true
      · subst c7
        have H1 : (some t227) = some r := by rw [if_pos rfl] at H; exact H
        clear H
        have H := H1
        clear H1
        obtain rfl := Option.some.inj H
        go_wp2
        go_ret
        exact ⟨by first | rfl | (simp [errW_none, errW_some] <;> rfl) | (simp [*, errW_none, errW_some] <;> rfl), by repeat (first | (with_reducible first | exact HB.out | apply below_alloc | apply pw_below_drewN | apply below_drew1) | exact HB.out)⟩
      · replace c7 := Bool.eq_false_iff.mpr c7
        subst c7
        have H1 : ((sum_Hex.f kj3 a0).bind fun t228 => ((sum_Unhex.f kj3 t228).bind fun bt229 => (if bt229.2 = true then (if bt229.1.toList = a0.toList then (agoralaw03_SumHexes.j1 kj3 a1 t227 t228 ((t228.size : Int) != (wrap64 (2 * (a0.size : Int))))) else (agoralaw03_SumHexes.j1 kj3 a1 t227 t228 true)) else (agoralaw03_SumHexes.j1 kj3 a1 t227 t228 true)))) = some r := by rw [if_neg (show ¬ (false = true) by decide)] at H; exact H
        clear H
        have H := H1
        clear H1
        replace H := Option.bind_eq_some_iff.mp H
        obtain ⟨t228, A80, H⟩ := H
        replace H : ((sum_Unhex.f kj3 t228).bind fun bt229 => (if bt229.2 = true then (if bt229.1.toList = a0.toList then (agoralaw03_SumHexes.j1 kj3 a1 t227 t228 ((t228.size : Int) != (wrap64 (2 * (a0.size : Int))))) else (agoralaw03_SumHexes.j1 kj3 a1 t227 t228 true)) else (agoralaw03_SumHexes.j1 kj3 a1 t227 t228 true))) = some r := H
        have A8 := Aside0.mk A80
        clear A80
        replace H := Option.bind_eq_some_iff.mp H
        obtain ⟨⟨t229, t230⟩, A90, H⟩ := H
        replace H : (if t230 = true then (if t229.toList = a0.toList then (agoralaw03_SumHexes.j1 kj3 a1 t227 t228 ((t228.size : Int) != (wrap64 (2 * (a0.size : Int))))) else (agoralaw03_SumHexes.j1 kj3 a1 t227 t228 true)) else (agoralaw03_SumHexes.j1 kj3 a1 t227 t228 true)) = some r := H
        have A9 := Aside0.mk A90
        clear A90
        have HC10 := Aside0.mk H
        clear H
        go_upto_region 6 with (first | ((with_reducible refine gate_callee (f := 16) rfl ?_); refine goesL_ (some 28) rfl rfl Try.func16 (by kernel_rfl) rfl #[.string a0] rfl (by (try simp only [List.map_toArray, List.map_cons, List.map_nil]); first | done | rfl | (simp only [List.length_drop, List.length_take]; rfl)) ?_; (with_reducible refine (sum_Hex.calls kj3 a0 t228 _ A8.out).mono ?_); rintro e w11 ⟨rfl, hb⟩; refine ⟨_, rfl, ?_⟩; have n0_ := Aside0.mk (below_step (by repeat (first | (with_reducible first | exact HB.out | apply below_alloc | apply pw_below_drewN | apply below_drew1) | exact HB.out)) hb); clear HB; have HB := n0_; clear n0_; (try clear hb); (try clear hb2); (try clear hk); (try clear hi)) | ((with_reducible refine gate_callee (f := 10) rfl ?_); refine goesL_ (some 31) rfl rfl Try.func10 (by kernel_rfl) rfl #[.string t228] rfl (by (try simp only [List.map_toArray, List.map_cons, List.map_nil]); first | done | rfl | (simp only [List.length_drop, List.length_take]; rfl)) ?_; (with_reducible refine (sum_Unhex.calls kj3 t228 t229 t230 _ A9.out).mono ?_); rintro e w12 ⟨rfl, hb⟩; refine ⟨_, rfl, ?_⟩; have n0_ := Aside0.mk (below_step (by repeat (first | (with_reducible first | exact HB.out | apply below_alloc | apply pw_below_drewN | apply below_drew1) | exact HB.out)) hb); clear HB; have HB := n0_; clear n0_; (try clear hb); (try clear hb2); (try clear hk); (try clear hi)))
        (try simp only [Act.put, List.setIfInBounds_toArray, List.set_cons_zero, List.set_cons_succ])
        go_cut [48] (fun v48 wc => ∃ (kq : Nat) (x48_9 : Bool), v48 = .bool x48_9 ∧ Aside0 (agoralaw03_SumHexes.j1 kq a1 t227 t228 x48_9 = some r) ∧ Aside0 (kq ≤ kj3) ∧ Aside0 (Below w.heap.size w wc))
        case first =>
          have H := HC10.out
          clear HC10
          by_cases c13 : t230 = true
          · subst c13
            have H1 : (if t229.toList = a0.toList then (agoralaw03_SumHexes.j1 kj3 a1 t227 t228 ((t228.size : Int) != (wrap64 (2 * (a0.size : Int))))) else (agoralaw03_SumHexes.j1 kj3 a1 t227 t228 true)) = some r := by rw [if_pos rfl] at H; exact H
            clear H
            have H := H1
            clear H1
            by_cases c14 : t229.toList = a0.toList
            · rw [if_pos c14] at H
              have c14b0 : (t229.toList == a0.toList) = true := beq_iff_eq.mpr c14
              have c14b1 : (t229.toList != a0.toList) = false := bne_eq_false_iff_eq.mpr c14
              clear c14
              (first | rw [c14b0] | (simp only [i64_w, i32_w]; rw [c14b0]) | skip)
              have H' := Aside0.mk H
              clear H
              go_wp2
              go_meet
              case rel => exact ⟨_, (((t228.size : Int) != (wrap64 (2 * (a0.size : Int))))), (by first | rfl | (simp; done) | (simp [*]; done) | (simp [isEmpty_ne_]; done)), H', ⟨by have := HJ3.out; first | omega | exact Nat.le_refl _⟩, ⟨by repeat (first | (with_reducible first | exact HB.out | apply below_alloc | apply pw_below_drewN | apply below_drew1) | exact HB.out)⟩⟩
            · rw [if_neg c14] at H
              have c14b0 : (t229.toList == a0.toList) = false := beq_eq_false_iff_ne.mpr c14
              have c14b1 : (t229.toList != a0.toList) = true := bne_iff_ne.mpr c14
              (first | rw [c14b0] | (simp only [i64_w, i32_w]; rw [c14b0]) | skip)
              have H' := Aside0.mk H
              clear H
              go_wp2
              go_meet
              case rel => exact ⟨_, (true), (by first | rfl | (simp; done) | (simp [*]; done) | (simp [isEmpty_ne_]; done)), H', ⟨by have := HJ3.out; first | omega | exact Nat.le_refl _⟩, ⟨by repeat (first | (with_reducible first | exact HB.out | apply below_alloc | apply pw_below_drewN | apply below_drew1) | exact HB.out)⟩⟩
          · replace c13 := Bool.eq_false_iff.mpr c13
            subst c13
            have H1 : (agoralaw03_SumHexes.j1 kj3 a1 t227 t228 true) = some r := by rw [if_neg (show ¬ (false = true) by decide)] at H; exact H
            clear H
            have H := H1
            clear H1
            have H' := Aside0.mk H
            clear H
            go_wp2
            go_meet
            case rel => exact ⟨_, (true), (by first | rfl | (simp; done) | (simp [*]; done) | (simp [isEmpty_ne_]; done)), H', ⟨by have := HJ3.out; first | omega | exact Nat.le_refl _⟩, ⟨by repeat (first | (with_reducible first | exact HB.out | apply below_alloc | apply pw_below_drewN | apply below_drew1) | exact HB.out)⟩⟩
        case rest =>
          clear HC10
          try clear c1
          try clear p2
          try clear c4
          try clear c6
          try clear c6b0
          try clear c6b1
          try clear p6
          try clear c7
          try clear c9
          try clear c10
          try clear c13
          try clear c14
          try clear c14b0
          try clear c14b1
          try clear p2
          obtain ⟨kq, x48_9, rfl, HA, HJ9, HB⟩ := hcut
          cases kq with
          | zero => exact absurd HA.out (by simp [agoralaw03_SumHexes.j1])
          | succ kj9 =>
            have H := HA.out
            clear HA
            simp only [agoralaw03_SumHexes.j1] at H
            by_cases c15 : x48_9 = true
            · subst c15
              have H1 : (none) = some r := by rw [if_pos rfl] at H; exact H
              clear H
              have H := H1
              clear H1
              exact absurd H (by simp)
            · replace c15 := Bool.eq_false_iff.mpr c15
              subst c15
              have H1 : (agoralaw03_SumHexes.l0 kj9 a1 t227 t228 0) = some r := by rw [if_neg (show ¬ (false = true) by decide)] at H; exact H
              clear H
              have H := H1
              clear H1
              have H' := Aside0.mk H
              clear H
              go_wp2
              go_loopg [9] kj9 (fun kq v9 w' => ∃ (x9_3 : Int), v9 = .int .i64 x9_3 ∧ Aside0 (agoralaw03_SumHexes.l0 kq a1 t227 t228 x9_3 = some r) ∧ Aside0 (kq ≤ kj9) ∧ Aside0 (Below w.heap.size w w'))
              case atStart => exact ⟨(0), (by first | rfl | (simp; done) | (simp [*]; done) | (simp [isEmpty_ne_]; done)), H', ⟨Nat.le_refl _⟩, ⟨by repeat (first | (with_reducible first | exact HB.out | apply below_alloc | apply pw_below_drewN | apply below_drew1) | exact HB.out)⟩⟩
              case round =>
                clear H'
                try clear c1
                try clear p2
                try clear c4
                try clear c6
                try clear c6b0
                try clear c6b1
                try clear p6
                try clear c7
                try clear c9
                try clear c10
                try clear c13
                try clear c14
                try clear c14b0
                try clear c14b1
                try clear c15
                try clear p2
                try clear p6
                obtain ⟨x9_3, rfl, HA, HK3, HB⟩ := hrel
                cases gk with
                | zero => exact absurd HA.out (by simp [agoralaw03_SumHexes.l0])
                | succ k3 =>
                  have H := HA.out
                  clear HA
                  simp only [agoralaw03_SumHexes.l0] at H
                  by_cases c16 : x9_3 < (t228.size : Int)
                  · rw [if_pos c16] at H
                    have c16b0 : decide (x9_3 < (t228.size : Int)) = true := decide_eq_true c16
                    clear c16
                    by_cases c17 : 0 ≤ x9_3
                    · rw [if_pos c17] at H
                      have c17b0 : decide (0 ≤ x9_3) = true := decide_eq_true c17
                      clear c17
                      by_cases c19 : (bt t228 x9_3) ≥ 48
                      · rw [if_pos c19] at H
                        have c19b0 : decide (48 ≤ (bt t228 x9_3)) = true := decide_eq_true c19
                        clear c19
                        by_cases c21 : (bt t228 x9_3) ≤ 57
                        · rw [if_pos c21] at H
                          have c21b0 : decide ((bt t228 x9_3) ≤ 57) = true := decide_eq_true c21
                          clear c21
                          have H' := Aside0.mk H
                          clear H
                          have p18 : 0 ≤ (x9_3 : Int) := of_decide_eq_true (by first | (with_reducible assumption) | assumption)
                          have q18 : x9_3 < (t228.size : Int) := of_decide_eq_true (by first | (with_reducible assumption) | assumption)
                          have hx18 := bt_at t228 x9_3
                          replace p18 := eq_true p18
                          replace q18 := eq_true q18
                          have p20 : 0 ≤ (x9_3 : Int) := of_decide_eq_true (by first | (with_reducible assumption) | assumption)
                          have q20 : x9_3 < (t228.size : Int) := of_decide_eq_true (by first | (with_reducible assumption) | assumption)
                          have hx20 := bt_at t228 x9_3
                          replace p20 := eq_true p20
                          replace q20 := eq_true q20
                          go_wp2
                          go_roundg k3
                          case measure => have := HJ3.out; have := HJ9.out; have := HK3.out; omega
                          case rel => exact ⟨(wrap64 (x9_3 + 1)), (by first | rfl | (simp; done) | (simp [*]; done) | (simp [isEmpty_ne_]; done)), H', ⟨by have := HJ3.out; have := HJ9.out; have := HK3.out; omega⟩, ⟨by repeat (first | (with_reducible first | exact HB.out | apply below_alloc | apply pw_below_drewN | apply below_drew1) | exact HB.out)⟩⟩
                        · rw [if_neg c21] at H
                          have c21b0 : decide ((bt t228 x9_3) ≤ 57) = false := decide_eq_false c21
                          clear c21
                          by_cases c23 : (bt t228 x9_3) ≥ 97
                          · rw [if_pos c23] at H
                            have c23b0 : decide (97 ≤ (bt t228 x9_3)) = true := decide_eq_true c23
                            clear c23
                            by_cases c25 : ((bt t228 x9_3) ≤ 102)
                            · rw [if_pos c25] at H
                              have c25b0 : decide ((bt t228 x9_3) ≤ 102) = true := decide_eq_true c25
                              clear c25
                              have H' := Aside0.mk H
                              clear H
                              have p18 : 0 ≤ (x9_3 : Int) := of_decide_eq_true (by first | (with_reducible assumption) | assumption)
                              have q18 : x9_3 < (t228.size : Int) := of_decide_eq_true (by first | (with_reducible assumption) | assumption)
                              have hx18 := bt_at t228 x9_3
                              replace p18 := eq_true p18
                              replace q18 := eq_true q18
                              have p20 : 0 ≤ (x9_3 : Int) := of_decide_eq_true (by first | (with_reducible assumption) | assumption)
                              have q20 : x9_3 < (t228.size : Int) := of_decide_eq_true (by first | (with_reducible assumption) | assumption)
                              have hx20 := bt_at t228 x9_3
                              replace p20 := eq_true p20
                              replace q20 := eq_true q20
                              have p22 : 0 ≤ (x9_3 : Int) := of_decide_eq_true (by first | (with_reducible assumption) | assumption)
                              have q22 : x9_3 < (t228.size : Int) := of_decide_eq_true (by first | (with_reducible assumption) | assumption)
                              have hx22 := bt_at t228 x9_3
                              replace p22 := eq_true p22
                              replace q22 := eq_true q22
                              have p24 : 0 ≤ (x9_3 : Int) := of_decide_eq_true (by first | (with_reducible assumption) | assumption)
                              have q24 : x9_3 < (t228.size : Int) := of_decide_eq_true (by first | (with_reducible assumption) | assumption)
                              have hx24 := bt_at t228 x9_3
                              replace p24 := eq_true p24
                              replace q24 := eq_true q24
                              go_wp2
                              go_roundg k3
                              case measure => have := HJ3.out; have := HJ9.out; have := HK3.out; omega
                              case rel => exact ⟨(wrap64 (x9_3 + 1)), (by first | rfl | (simp; done) | (simp [*]; done) | (simp [isEmpty_ne_]; done)), H', ⟨by have := HJ3.out; have := HJ9.out; have := HK3.out; omega⟩, ⟨by repeat (first | (with_reducible first | exact HB.out | apply below_alloc | apply pw_below_drewN | apply below_drew1) | exact HB.out)⟩⟩
                            · rw [if_neg c25] at H
                              exact absurd H (by simp)
                          · rw [if_neg c23] at H
                            exact absurd H (by simp)
                      · rw [if_neg c19] at H
                        have c19b0 : decide (48 ≤ (bt t228 x9_3)) = false := decide_eq_false c19
                        clear c19
                        by_cases c27 : (bt t228 x9_3) ≥ 97
                        · rw [if_pos c27] at H
                          have c27b0 : decide (97 ≤ (bt t228 x9_3)) = true := decide_eq_true c27
                          clear c27
                          by_cases c29 : ((bt t228 x9_3) ≤ 102)
                          · rw [if_pos c29] at H
                            have c29b0 : decide ((bt t228 x9_3) ≤ 102) = true := decide_eq_true c29
                            clear c29
                            have H' := Aside0.mk H
                            clear H
                            have p18 : 0 ≤ (x9_3 : Int) := of_decide_eq_true (by first | (with_reducible assumption) | assumption)
                            have q18 : x9_3 < (t228.size : Int) := of_decide_eq_true (by first | (with_reducible assumption) | assumption)
                            have hx18 := bt_at t228 x9_3
                            replace p18 := eq_true p18
                            replace q18 := eq_true q18
                            have p26 : 0 ≤ (x9_3 : Int) := of_decide_eq_true (by first | (with_reducible assumption) | assumption)
                            have q26 : x9_3 < (t228.size : Int) := of_decide_eq_true (by first | (with_reducible assumption) | assumption)
                            have hx26 := bt_at t228 x9_3
                            replace p26 := eq_true p26
                            replace q26 := eq_true q26
                            have p28 : 0 ≤ (x9_3 : Int) := of_decide_eq_true (by first | (with_reducible assumption) | assumption)
                            have q28 : x9_3 < (t228.size : Int) := of_decide_eq_true (by first | (with_reducible assumption) | assumption)
                            have hx28 := bt_at t228 x9_3
                            replace p28 := eq_true p28
                            replace q28 := eq_true q28
                            go_wp2
                            go_roundg k3
                            case measure => have := HJ3.out; have := HJ9.out; have := HK3.out; omega
                            case rel => exact ⟨(wrap64 (x9_3 + 1)), (by first | rfl | (simp; done) | (simp [*]; done) | (simp [isEmpty_ne_]; done)), H', ⟨by have := HJ3.out; have := HJ9.out; have := HK3.out; omega⟩, ⟨by repeat (first | (with_reducible first | exact HB.out | apply below_alloc | apply pw_below_drewN | apply below_drew1) | exact HB.out)⟩⟩
                          · rw [if_neg c29] at H
                            exact absurd H (by simp)
                        · rw [if_neg c27] at H
                          exact absurd H (by simp)
                    · rw [if_neg c17] at H
                      exact absurd H (by simp)
                  · rw [if_neg c16] at H
                    have c16b0 : decide (x9_3 < (t228.size : Int)) = false := decide_eq_false c16
                    clear c16
                    replace H := Option.bind_eq_some_iff.mp H
                    obtain ⟨⟨t231, t232⟩, A300, H⟩ := H
                    replace H : (if t232 = true then ((sum_Hex.f k3 t231).bind fun t233 => (if t233.toList = a1.toList then (agoralaw03_SumHexes.j3 k3 t227 t228 false) else (agoralaw03_SumHexes.j3 k3 t227 t228 true))) else (agoralaw03_SumHexes.j3 k3 t227 t228 (t231.toList != ([] : List UInt8)))) = some r := H
                    have A30 := Aside0.mk A300
                    clear A300
                    have HC31 := Aside0.mk H
                    clear H
                    go_upto_region 15 with (first | ((with_reducible refine gate_callee (f := 10) rfl ?_); refine goesL_ (some 81) rfl rfl Try.func10 (by kernel_rfl) rfl #[.string a1] rfl (by (try simp only [List.map_toArray, List.map_cons, List.map_nil]); first | done | rfl | (simp only [List.length_drop, List.length_take]; rfl)) ?_; (with_reducible refine (sum_Unhex.calls k3 a1 t231 t232 _ A30.out).mono ?_); rintro e w32 ⟨rfl, hb⟩; refine ⟨_, rfl, ?_⟩; have n0_ := Aside0.mk (below_step (by repeat (first | (with_reducible first | exact HB.out | apply below_alloc | apply pw_below_drewN | apply below_drew1) | exact HB.out)) hb); clear HB; have HB := n0_; clear n0_; (try clear hb); (try clear hb2); (try clear hk); (try clear hi)))
                    (try simp only [Act.put, List.setIfInBounds_toArray, List.set_cons_zero, List.set_cons_succ])
                    go_cut [98] (fun v98 wc => ∃ (kq : Nat) (x98_30 : Bool), v98 = .bool x98_30 ∧ Aside0 (agoralaw03_SumHexes.j3 kq t227 t228 x98_30 = some r) ∧ Aside0 (kq ≤ k3) ∧ Aside0 (Below w.heap.size w wc))
                    case first =>
                      have H := HC31.out
                      clear HC31
                      by_cases c33 : t232 = true
                      · subst c33
                        have H1 : ((sum_Hex.f k3 t231).bind fun t233 => (if t233.toList = a1.toList then (agoralaw03_SumHexes.j3 k3 t227 t228 false) else (agoralaw03_SumHexes.j3 k3 t227 t228 true))) = some r := by rw [if_pos rfl] at H; exact H
                        clear H
                        have H := H1
                        clear H1
                        replace H := Option.bind_eq_some_iff.mp H
                        obtain ⟨t233, A340, H⟩ := H
                        replace H : (if t233.toList = a1.toList then (agoralaw03_SumHexes.j3 k3 t227 t228 false) else (agoralaw03_SumHexes.j3 k3 t227 t228 true)) = some r := H
                        have A34 := Aside0.mk A340
                        clear A340
                        by_cases c35 : t233.toList = a1.toList
                        · rw [if_pos c35] at H
                          have c35b0 : (t233.toList == a1.toList) = true := beq_iff_eq.mpr c35
                          have c35b1 : (t233.toList != a1.toList) = false := bne_eq_false_iff_eq.mpr c35
                          clear c35
                          (first | rw [c35b0] | (simp only [i64_w, i32_w]; rw [c35b0]) | skip)
                          have H' := Aside0.mk H
                          clear H
                          go_wp2_with (first | (go_at_call 16; (with_reducible refine (sum_Hex.calls k3 t231 t233 _ A34.out).mono ?_); rintro e w36 ⟨rfl, hb⟩; have n0_ := Aside0.mk (below_step (by repeat (first | (with_reducible first | exact HB.out | apply below_alloc | apply pw_below_drewN | apply below_drew1) | exact HB.out)) hb); clear HB; have HB := n0_; clear n0_; (try clear hb); (try clear hb2); (try clear hk); (try clear hi)))
                          go_meet
                          case rel => exact ⟨_, (false), (by first | rfl | (simp; done) | (simp [*]; done) | (simp [isEmpty_ne_]; done)), H', ⟨by have := HJ3.out; have := HJ9.out; have := HK3.out; first | omega | exact Nat.le_refl _⟩, ⟨by repeat (first | (with_reducible first | exact HB.out | apply below_alloc | apply pw_below_drewN | apply below_drew1) | exact HB.out)⟩⟩
                        · rw [if_neg c35] at H
                          have c35b0 : (t233.toList == a1.toList) = false := beq_eq_false_iff_ne.mpr c35
                          have c35b1 : (t233.toList != a1.toList) = true := bne_iff_ne.mpr c35
                          (first | rw [c35b0] | (simp only [i64_w, i32_w]; rw [c35b0]) | skip)
                          have H' := Aside0.mk H
                          clear H
                          go_wp2_with (first | (go_at_call 16; (with_reducible refine (sum_Hex.calls k3 t231 t233 _ A34.out).mono ?_); rintro e w37 ⟨rfl, hb⟩; have n0_ := Aside0.mk (below_step (by repeat (first | (with_reducible first | exact HB.out | apply below_alloc | apply pw_below_drewN | apply below_drew1) | exact HB.out)) hb); clear HB; have HB := n0_; clear n0_; (try clear hb); (try clear hb2); (try clear hk); (try clear hi)))
                          go_meet
                          case rel => exact ⟨_, (true), (by first | rfl | (simp; done) | (simp [*]; done) | (simp [isEmpty_ne_]; done)), H', ⟨by have := HJ3.out; have := HJ9.out; have := HK3.out; first | omega | exact Nat.le_refl _⟩, ⟨by repeat (first | (with_reducible first | exact HB.out | apply below_alloc | apply pw_below_drewN | apply below_drew1) | exact HB.out)⟩⟩
                      · replace c33 := Bool.eq_false_iff.mpr c33
                        subst c33
                        have H1 : (agoralaw03_SumHexes.j3 k3 t227 t228 (t231.toList != ([] : List UInt8))) = some r := by rw [if_neg (show ¬ (false = true) by decide)] at H; exact H
                        clear H
                        have H := H1
                        clear H1
                        have H' := Aside0.mk H
                        clear H
                        go_wp2
                        go_meet
                        case rel => exact ⟨_, ((t231.toList != ([] : List UInt8))), (by first | rfl | (simp; done) | (simp [*]; done) | (simp [isEmpty_ne_]; done)), H', ⟨by have := HJ3.out; have := HJ9.out; have := HK3.out; first | omega | exact Nat.le_refl _⟩, ⟨by repeat (first | (with_reducible first | exact HB.out | apply below_alloc | apply pw_below_drewN | apply below_drew1) | exact HB.out)⟩⟩
                    case rest =>
                      clear HC31
                      try clear c1
                      try clear p1
                      try clear q1
                      try clear hx1
                      try clear c2
                      try clear p2
                      try clear q2
                      try clear hx2
                      try clear c3
                      try clear c4
                      try clear c6
                      try clear c6b0
                      try clear c6b1
                      try clear p6
                      try clear c7
                      try clear c9
                      try clear c10
                      try clear c13
                      try clear c14
                      try clear c14b0
                      try clear c14b1
                      try clear c15
                      try clear c16
                      try clear c16b0
                      try clear c17
                      try clear c17b0
                      try clear p18
                      try clear q18
                      try clear hx18
                      try clear c19
                      try clear c19b0
                      try clear p20
                      try clear q20
                      try clear hx20
                      try clear c21
                      try clear c21b0
                      try clear p22
                      try clear q22
                      try clear hx22
                      try clear c23
                      try clear c23b0
                      try clear p24
                      try clear q24
                      try clear hx24
                      try clear c25
                      try clear c25b0
                      try clear p26
                      try clear q26
                      try clear hx26
                      try clear c27
                      try clear c27b0
                      try clear p28
                      try clear q28
                      try clear hx28
                      try clear c29
                      try clear c29b0
                      try clear c33
                      try clear c35
                      try clear c35b0
                      try clear c35b1
                      try clear p18
                      try clear p2
                      try clear p20
                      try clear p22
                      try clear p24
                      try clear p26
                      try clear p28
                      try clear p6
                      try clear q18
                      try clear q20
                      try clear q22
                      try clear q24
                      try clear q26
                      try clear q28
                      obtain ⟨kq, x98_30, rfl, HA, HJ30, HB⟩ := hcut
                      cases kq with
                      | zero => exact absurd HA.out (by simp [agoralaw03_SumHexes.j3])
                      | succ kj30 =>
                        have H := HA.out
                        clear HA
                        simp only [agoralaw03_SumHexes.j3] at H
                        by_cases c38 : x98_30 = true
                        · subst c38
                          have H1 : (none) = some r := by rw [if_pos rfl] at H; exact H
                          clear H
                          have H := H1
                          clear H1
                          exact absurd H (by simp)
                        · replace c38 := Bool.eq_false_iff.mpr c38
                          subst c38
                          have H1 : (if t228.size + 1 ≤ 9223372036854775807 then ((sum_Unhex.f kj30 (t228 ++ (⟨#[48]⟩ : ByteArray))).bind fun bt234 => (if t228.size + 2 ≤ 9223372036854775807 then ((sum_Unhex.f kj30 (t228 ++ (⟨#[65, 48]⟩ : ByteArray))).bind fun bt236 => (if t227 = true then (if bt234.2 = true then (none) else (some (!bt236.2))) else (none))) else (none))) else (none)) = some r := by rw [if_neg (show ¬ (false = true) by decide)] at H; exact H
                          clear H
                          have H := H1
                          clear H1
                          by_cases c39 : t228.size + 1 ≤ 9223372036854775807
                          · rw [if_pos c39] at H
                            have c39b0 := eq_true c39
                            have c39b1 : decide (t228.size + 1 ≤ 9223372036854775807) = true := decide_eq_true c39
                            try have c39b2 : (9223372036854775807 < t228.size + 1) = False := eq_false (Nat.not_lt.2 c39)
                            replace H := Option.bind_eq_some_iff.mp H
                            obtain ⟨⟨t234, t235⟩, A400, H⟩ := H
                            replace H : (if t228.size + 2 ≤ 9223372036854775807 then ((sum_Unhex.f kj30 (t228 ++ (⟨#[65, 48]⟩ : ByteArray))).bind fun bt236 => (if t227 = true then (if t235 = true then (none) else (some (!bt236.2))) else (none))) else (none)) = some r := H
                            have A40 := Aside0.mk A400
                            clear A400
                            by_cases c41 : t228.size + 2 ≤ 9223372036854775807
                            · rw [if_pos c41] at H
                              have c41b0 := eq_true c41
                              have c41b1 : decide (t228.size + 2 ≤ 9223372036854775807) = true := decide_eq_true c41
                              try have c41b2 : (9223372036854775807 < t228.size + 2) = False := eq_false (Nat.not_lt.2 c41)
                              replace H := Option.bind_eq_some_iff.mp H
                              obtain ⟨⟨t236, t237⟩, A420, H⟩ := H
                              replace H : (if t227 = true then (if t235 = true then (none) else (some (!t237))) else (none)) = some r := H
                              have A42 := Aside0.mk A420
                              clear A420
                              by_cases c43 : t227 = true
                              · subst c43
                                have H1 : (if t235 = true then (none) else (some (!t237))) = some r := by rw [if_pos rfl] at H; exact H
                                clear H
                                have H := H1
                                clear H1
                                by_cases c44 : t235 = true
                                · subst c44
                                  have H1 : (none) = some r := by rw [if_pos rfl] at H; exact H
                                  clear H
                                  have H := H1
                                  clear H1
                                  exact absurd H (by simp)
                                · replace c44 := Bool.eq_false_iff.mpr c44
                                  subst c44
                                  have H1 : (some (!t237)) = some r := by rw [if_neg (show ¬ (false = true) by decide)] at H; exact H
                                  clear H
                                  have H := H1
                                  clear H1
                                  obtain rfl := Option.some.inj H
                                  go_wp2_with (first | ((with_reducible refine gate_callee (f := 10) rfl ?_); refine goesL_ (some 102) rfl rfl Try.func10 (by kernel_rfl) rfl #[.string (t228 ++ (⟨#[48]⟩ : ByteArray))] rfl (by (try simp only [List.map_toArray, List.map_cons, List.map_nil]); first | done | rfl | (simp only [List.length_drop, List.length_take]; rfl)) ?_; (with_reducible refine (sum_Unhex.calls kj30 (t228 ++ (⟨#[48]⟩ : ByteArray)) t234 false _ A40.out).mono ?_); rintro e w45 ⟨rfl, hb⟩; refine ⟨_, rfl, ?_⟩; have n0_ := Aside0.mk (below_step (by repeat (first | (with_reducible first | exact HB.out | apply below_alloc | apply pw_below_drewN | apply below_drew1) | exact HB.out)) hb); clear HB; have HB := n0_; clear n0_; (try clear hb); (try clear hb2); (try clear hk); (try clear hi)) | ((with_reducible refine gate_callee (f := 10) rfl ?_); refine goesL_ (some 108) rfl rfl Try.func10 (by kernel_rfl) rfl #[.string (t228 ++ (⟨#[65, 48]⟩ : ByteArray))] rfl (by (try simp only [List.map_toArray, List.map_cons, List.map_nil]); first | done | rfl | (simp only [List.length_drop, List.length_take]; rfl)) ?_; (with_reducible refine (sum_Unhex.calls kj30 (t228 ++ (⟨#[65, 48]⟩ : ByteArray)) t236 t237 _ A42.out).mono ?_); rintro e w46 ⟨rfl, hb⟩; refine ⟨_, rfl, ?_⟩; have n0_ := Aside0.mk (below_step (by repeat (first | (with_reducible first | exact HB.out | apply below_alloc | apply pw_below_drewN | apply below_drew1) | exact HB.out)) hb); clear HB; have HB := n0_; clear n0_; (try clear hb); (try clear hb2); (try clear hk); (try clear hi)))
                                  go_ret
                                  exact ⟨by first | rfl | (simp [errW_none, errW_some] <;> rfl) | (simp [*, errW_none, errW_some] <;> rfl), by repeat (first | (with_reducible first | exact HB.out | apply below_alloc | apply pw_below_drewN | apply below_drew1) | exact HB.out)⟩
                              · replace c43 := Bool.eq_false_iff.mpr c43
                                subst c43
                                have H1 : (none) = some r := by rw [if_neg (show ¬ (false = true) by decide)] at H; exact H
                                clear H
                                have H := H1
                                clear H1
                                exact absurd H (by simp)
                            · rw [if_neg c41] at H
                              exact absurd H (by simp)
                          · rw [if_neg c39] at H
                            exact absurd H (by simp)

/-- THE ONE PURE STATEMENT of agoralaw03_SumHexes: yours. -/
def agoralaw03_SumHexes.Pure : Prop := ∀ (a0 : ByteArray) (a1 : ByteArray), a0.size ≤ 140737488351232 → a1.size ≤ 140737488351232 → ∃ k, agoralaw03_SumHexes.f k a0 a1 = some true
theorem agoralaw03_SumHexes.walk (P : agoralaw03_SumHexes.Pure) (a0 : ByteArray) (a1 : ByteArray) (w : World) (w0 : a0.size ≤ 140737488351232) (w1 : a1.size ≤ 140737488351232) :
    Calls Try.prog 4 #[.string a0, .string a1] w fun e w' => e = .returned (.bool true) ∧ Below w.heap.size w w' := by
  obtain ⟨k, h⟩ := P a0 a1 w0 w1
  refine (agoralaw03_SumHexes.calls k a0 a1 true w h).mono ?_
  rintro e w' ⟨rfl, hd⟩
  exact ⟨rfl, hd⟩

end Go.Proofs.Ytloieoneckjjeaa.P
