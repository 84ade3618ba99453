/- Functions of the given program as plain Lean functions, each with the proof that a call of it comes to what that function says (no conditions beside those in the statements). Written by a program of the session (myprint.py). -/
import Derived.Test.YtloieoneckjjeaaP0
import Derived.Test.YtloieoneckjjeaaP2
import Derived.Test.YtloieoneckjjeaaP3
import Derived.Test.YtloieoneckjjeaaFlip
namespace Go.Proofs.Ytloieoneckjjeaa.P
open Go.RowKit Go.Proofs.YtloieoneckjjeaaW.PrintWords Go.Proofs.YtloieoneckjjeaaW.PrintLast Go.Proofs.YtloieoneckjjeaaW.PrintMore
attribute [local go_sem] max2_int min2_int max_two min_two max_three min_three max_four min_four   -- for this text's walks alone
set_option linter.unusedVariables false
set_option linter.unusedSimpArgs false

/-! ### agoralaw03_SumDetects: function 5 -/
def agoralaw03_SumDetects.j0 : Nat → ByteArray → Int → Int → Bool → Bool → Option (Bool)
  | 0, _, _, _, _, _ => none
  | k + 1, x0, x1, x2, x7, x21 => if x21 = true then (some x7) else ((agoralaw03_flip.f x0 x1 x2).bind fun bt239 => (if x7 = true then ((sum_Crc.f k x0).bind fun t241 => ((sum_Crc.f k bt239.1).bind fun t242 => (some ((t241 != t242) == bt239.2)))) else (none)))
def agoralaw03_SumDetects.f (k : Nat) (a0 : ByteArray) (a1 : Int) (a2 : Int) : Option (Bool) := (agoralaw03_small.f k).bind fun t238 => (if (a0.size : Int) > 4000 then (agoralaw03_SumDetects.j0 k a0 a1 a2 t238 true) else (if a1 < (-32) then (agoralaw03_SumDetects.j0 k a0 a1 a2 t238 true) else (agoralaw03_SumDetects.j0 k a0 a1 a2 t238 (decide (a1 > 32000)))))
theorem agoralaw03_SumDetects.mono_l : ∀ k, (∀ y0 y1 y2 y3 y4, LeO (agoralaw03_SumDetects.j0 k y0 y1 y2 y3 y4) (agoralaw03_SumDetects.j0 (k + 1) y0 y1 y2 y3 y4))
  | 0 => fun _ _ _ _ _ r h => by simp [agoralaw03_SumDetects.j0] at h
  | k + 1 => by
    have ih0 := agoralaw03_SumDetects.mono_l k
    · intro y0 y1 y2 y3 y4
      unfold agoralaw03_SumDetects.j0
      repeat' first
      | (with_reducible exact ih0 _ _ _ _ _)
      | (with_reducible exact agoralaw03_small.mono _)
      | (with_reducible exact sum_Crc.mono _ _)
      | (with_reducible exact LeO.refl _)
      | (with_reducible exact LeO.none _)
      | (with_reducible refine LeO.ite ?_ ?_)
      | (with_reducible refine LeO.bind ?_ (fun _ => ?_))
      | exact ih0 _ _ _ _ _
      | exact agoralaw03_small.mono _
      | exact sum_Crc.mono _ _
      | exact LeO.none _
      | refine LeO.ite ?_ ?_
      | refine LeO.bind ?_ (fun _ => ?_)
theorem agoralaw03_SumDetects.mono : ∀ a0 a1 a2 k, LeO (agoralaw03_SumDetects.f k a0 a1 a2) (agoralaw03_SumDetects.f (k + 1) a0 a1 a2) := by
  intro a0 a1 a2 k
  have ih0 := agoralaw03_SumDetects.mono_l k
  unfold agoralaw03_SumDetects.f
  repeat' first
      | (with_reducible exact ih0 _ _ _ _ _)
      | (with_reducible exact agoralaw03_small.mono _)
      | (with_reducible exact sum_Crc.mono _ _)
      | (with_reducible exact LeO.refl _)
      | (with_reducible exact LeO.none _)
      | (with_reducible refine LeO.ite ?_ ?_)
      | (with_reducible refine LeO.bind ?_ (fun _ => ?_))
      | exact ih0 _ _ _ _ _
      | exact agoralaw03_small.mono _
      | exact sum_Crc.mono _ _
      | exact LeO.none _
      | refine LeO.ite ?_ ?_
      | refine LeO.bind ?_ (fun _ => ?_)
set_option maxHeartbeats 8000000 in
set_option maxRecDepth 100000 in
theorem agoralaw03_SumDetects.calls (k : Nat) (a0 : ByteArray) (a1 : Int) (a2 : Int) (r : Bool) (w : World) (h : agoralaw03_SumDetects.f k a0 a1 a2 = some r) :
    Calls Try.prog 5 #[.string a0, .int .i64 a1, .int .u32 a2] w fun e w' => e = .returned (.bool r) ∧ Below w.heap.size w w' := by
  have HB := Aside0.mk (Below.refl w.heap.size w)
  have H : ((agoralaw03_small.f k).bind fun t238 => (if (a0.size : Int) > 4000 then (agoralaw03_SumDetects.j0 k a0 a1 a2 t238 true) else (if a1 < (-32) then (agoralaw03_SumDetects.j0 k a0 a1 a2 t238 true) else (agoralaw03_SumDetects.j0 k a0 a1 a2 t238 (decide (a1 > 32000)))))) = some r := h
  clear h
  replace H := Option.bind_eq_some_iff.mp H
  obtain ⟨t238, A40, H⟩ := H
  replace H : (if (a0.size : Int) > 4000 then (agoralaw03_SumDetects.j0 k a0 a1 a2 t238 true) else (if a1 < (-32) then (agoralaw03_SumDetects.j0 k a0 a1 a2 t238 true) else (agoralaw03_SumDetects.j0 k a0 a1 a2 t238 (decide (a1 > 32000))))) = some r := H
  have A4 := Aside0.mk A40
  clear A40
  have HC5 := Aside0.mk H
  clear H
  go_enter Try.func5, Try.ntmps5
  go_upto_region 2 with (first | ((with_reducible refine gate_callee (f := 9) rfl ?_); refine goesL_ (some 10) rfl rfl Try.func9 (by kernel_rfl) rfl #[] rfl (by (try simp only [List.map_toArray, List.map_cons, List.map_nil]); first | done | rfl | (simp only [List.length_drop, List.length_take]; rfl)) ?_; (with_reducible refine (agoralaw03_small.calls k  t238 _ A4.out).mono ?_); rintro e w6 ⟨rfl, hb⟩; refine ⟨_, rfl, ?_⟩; have n0_ := Aside0.mk (below_step (by repeat (first | (with_reducible first | exact HB.out | apply below_alloc | apply pw_below_drewN | apply below_drew1) | exact HB.out)) hb); clear HB; have HB := n0_; clear n0_; (try clear hb); (try clear hb2); (try clear hk); (try clear hi)))
  (try simp only [Act.put, List.setIfInBounds_toArray, List.set_cons_zero, List.set_cons_succ])
  go_cut [21] (fun v21 wc => ∃ (kq : Nat) (x21_4 : Bool), v21 = .bool x21_4 ∧ Aside0 (agoralaw03_SumDetects.j0 kq a0 a1 a2 t238 x21_4 = some r) ∧ Aside0 (kq ≤ k) ∧ Aside0 (Below w.heap.size w wc))
  case first =>
    have H := HC5.out
    clear HC5
    by_cases c7 : (a0.size : Int) > 4000
    · rw [if_pos c7] at H
      have c7b0 : decide (4000 < (a0.size : Int)) = true := decide_eq_true c7
      have c7b1 : decide (4000 < a0.size) = true := decide_eq_true (by omega)
      clear c7
      (first | rw [c7b0] | (simp only [i64_w, i32_w]; rw [c7b0]) | skip)
      have H' := Aside0.mk H
      clear H
      go_wp2
      go_meet
      case rel => exact ⟨_, (true), (by first | rfl | (simp; done) | (simp [*]; done)), H', ⟨by first | omega | exact Nat.le_refl _⟩, ⟨by repeat (first | (with_reducible first | exact HB.out | apply below_alloc | apply pw_below_drewN | apply below_drew1) | exact HB.out)⟩⟩
    · rw [if_neg c7] at H
      have c7b0 : decide (4000 < (a0.size : Int)) = false := decide_eq_false c7
      have c7b1 : decide (4000 < a0.size) = false := decide_eq_false (by omega)
      clear c7
      (first | rw [c7b0] | (simp only [i64_w, i32_w]; rw [c7b0]) | skip)
      by_cases c8 : a1 < (-32)
      · rw [if_pos c8] at H
        have c8b0 : decide (a1 < (-32)) = true := decide_eq_true c8
        clear c8
        have H' := Aside0.mk H
        clear H
        go_wp2
        go_meet
        case rel => exact ⟨_, (true), (by first | rfl | (simp; done) | (simp [*]; done)), H', ⟨by first | omega | exact Nat.le_refl _⟩, ⟨by repeat (first | (with_reducible first | exact HB.out | apply below_alloc | apply pw_below_drewN | apply below_drew1) | exact HB.out)⟩⟩
      · rw [if_neg c8] at H
        have c8b0 : decide (a1 < (-32)) = false := decide_eq_false c8
        clear c8
        have H' := Aside0.mk H
        clear H
        go_wp2
        go_meet
        case rel => exact ⟨_, (decide (a1 > 32000)), (by first | rfl | (simp; done) | (simp [*]; done)), H', ⟨by first | omega | exact Nat.le_refl _⟩, ⟨by repeat (first | (with_reducible first | exact HB.out | apply below_alloc | apply pw_below_drewN | apply below_drew1) | exact HB.out)⟩⟩
  case rest =>
    clear HC5
    try clear p2
    try clear c5
    try clear c7
    try clear c7b0
    try clear c7b1
    try clear c8
    try clear c8b0
    obtain ⟨kq, x21_4, rfl, HA, HJ4, HB⟩ := hcut
    cases kq with
    | zero => exact absurd HA.out (by simp [agoralaw03_SumDetects.j0])
    | succ kj4 =>
      have H := HA.out
      clear HA
      simp only [agoralaw03_SumDetects.j0] at H
      by_cases c9 : x21_4 = true
      · subst c9
        have H1 : (some t238) = some r := by rw [if_pos rfl] at H; exact H
        clear H
        have H := H1
        clear H1
        obtain rfl := Option.some.inj H
        go_wp2
        go_ret
        exact ⟨by first | rfl | (simp [errW_none, errW_some] <;> rfl) | (simp [*, errW_none, errW_some] <;> rfl), by repeat (first | (with_reducible first | exact HB.out | apply below_alloc | apply pw_below_drewN | apply below_drew1) | exact HB.out)⟩
      · replace c9 := Bool.eq_false_iff.mpr c9
        subst c9
        have H1 : ((agoralaw03_flip.f a0 a1 a2).bind fun bt239 => (if t238 = true then ((sum_Crc.f kj4 a0).bind fun t241 => ((sum_Crc.f kj4 bt239.1).bind fun t242 => (some ((t241 != t242) == bt239.2)))) else (none))) = some r := by rw [if_neg (show ¬ (false = true) by decide)] at H; exact H
        clear H
        have H := H1
        clear H1
        replace H := Option.bind_eq_some_iff.mp H
        obtain ⟨⟨t239, t240⟩, A100, H⟩ := H
        replace H : (if t238 = true then ((sum_Crc.f kj4 a0).bind fun t241 => ((sum_Crc.f kj4 t239).bind fun t242 => (some ((t241 != t242) == t240)))) else (none)) = some r := H
        have A10 := Aside0.mk A100
        clear A100
        by_cases c11 : t238 = true
        · subst c11
          have H1 : ((sum_Crc.f kj4 a0).bind fun t241 => ((sum_Crc.f kj4 t239).bind fun t242 => (some ((t241 != t242) == t240)))) = some r := by rw [if_pos rfl] at H; exact H
          clear H
          have H := H1
          clear H1
          replace H := Option.bind_eq_some_iff.mp H
          obtain ⟨t241, A120, H⟩ := H
          replace H : ((sum_Crc.f kj4 t239).bind fun t242 => (some ((t241 != t242) == t240))) = some r := H
          have A12 := Aside0.mk A120
          clear A120
          replace H := Option.bind_eq_some_iff.mp H
          obtain ⟨t242, A130, H⟩ := H
          replace H : (some ((t241 != t242) == t240)) = some r := H
          have A13 := Aside0.mk A130
          clear A130
          obtain rfl := Option.some.inj H
          go_wp2_with (first | ((with_reducible refine gate_callee (f := 20) rfl ?_); refine goesL_ (some 27) rfl rfl Try.func20 (by kernel_rfl) rfl #[.string a0, .int .i64 a1, .int .u32 a2] rfl (by (try simp only [List.map_toArray, List.map_cons, List.map_nil]); first | done | rfl | (simp only [List.length_drop, List.length_take]; rfl)) ?_; (with_reducible refine (agoralaw03_flip.calls a0 a1 a2 t239 t240 _ A10.out).mono ?_); rintro e w14 ⟨rfl, hb⟩; refine ⟨_, rfl, ?_⟩; have n0_ := Aside0.mk (below_step (by repeat (first | (with_reducible first | exact HB.out | apply below_alloc | apply pw_below_drewN | apply below_drew1) | exact HB.out)) hb); clear HB; have HB := n0_; clear n0_; (try clear hb); (try clear hb2); (try clear hk); (try clear hi)) | (go_at_call 12; (with_reducible refine (sum_Crc.calls kj4 a0 t241 _ A12.out).mono ?_); rintro e w' ⟨rfl, ⟨nd, rfl⟩⟩) | (go_at_call 12; (with_reducible refine (sum_Crc.calls kj4 t239 t242 _ A13.out).mono ?_); rintro e w' ⟨rfl, ⟨nd, rfl⟩⟩))
          go_ret
          exact ⟨by first | rfl | (simp [errW_none, errW_some] <;> rfl) | (simp [*, errW_none, errW_some] <;> rfl), by repeat (first | (with_reducible first | exact HB.out | apply below_alloc | apply pw_below_drewN | apply below_drew1) | exact HB.out)⟩
        · replace c11 := Bool.eq_false_iff.mpr c11
          subst c11
          have H1 : (none) = some r := by rw [if_neg (show ¬ (false = true) by decide)] at H; exact H
          clear H
          have H := H1
          clear H1
          exact absurd H (by simp)

/-- THE ONE PURE STATEMENT of agoralaw03_SumDetects: yours. -/
def agoralaw03_SumDetects.Pure : Prop := ∀ (a0 : ByteArray) (a1 : Int) (a2 : Int), a0.size ≤ 140737488351232 → (Lit.int .i64 a1).wf = true → (Lit.int .u32 a2).wf = true → ∃ k, agoralaw03_SumDetects.f k a0 a1 a2 = some true
theorem agoralaw03_SumDetects.walk (P : agoralaw03_SumDetects.Pure) (a0 : ByteArray) (a1 : Int) (a2 : Int) (w : World) (w0 : a0.size ≤ 140737488351232) (w1 : (Lit.int .i64 a1).wf = true) (w2 : (Lit.int .u32 a2).wf = true) :
    Calls Try.prog 5 #[.string a0, .int .i64 a1, .int .u32 a2] w fun e w' => e = .returned (.bool true) ∧ Below w.heap.size w w' := by
  obtain ⟨k, h⟩ := P a0 a1 a2 w0 w1 w2
  refine (agoralaw03_SumDetects.calls k a0 a1 a2 true w h).mono ?_
  rintro e w' ⟨rfl, hd⟩
  exact ⟨rfl, hd⟩

/-! ### agoralaw03_SumResidue: function 6 -/
def agoralaw03_SumResidue.f (k : Nat) (a0 : ByteArray) (a1 : Int) : Option (Bool) := (agoralaw03_small.f k).bind fun t243 => (if (a0.size : Int) > 4000 then (some t243) else ((sum_Crc.f k a0).bind fun t244 => ((some (([(t244) % 256, (t244 / 256) % 256, (t244 / 65536) % 256, (t244 / 16777216) % 256] : List Int) : List Int)).bind fun y245 => ((some (([(a1) % 256, (a1 / 256) % 256, (a1 / 65536) % 256, (a1 / 16777216) % 256] : List Int) : List Int)).bind fun y248 => (if t243 = true then (if a0.size + (strOfNums y245).size ≤ 9223372036854775807 then ((sum_Crc.f k (a0 ++ (strOfNums y245))).bind fun t251 => (if t251 = 1214729159 then (if a0.size + (strOfNums y248).size ≤ 9223372036854775807 then ((sum_Crc.f k (a0 ++ (strOfNums y248))).bind fun t252 => (some ((t252 == 1214729159) == (a1 == t244)))) else (none)) else (none))) else (none)) else (none))))))
theorem agoralaw03_SumResidue.mono : ∀ a0 a1 k, LeO (agoralaw03_SumResidue.f k a0 a1) (agoralaw03_SumResidue.f (k + 1) a0 a1) := by
  intro a0 a1 k
  unfold agoralaw03_SumResidue.f
  repeat' first
      | (with_reducible exact agoralaw03_small.mono _)
      | (with_reducible exact sum_Crc.mono _ _)
      | (with_reducible exact LeO.refl _)
      | (with_reducible exact LeO.none _)
      | (with_reducible refine LeO.ite ?_ ?_)
      | (with_reducible refine LeO.bind ?_ (fun _ => ?_))
      | exact agoralaw03_small.mono _
      | exact sum_Crc.mono _ _
      | exact LeO.none _
      | refine LeO.ite ?_ ?_
      | refine LeO.bind ?_ (fun _ => ?_)
set_option maxHeartbeats 8000000 in
set_option maxRecDepth 100000 in
theorem agoralaw03_SumResidue.calls (k : Nat) (a0 : ByteArray) (a1 : Int) (r : Bool) (w : World) (h : agoralaw03_SumResidue.f k a0 a1 = some r) :
    Calls Try.prog 6 #[.string a0, .int .u32 a1] w fun e w' => e = .returned (.bool r) ∧ Below w.heap.size w w' := by
  have HB := Aside0.mk (Below.refl w.heap.size w)
  have H : ((agoralaw03_small.f k).bind fun t243 => (if (a0.size : Int) > 4000 then (some t243) else ((sum_Crc.f k a0).bind fun t244 => ((some (([(t244) % 256, (t244 / 256) % 256, (t244 / 65536) % 256, (t244 / 16777216) % 256] : List Int) : List Int)).bind fun y245 => ((some (([(a1) % 256, (a1 / 256) % 256, (a1 / 65536) % 256, (a1 / 16777216) % 256] : List Int) : List Int)).bind fun y248 => (if t243 = true then (if a0.size + (strOfNums y245).size ≤ 9223372036854775807 then ((sum_Crc.f k (a0 ++ (strOfNums y245))).bind fun t251 => (if t251 = 1214729159 then (if a0.size + (strOfNums y248).size ≤ 9223372036854775807 then ((sum_Crc.f k (a0 ++ (strOfNums y248))).bind fun t252 => (some ((t252 == 1214729159) == (a1 == t244)))) else (none)) else (none))) else (none)) else (none))))))) = some r := h
  clear h
  replace H := Option.bind_eq_some_iff.mp H
  obtain ⟨t243, A30, H⟩ := H
  replace H : (if (a0.size : Int) > 4000 then (some t243) else ((sum_Crc.f k a0).bind fun t244 => ((some (([(t244) % 256, (t244 / 256) % 256, (t244 / 65536) % 256, (t244 / 16777216) % 256] : List Int) : List Int)).bind fun y245 => ((some (([(a1) % 256, (a1 / 256) % 256, (a1 / 65536) % 256, (a1 / 16777216) % 256] : List Int) : List Int)).bind fun y248 => (if t243 = true then (if a0.size + (strOfNums y245).size ≤ 9223372036854775807 then ((sum_Crc.f k (a0 ++ (strOfNums y245))).bind fun t251 => (if t251 = 1214729159 then (if a0.size + (strOfNums y248).size ≤ 9223372036854775807 then ((sum_Crc.f k (a0 ++ (strOfNums y248))).bind fun t252 => (some ((t252 == 1214729159) == (a1 == t244)))) else (none)) else (none))) else (none)) else (none)))))) = some r := H
  have A3 := Aside0.mk A30
  clear A30
  by_cases c4 : (a0.size : Int) > 4000
  · rw [if_pos c4] at H
    have c4b0 : decide (4000 < (a0.size : Int)) = true := decide_eq_true c4
    have c4b1 : decide (4000 < a0.size) = true := decide_eq_true (by omega)
    clear c4
    obtain rfl := Option.some.inj H
    go_enter Try.func6, Try.ntmps6
    go_wp2_with (first | ((with_reducible refine gate_callee (f := 9) rfl ?_); refine goesL_ (some 9) rfl rfl Try.func9 (by kernel_rfl) rfl #[] rfl (by (try simp only [List.map_toArray, List.map_cons, List.map_nil]); first | done | rfl | (simp only [List.length_drop, List.length_take]; rfl)) ?_; (with_reducible refine (agoralaw03_small.calls k  t243 _ A3.out).mono ?_); rintro e w5 ⟨rfl, hb⟩; refine ⟨_, rfl, ?_⟩; have n0_ := Aside0.mk (below_step (by repeat (first | (with_reducible first | exact HB.out | apply below_alloc | apply pw_below_drewN | apply below_drew1) | exact HB.out)) hb); clear HB; have HB := n0_; clear n0_; (try clear hb); (try clear hb2); (try clear hk); (try clear hi)))
    go_ret
    exact ⟨by first | rfl | (simp [errW_none, errW_some] <;> rfl) | (simp [*, errW_none, errW_some] <;> rfl), by repeat (first | (with_reducible first | exact HB.out | apply below_alloc | apply pw_below_drewN | apply below_drew1) | exact HB.out)⟩
  · rw [if_neg c4] at H
    have c4b0 : decide (4000 < (a0.size : Int)) = false := decide_eq_false c4
    have c4b1 : decide (4000 < a0.size) = false := decide_eq_false (by omega)
    clear c4
    replace H := Option.bind_eq_some_iff.mp H
    obtain ⟨t244, A60, H⟩ := H
    replace H : ((some (([(t244) % 256, (t244 / 256) % 256, (t244 / 65536) % 256, (t244 / 16777216) % 256] : List Int) : List Int)).bind fun y245 => ((some (([(a1) % 256, (a1 / 256) % 256, (a1 / 65536) % 256, (a1 / 16777216) % 256] : List Int) : List Int)).bind fun y248 => (if t243 = true then (if a0.size + (strOfNums y245).size ≤ 9223372036854775807 then ((sum_Crc.f k (a0 ++ (strOfNums y245))).bind fun t251 => (if t251 = 1214729159 then (if a0.size + (strOfNums y248).size ≤ 9223372036854775807 then ((sum_Crc.f k (a0 ++ (strOfNums y248))).bind fun t252 => (some ((t252 == 1214729159) == (a1 == t244)))) else (none)) else (none))) else (none)) else (none)))) = some r := H
    have A6 := Aside0.mk A60
    clear A60
    obtain ⟨y245, hy245⟩ : ∃ y_ : List Int, y_ = (([(t244) % 256, (t244 / 256) % 256, (t244 / 65536) % 256, (t244 / 16777216) % 256] : List Int)) := ⟨_, rfl⟩
    replace H : ((some (([(a1) % 256, (a1 / 256) % 256, (a1 / 65536) % 256, (a1 / 16777216) % 256] : List Int) : List Int)).bind fun y248 => (if t243 = true then (if a0.size + (strOfNums y245).size ≤ 9223372036854775807 then ((sum_Crc.f k (a0 ++ (strOfNums y245))).bind fun t251 => (if t251 = 1214729159 then (if a0.size + (strOfNums y248).size ≤ 9223372036854775807 then ((sum_Crc.f k (a0 ++ (strOfNums y248))).bind fun t252 => (some ((t252 == 1214729159) == (a1 == t244)))) else (none)) else (none))) else (none)) else (none))) = some r := by first | (rw [hy245]; with_reducible exact H) | (have H2_ := (Option.bind_some _ _).symm.trans H; rw [hy245]; with_reducible exact H2_) | (have H2_ := (Option.bind_some _ _).symm.trans H; with_reducible exact H2_) | with_reducible exact H | (rw [hy245]; exact H) | exact H
    have Ny245 := Aside0.mk hy245
    clear hy245
    obtain ⟨y248, hy248⟩ : ∃ y_ : List Int, y_ = (([(a1) % 256, (a1 / 256) % 256, (a1 / 65536) % 256, (a1 / 16777216) % 256] : List Int)) := ⟨_, rfl⟩
    replace H : (if t243 = true then (if a0.size + (strOfNums y245).size ≤ 9223372036854775807 then ((sum_Crc.f k (a0 ++ (strOfNums y245))).bind fun t251 => (if t251 = 1214729159 then (if a0.size + (strOfNums y248).size ≤ 9223372036854775807 then ((sum_Crc.f k (a0 ++ (strOfNums y248))).bind fun t252 => (some ((t252 == 1214729159) == (a1 == t244)))) else (none)) else (none))) else (none)) else (none)) = some r := by first | (rw [hy248]; with_reducible exact H) | (have H2_ := (Option.bind_some _ _).symm.trans H; rw [hy248]; with_reducible exact H2_) | (have H2_ := (Option.bind_some _ _).symm.trans H; with_reducible exact H2_) | with_reducible exact H | (rw [hy248]; exact H) | exact H
    have Ny248 := Aside0.mk hy248
    clear hy248
    by_cases c7 : t243 = true
    · subst c7
      have H1 : (if a0.size + (strOfNums y245).size ≤ 9223372036854775807 then ((sum_Crc.f k (a0 ++ (strOfNums y245))).bind fun t251 => (if t251 = 1214729159 then (if a0.size + (strOfNums y248).size ≤ 9223372036854775807 then ((sum_Crc.f k (a0 ++ (strOfNums y248))).bind fun t252 => (some ((t252 == 1214729159) == (a1 == t244)))) else (none)) else (none))) else (none)) = some r := by rw [if_pos rfl] at H; exact H
      clear H
      have H := H1
      clear H1
      by_cases c8 : a0.size + (strOfNums y245).size ≤ 9223372036854775807
      · rw [if_pos c8] at H
        have c8b0 := eq_true c8
        have c8b1 : decide (a0.size + (strOfNums y245).size ≤ 9223372036854775807) = true := decide_eq_true c8
        try have c8b2 : (9223372036854775807 < a0.size + (strOfNums y245).size) = False := eq_false (Nat.not_lt.2 c8)
        replace H := Option.bind_eq_some_iff.mp H
        obtain ⟨t251, A90, H⟩ := H
        replace H : (if t251 = 1214729159 then (if a0.size + (strOfNums y248).size ≤ 9223372036854775807 then ((sum_Crc.f k (a0 ++ (strOfNums y248))).bind fun t252 => (some ((t252 == 1214729159) == (a1 == t244)))) else (none)) else (none)) = some r := H
        have A9 := Aside0.mk A90
        clear A90
        by_cases c10 : t251 = 1214729159
        · rw [if_pos c10] at H
          have c10b0 : (t251 == 1214729159) = true := beq_iff_eq.mpr c10
          have c10b1 : (t251 != 1214729159) = false := bne_eq_false_iff_eq.mpr c10
          clear c10
          by_cases c11 : a0.size + (strOfNums y248).size ≤ 9223372036854775807
          · rw [if_pos c11] at H
            have c11b0 := eq_true c11
            have c11b1 : decide (a0.size + (strOfNums y248).size ≤ 9223372036854775807) = true := decide_eq_true c11
            try have c11b2 : (9223372036854775807 < a0.size + (strOfNums y248).size) = False := eq_false (Nat.not_lt.2 c11)
            replace H := Option.bind_eq_some_iff.mp H
            obtain ⟨t252, A120, H⟩ := H
            replace H : (some ((t252 == 1214729159) == (a1 == t244))) = some r := H
            have A12 := Aside0.mk A120
            clear A120
            obtain rfl := Option.some.inj H
            go_enter Try.func6, Try.ntmps6
            go_wp2_with (first | ((with_reducible refine gate_callee (f := 9) rfl ?_); refine goesL_ (some 9) rfl rfl Try.func9 (by kernel_rfl) rfl #[] rfl (by (try simp only [List.map_toArray, List.map_cons, List.map_nil]); first | done | rfl | (simp only [List.length_drop, List.length_take]; rfl)) ?_; (with_reducible refine (agoralaw03_small.calls k  true _ A3.out).mono ?_); rintro e w13 ⟨rfl, hb⟩; refine ⟨_, rfl, ?_⟩; have n0_ := Aside0.mk (below_step (by repeat (first | (with_reducible first | exact HB.out | apply below_alloc | apply pw_below_drewN | apply below_drew1) | exact HB.out)) hb); clear HB; have HB := n0_; clear n0_; (try clear hb); (try clear hb2); (try clear hk); (try clear hi)) | ((with_reducible refine gate_callee (f := 12) rfl ?_); refine goesL_ (some 15) rfl rfl Try.func12 (by kernel_rfl) rfl #[.string a0] rfl (by (try simp only [List.map_toArray, List.map_cons, List.map_nil]); first | done | rfl | (simp only [List.length_drop, List.length_take]; rfl)) ?_; (with_reducible refine (sum_Crc.calls k a0 t244 _ A6.out).mono ?_); rintro e w' ⟨rfl, ⟨nd, rfl⟩⟩; refine ⟨_, rfl, ?_⟩) | ((with_reducible refine gate_dst (N := 27) rfl ?_); refine Kd.R_lit (Kd.int .u8) _ 5 ?hg (N := 27) ?hd (xs := ([(t244) % 256, (t244 / 256) % 256, (t244 / 65536) % 256, (t244 / 16777216) % 256] : List Int)) (inner := [.int .u8 ((t244) % 256), .int .u8 ((t244 / 256) % 256), .int .u8 ((t244 / 65536) % 256), .int .u8 ((t244 / 16777216) % 256)]) (ok := fun _ => True) (okp := fun _ => True) ?hr ?hp (fun _ hk => hk) trivial (Below.refl _ _) (Nat.le_refl _) (by simp) ?_; (case hd => rfl); (case hg => rfl); (case hr => first | (go_simp; done) | (go_simp; rfl) | (go_simp; simp only [IntKind.wrap_u32', Int.emod_add_emod, Int.add_emod_emod])); (case hp => exact (Reps.one (show Kd.M (Kd.int .u8) _ _ _ ((t244) % 256) [.int .u8 ((t244) % 256)] from rfl) (Reps.one (show Kd.M (Kd.int .u8) _ _ _ ((t244 / 256) % 256) [.int .u8 ((t244 / 256) % 256)] from rfl) (Reps.one (show Kd.M (Kd.int .u8) _ _ _ ((t244 / 65536) % 256) [.int .u8 ((t244 / 65536) % 256)] from rfl) (Reps.one (show Kd.M (Kd.int .u8) _ _ _ ((t244 / 16777216) % 256) [.int .u8 ((t244 / 16777216) % 256)] from rfl) (Reps.none _ _)))))); intro v246 w14 ho15 hb hg_ hnew_; clear hg_ hnew_; (first | rw [← Ny245.out] at ho15 | (simp only [Int.reduceToNat] at ho15; rw [← Ny245.out] at ho15)); have n0_ := Aside0.mk (Kd.R_lower ho15 (below_size (by repeat (first | (with_reducible first | exact HB.out | apply below_alloc | apply pw_below_drewN | apply below_drew1) | exact HB.out)))); have n1_ := Aside0.mk (below_step (by repeat (first | (with_reducible first | exact HB.out | apply below_alloc | apply pw_below_drewN | apply below_drew1) | exact HB.out)) hb); clear HB; have HO247 := n0_; have HB := n1_; clear n0_ n1_; clear hb ho15; have hcv16 := own_string (P := Try.prog) Try.underlying34 Try.underlying5 Try.underlying9 (Kd.own_of_R HO247.out)) | ((with_reducible refine gate_dst (N := 40) rfl ?_); refine Kd.R_lit (Kd.int .u8) _ 5 ?hg (N := 40) ?hd (xs := ([(a1) % 256, (a1 / 256) % 256, (a1 / 65536) % 256, (a1 / 16777216) % 256] : List Int)) (inner := [.int .u8 ((a1) % 256), .int .u8 ((a1 / 256) % 256), .int .u8 ((a1 / 65536) % 256), .int .u8 ((a1 / 16777216) % 256)]) (ok := fun _ => True) (okp := fun _ => True) ?hr ?hp (fun _ hk => hk) trivial (Below.refl _ _) (Nat.le_refl _) (by simp) ?_; (case hd => rfl); (case hg => rfl); (case hr => first | (go_simp; done) | (go_simp; rfl) | (go_simp; simp only [IntKind.wrap_u32', Int.emod_add_emod, Int.add_emod_emod])); (case hp => exact (Reps.one (show Kd.M (Kd.int .u8) _ _ _ ((a1) % 256) [.int .u8 ((a1) % 256)] from rfl) (Reps.one (show Kd.M (Kd.int .u8) _ _ _ ((a1 / 256) % 256) [.int .u8 ((a1 / 256) % 256)] from rfl) (Reps.one (show Kd.M (Kd.int .u8) _ _ _ ((a1 / 65536) % 256) [.int .u8 ((a1 / 65536) % 256)] from rfl) (Reps.one (show Kd.M (Kd.int .u8) _ _ _ ((a1 / 16777216) % 256) [.int .u8 ((a1 / 16777216) % 256)] from rfl) (Reps.none _ _)))))); intro v249 w17 ho18 hb hg_ hnew_; clear hg_ hnew_; (first | rw [← Ny248.out] at ho18 | (simp only [Int.reduceToNat] at ho18; rw [← Ny248.out] at ho18)); have n0_ := Aside0.mk (Kd.R_elder' (by (with_reducible repeat (first | apply Kd.R_alloc | apply Kd.R_drewN | apply Kd.R_drew)); exact HO247.out) (Kd.R_base ho18) hb); have n1_ := Aside0.mk (Kd.R_lower (Kd.R_new' ho18 (Kd.R_lt (by (with_reducible repeat (first | apply Kd.R_alloc | apply Kd.R_drewN | apply Kd.R_drew)); exact HO247.out))) (below_size (by repeat (first | (with_reducible first | exact HB.out | apply below_alloc | apply pw_below_drewN | apply below_drew1) | exact HB.out)))); have n2_ := Aside0.mk (below_step (by repeat (first | (with_reducible first | exact HB.out | apply below_alloc | apply pw_below_drewN | apply below_drew1) | exact HB.out)) hb); clear HO247; clear HB; have HO247 := n0_; have HO250 := n1_; have HB := n2_; clear n0_ n1_ n2_; clear hb ho18; have hcv19 := own_string (P := Try.prog) Try.underlying34 Try.underlying5 Try.underlying9 (Kd.own_of_R HO250.out)) | (go_at_call 12; (with_reducible refine (sum_Crc.calls k (a0 ++ (strOfNums y245)) t251 _ A9.out).mono ?_); rintro e w' ⟨rfl, ⟨nd, rfl⟩⟩) | (go_at_call 12; (with_reducible refine (sum_Crc.calls k (a0 ++ (strOfNums y248)) t252 _ A12.out).mono ?_); rintro e w' ⟨rfl, ⟨nd, rfl⟩⟩))
            go_ret
            exact ⟨by first | rfl | (simp [errW_none, errW_some] <;> rfl) | (simp [*, errW_none, errW_some] <;> rfl), by repeat (first | (with_reducible first | exact HB.out | apply below_alloc | apply pw_below_drewN | apply below_drew1) | exact HB.out)⟩
          · rw [if_neg c11] at H
            exact absurd H (by simp)
        · rw [if_neg c10] at H
          exact absurd H (by simp)
      · rw [if_neg c8] at H
        exact absurd H (by simp)
    · replace c7 := Bool.eq_false_iff.mpr c7
      subst c7
      have H1 : (none) = some r := by rw [if_neg (show ¬ (false = true) by decide)] at H; exact H
      clear H
      have H := H1
      clear H1
      exact absurd H (by simp)

/-- THE ONE PURE STATEMENT of agoralaw03_SumResidue: yours. -/
def agoralaw03_SumResidue.Pure : Prop := ∀ (a0 : ByteArray) (a1 : Int), a0.size ≤ 140737488351232 → (Lit.int .u32 a1).wf = true → ∃ k, agoralaw03_SumResidue.f k a0 a1 = some true
theorem agoralaw03_SumResidue.walk (P : agoralaw03_SumResidue.Pure) (a0 : ByteArray) (a1 : Int) (w : World) (w0 : a0.size ≤ 140737488351232) (w1 : (Lit.int .u32 a1).wf = true) :
    Calls Try.prog 6 #[.string a0, .int .u32 a1] w fun e w' => e = .returned (.bool true) ∧ Below w.heap.size w w' := by
  obtain ⟨k, h⟩ := P a0 a1 w0 w1
  refine (agoralaw03_SumResidue.calls k a0 a1 true w h).mono ?_
  rintro e w' ⟨rfl, hd⟩
  exact ⟨rfl, hd⟩

end Go.Proofs.Ytloieoneckjjeaa.P
