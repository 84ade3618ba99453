/- Functions of the given program as plain Lean functions, each with the proof that a call of it comes to what that function says (no conditions beside those in the statements). Written by a program of the session (myprint.py). -/
import Derived.Test.YtffmdbbndfmgdaaP0
import Derived.Test.YtffmdbbndfmgdaaP1
namespace Go.Proofs.Ytffmdbbndfmgdaa.P
open Go.RowKit Go.Proofs.YtffmdbbndfmgdaaW.PrintWords Go.Proofs.YtffmdbbndfmgdaaW.PrintLast Go.Proofs.YtffmdbbndfmgdaaW.PrintMore
attribute [local go_sem] max2_int min2_int max_two min_two max_three min_three max_four min_four   -- for this text's walks alone
set_option linter.unusedVariables false
set_option linter.unusedSimpArgs false

/-! ### bits_Rem64: function 31 -/
def bits_Rem64.f (k : Nat) (a0 : Int) (a1 : Int) (a2 : Int) : Option (Int) := if a2 = 0 then (none) else ((bits_Div64.f k (Int.tmod a0 a2) a1 a2).bind fun bt103 => (some bt103.2))
theorem bits_Rem64.mono : ∀ a0 a1 a2 k, LeO (bits_Rem64.f k a0 a1 a2) (bits_Rem64.f (k + 1) a0 a1 a2) := by
  intro a0 a1 a2 k
  unfold bits_Rem64.f
  repeat' first
      | (with_reducible exact bits_Div64.mono _ _ _ _)
      | (with_reducible exact LeO.refl _)
      | (with_reducible exact LeO.none _)
      | (with_reducible refine LeO.ite ?_ ?_)
      | (with_reducible refine LeO.bind ?_ (fun _ => ?_))
      | exact bits_Div64.mono _ _ _ _
      | exact LeO.none _
      | refine LeO.ite ?_ ?_
      | refine LeO.bind ?_ (fun _ => ?_)
set_option maxHeartbeats 8000000 in
set_option maxRecDepth 100000 in
theorem bits_Rem64.calls (k : Nat) (a0 : Int) (a1 : Int) (a2 : Int) (r : Int) (w : World) (h : bits_Rem64.f k a0 a1 a2 = some r) :
    Calls Try.prog 31 #[.int .u64 a0, .int .u64 a1, .int .u64 a2] w fun e w' => e = .returned (.int .u64 r) ∧ Drawn0 w w' := by
  have H : (if a2 = 0 then (none) else ((bits_Div64.f k (Int.tmod a0 a2) a1 a2).bind fun bt103 => (some bt103.2))) = some r := h
  clear h
  by_cases c4 : a2 = 0
  · rw [if_pos c4] at H
    exact absurd H (by simp)
  · rw [if_neg c4] at H
    have c4b0 : (a2 == 0) = false := beq_eq_false_iff_ne.mpr c4
    have c4b1 : (a2 != 0) = true := bne_iff_ne.mpr c4
    replace H := Option.bind_eq_some_iff.mp H
    obtain ⟨⟨t103, t104⟩, A50, H⟩ := H
    replace H : (some t104) = some r := H
    have A5 := Aside0.mk A50
    clear A50
    obtain rfl := Option.some.inj H
    go_enter Try.func31, Try.ntmps31
    go_wp2_with (first | ((with_reducible refine gate_callee (f := 32) rfl ?_); refine goesL_ (some 15) rfl rfl Try.func32 (by kernel_rfl) rfl #[.int .u64 (Int.tmod a0 a2), .int .u64 a1, .int .u64 a2] rfl (by (try simp only [List.map_toArray, List.map_cons, List.map_nil]); first | done | rfl | (simp only [List.length_drop, List.length_take]; rfl)) ?_; (with_reducible refine (bits_Div64.calls k (Int.tmod a0 a2) a1 a2 t103 t104 _ A5.out).mono ?_); rintro e w' ⟨rfl, ⟨nd, rfl⟩⟩; refine ⟨_, rfl, ?_⟩))
    go_ret
    exact ⟨by first | rfl | (simp; done) | (simp [*]; done), by repeat (first | exact Drawn0.refl _ | apply Drawn0.step)⟩

/-! ### group_product: function 28 -/
def group_product.f (k : Nat) (a0 : Int) (a1 : Int) (a2 : Int) : Option (Int) := (bits_Mul64.f (IntKind.u64.wrap (a0)) (IntKind.u64.wrap (a1))).bind fun bt105 => ((bits_Rem64.f k bt105.1 bt105.2 (IntKind.u64.wrap (a2))).bind fun t107 => (some (wrap64 (t107))))
theorem group_product.mono : ∀ a0 a1 a2 k, LeO (group_product.f k a0 a1 a2) (group_product.f (k + 1) a0 a1 a2) := by
  intro a0 a1 a2 k
  unfold group_product.f
  repeat' first
      | (with_reducible exact bits_Rem64.mono _ _ _ _)
      | (with_reducible exact LeO.refl _)
      | (with_reducible exact LeO.none _)
      | (with_reducible refine LeO.ite ?_ ?_)
      | (with_reducible refine LeO.bind ?_ (fun _ => ?_))
      | exact bits_Rem64.mono _ _ _ _
      | exact LeO.none _
      | refine LeO.ite ?_ ?_
      | refine LeO.bind ?_ (fun _ => ?_)
set_option maxHeartbeats 8000000 in
set_option maxRecDepth 100000 in
theorem group_product.calls (k : Nat) (a0 : Int) (a1 : Int) (a2 : Int) (r : Int) (w : World) (h : group_product.f k a0 a1 a2 = some r) :
    Calls Try.prog 28 #[.int .i64 a0, .int .i64 a1, .int .i64 a2] w fun e w' => e = .returned (.int .i64 r) ∧ Drawn0 w w' := by
  have H : ((bits_Mul64.f (IntKind.u64.wrap (a0)) (IntKind.u64.wrap (a1))).bind fun bt105 => ((bits_Rem64.f k bt105.1 bt105.2 (IntKind.u64.wrap (a2))).bind fun t107 => (some (wrap64 (t107))))) = some r := h
  clear h
  replace H := Option.bind_eq_some_iff.mp H
  obtain ⟨⟨t105, t106⟩, A40, H⟩ := H
  replace H : ((bits_Rem64.f k t105 t106 (IntKind.u64.wrap (a2))).bind fun t107 => (some (wrap64 (t107)))) = some r := H
  have A4 := Aside0.mk A40
  clear A40
  replace H := Option.bind_eq_some_iff.mp H
  obtain ⟨t107, A50, H⟩ := H
  replace H : (some (wrap64 (t107))) = some r := H
  have A5 := Aside0.mk A50
  clear A50
  obtain rfl := Option.some.inj H
  go_enter Try.func28, Try.ntmps28
  go_wp2_with (first | ((with_reducible refine gate_callee (f := 30) rfl ?_); refine goesL_ (some 14) rfl rfl Try.func30 (by kernel_rfl) rfl #[.int .u64 (IntKind.u64.wrap (a0)), .int .u64 (IntKind.u64.wrap (a1))] rfl (by (try simp only [List.map_toArray, List.map_cons, List.map_nil]); first | done | rfl | (simp only [List.length_drop, List.length_take]; rfl)) ?_; (with_reducible refine (bits_Mul64.calls (IntKind.u64.wrap (a0)) (IntKind.u64.wrap (a1)) t105 t106 _ A4.out).mono ?_); rintro e w' ⟨rfl, ⟨nd, rfl⟩⟩; refine ⟨_, rfl, ?_⟩) | ((with_reducible refine gate_callee (f := 31) rfl ?_); refine goesL_ (some 21) rfl rfl Try.func31 (by kernel_rfl) rfl #[.int .u64 t105, .int .u64 t106, .int .u64 (IntKind.u64.wrap (a2))] rfl (by (try simp only [List.map_toArray, List.map_cons, List.map_nil]); first | done | rfl | (simp only [List.length_drop, List.length_take]; rfl)) ?_; (with_reducible refine (bits_Rem64.calls k t105 t106 (IntKind.u64.wrap (a2)) t107 _ A5.out).mono ?_); rintro e w' ⟨rfl, ⟨nd, rfl⟩⟩; refine ⟨_, rfl, ?_⟩))
  go_ret
  exact ⟨by first | rfl | (simp; done) | (simp [*]; done), by repeat (first | exact Drawn0.refl _ | apply Drawn0.step)⟩

/-! ### group_Exp: function 17 -/
mutual
def group_Exp.j0 : Nat → Int → Int → Option (Int)
  | 0, _, _ => none
  | k + 1, x0, x1 => (group_residue.f x0 2305843009213693951).bind fun t109 => (group_Exp.l0 k t109 x1 1 0)
def group_Exp.l0 : Nat → Int → Int → Int → Int → Option (Int)
  | 0, _, _, _, _ => none
  | k + 1, x0, x1, x5, x13 => if x13 < 63 then ((group_product.f k x5 x5 2305843009213693951).bind fun t110 => (if 0 ≤ (wrap64 (62 - x13)) then (if (Go.bits .and .i64 (shr .i64 x1 (wrap64 (62 - x13))) 1) = 1 then ((group_product.f k t110 x0 2305843009213693951).bind fun t111 => (group_Exp.l0 k x0 x1 t111 (wrap64 (x13 + 1)))) else (group_Exp.l0 k x0 x1 t110 (wrap64 (x13 + 1)))) else (none))) else (some x5)
end
def group_Exp.f (k : Nat) (a0 : Int) (a1 : Int) : Option (Int) := if a1 < 0 then ((group_residue.f a1 2305843009213693950).bind fun t108 => (group_Exp.j0 k a0 t108)) else (group_Exp.j0 k a0 a1)
theorem group_Exp.mono_l : ∀ k, (∀ y0 y1, LeO (group_Exp.j0 k y0 y1) (group_Exp.j0 (k + 1) y0 y1)) ∧ (∀ y0 y1 y2 y3, LeO (group_Exp.l0 k y0 y1 y2 y3) (group_Exp.l0 (k + 1) y0 y1 y2 y3))
  | 0 => ⟨fun _ _ r h => by simp [group_Exp.j0] at h, fun _ _ _ _ r h => by simp [group_Exp.l0] at h⟩
  | k + 1 => by
    obtain ⟨ih0, ih1⟩ := group_Exp.mono_l k
    refine ⟨?_, ?_⟩
    · intro y0 y1
      unfold group_Exp.j0
      repeat' first
      | (with_reducible exact ih0 _ _)
      | (with_reducible exact ih1 _ _ _ _)
      | (with_reducible exact group_product.mono _ _ _ _)
      | (with_reducible exact LeO.refl _)
      | (with_reducible exact LeO.none _)
      | (with_reducible refine LeO.ite ?_ ?_)
      | (with_reducible refine LeO.bind ?_ (fun _ => ?_))
      | exact ih0 _ _
      | exact ih1 _ _ _ _
      | exact group_product.mono _ _ _ _
      | exact LeO.none _
      | refine LeO.ite ?_ ?_
      | refine LeO.bind ?_ (fun _ => ?_)
    · intro y0 y1 y2 y3
      unfold group_Exp.l0
      repeat' first
      | (with_reducible exact ih0 _ _)
      | (with_reducible exact ih1 _ _ _ _)
      | (with_reducible exact group_product.mono _ _ _ _)
      | (with_reducible exact LeO.refl _)
      | (with_reducible exact LeO.none _)
      | (with_reducible refine LeO.ite ?_ ?_)
      | (with_reducible refine LeO.bind ?_ (fun _ => ?_))
      | exact ih0 _ _
      | exact ih1 _ _ _ _
      | exact group_product.mono _ _ _ _
      | exact LeO.none _
      | refine LeO.ite ?_ ?_
      | refine LeO.bind ?_ (fun _ => ?_)
theorem group_Exp.mono : ∀ a0 a1 k, LeO (group_Exp.f k a0 a1) (group_Exp.f (k + 1) a0 a1) := by
  intro a0 a1 k
  obtain ⟨ih0, ih1⟩ := group_Exp.mono_l k
  unfold group_Exp.f
  repeat' first
      | (with_reducible exact ih0 _ _)
      | (with_reducible exact ih1 _ _ _ _)
      | (with_reducible exact group_product.mono _ _ _ _)
      | (with_reducible exact LeO.refl _)
      | (with_reducible exact LeO.none _)
      | (with_reducible refine LeO.ite ?_ ?_)
      | (with_reducible refine LeO.bind ?_ (fun _ => ?_))
      | exact ih0 _ _
      | exact ih1 _ _ _ _
      | exact group_product.mono _ _ _ _
      | exact LeO.none _
      | refine LeO.ite ?_ ?_
      | refine LeO.bind ?_ (fun _ => ?_)
set_option maxHeartbeats 8000000 in
set_option maxRecDepth 100000 in
theorem group_Exp.calls (k : Nat) (a0 : Int) (a1 : Int) (r : Int) (w : World) (h : group_Exp.f k a0 a1 = some r) :
    Calls Try.prog 17 #[.int .i64 a0, .int .i64 a1] w fun e w' => e = .returned (.int .i64 r) ∧ Drawn0 w w' := by
  have H : (if a1 < 0 then ((group_residue.f a1 2305843009213693950).bind fun t108 => (group_Exp.j0 k a0 t108)) else (group_Exp.j0 k a0 a1)) = some r := h
  clear h
  have HC3 := Aside0.mk H
  clear H
  go_enter Try.func17, Try.ntmps17
  go_upto_if 8 with (fail)
  go_cut [1] (fun v1 wc => ∃ (kq : Nat) (x1_2 : Int), v1 = .int .i64 x1_2 ∧ Aside0 (group_Exp.j0 kq a0 x1_2 = some r) ∧ Aside0 (kq ≤ k) ∧ Drawn0 w wc)
  case first =>
    have H := HC3.out
    clear HC3
    by_cases c4 : a1 < 0
    · rw [if_pos c4] at H
      have c4b0 : decide (a1 < 0) = true := decide_eq_true c4
      clear c4
      (first | rw [c4b0] | (simp only [i64_w, i32_w]; rw [c4b0]) | skip)
      replace H := Option.bind_eq_some_iff.mp H
      obtain ⟨t108, A50, H⟩ := H
      replace H : (group_Exp.j0 k a0 t108) = some r := H
      have A5 := Aside0.mk A50
      clear A50
      have H' := Aside0.mk H
      clear H
      go_wp2_with (first | ((with_reducible refine gate_callee (f := 26) rfl ?_); refine goesL_ (some 10) rfl rfl Try.func26 (by kernel_rfl) rfl #[.int .i64 a1, .int .i64 2305843009213693950] rfl (by (try simp only [List.map_toArray, List.map_cons, List.map_nil]); first | done | rfl | (simp only [List.length_drop, List.length_take]; rfl)) ?_; (with_reducible refine (group_residue.calls a1 2305843009213693950 t108 _ A5.out).mono ?_); rintro e w' ⟨rfl, ⟨nd, rfl⟩⟩; refine ⟨_, rfl, ?_⟩))
      go_meet
      case rel => exact ⟨_, (t108), (by first | rfl | (simp; done) | (simp [*]; done)), H', ⟨by first | omega | exact Nat.le_refl _⟩, by repeat (first | exact Drawn0.refl _ | apply Drawn0.step)⟩
    · rw [if_neg c4] at H
      have c4b0 : decide (a1 < 0) = false := decide_eq_false c4
      clear c4
      (first | rw [c4b0] | (simp only [i64_w, i32_w]; rw [c4b0]) | skip)
      have H' := Aside0.mk H
      clear H
      go_wp2
      go_meet
      case rel => exact ⟨_, (a1), (by first | rfl | (simp; done) | (simp [*]; done)), H', ⟨by first | omega | exact Nat.le_refl _⟩, by repeat (first | exact Drawn0.refl _ | apply Drawn0.step)⟩
  case rest =>
    clear HC3
    try clear c1
    try clear c2
    try clear p2
    try clear c4
    try clear c4b0
    obtain ⟨kq, x1_2, rfl, HA, HJ2, ⟨mc2, rfl⟩⟩ := hcut
    cases kq with
    | zero => exact absurd HA.out (by simp [group_Exp.j0])
    | succ kj2 =>
      have H := HA.out
      clear HA
      simp only [group_Exp.j0] at H
      replace H := Option.bind_eq_some_iff.mp H
      obtain ⟨t109, A60, H⟩ := H
      replace H : (group_Exp.l0 kj2 t109 x1_2 1 0) = some r := H
      have A6 := Aside0.mk A60
      clear A60
      have H' := Aside0.mk H
      clear H
      go_wp2_with (first | ((with_reducible refine gate_callee (f := 26) rfl ?_); refine goesL_ (some 12) rfl rfl Try.func26 (by kernel_rfl) rfl #[.int .i64 a0, .int .i64 2305843009213693951] rfl (by (try simp only [List.map_toArray, List.map_cons, List.map_nil]); first | done | rfl | (simp only [List.length_drop, List.length_take]; rfl)) ?_; (with_reducible refine (group_residue.calls a0 2305843009213693951 t109 _ A6.out).mono ?_); rintro e w' ⟨rfl, ⟨nd, rfl⟩⟩; refine ⟨_, rfl, ?_⟩))
      go_loopg [5, 13] kj2 (fun kq v5 v13 w' => ∃ (x5_2 : Int) (x13_2 : Int), v5 = .int .i64 x5_2 ∧ v13 = .int .i64 x13_2 ∧ Aside0 (group_Exp.l0 kq t109 x1_2 x5_2 x13_2 = some r) ∧ Aside0 (kq ≤ kj2) ∧ Drawn0 w w')
      case atStart => exact ⟨(1), (0), (by first | rfl | (simp; done) | (simp [*]; done)), (by first | rfl | (simp; done) | (simp [*]; done)), H', ⟨Nat.le_refl _⟩, by repeat (first | exact Drawn0.refl _ | apply Drawn0.step)⟩
      case round =>
        clear H'
        try clear c1
        try clear c2
        try clear p2
        try clear c4
        try clear c4b0
        try clear p2
        obtain ⟨x5_2, x13_2, rfl, rfl, HA, HK2, ⟨m2, rfl⟩⟩ := hrel
        cases gk with
        | zero => exact absurd HA.out (by simp [group_Exp.l0])
        | succ k2 =>
          have H := HA.out
          clear HA
          simp only [group_Exp.l0] at H
          by_cases c7 : x13_2 < 63
          · rw [if_pos c7] at H
            have c7b0 : decide (x13_2 < 63) = true := decide_eq_true c7
            clear c7
            replace H := Option.bind_eq_some_iff.mp H
            obtain ⟨t110, A80, H⟩ := H
            replace H : (if 0 ≤ (wrap64 (62 - x13_2)) then (if (Go.bits .and .i64 (shr .i64 x1_2 (wrap64 (62 - x13_2))) 1) = 1 then ((group_product.f k2 t110 t109 2305843009213693951).bind fun t111 => (group_Exp.l0 k2 t109 x1_2 t111 (wrap64 (x13_2 + 1)))) else (group_Exp.l0 k2 t109 x1_2 t110 (wrap64 (x13_2 + 1)))) else (none)) = some r := H
            have A8 := Aside0.mk A80
            clear A80
            obtain ⟨ji9, hji9⟩ : ∃ j_ : Int, (wrap64 (62 - x13_2)) = j_ := ⟨_, rfl⟩
            replace H : (if 0 ≤ (ji9) then (if (Go.bits .and .i64 (shr .i64 x1_2 (ji9)) 1) = 1 then ((group_product.f k2 t110 t109 2305843009213693951).bind fun t111 => (group_Exp.l0 k2 t109 x1_2 t111 (wrap64 (x13_2 + 1)))) else (group_Exp.l0 k2 t109 x1_2 t110 (wrap64 (x13_2 + 1)))) else (none)) = some r := by first | (rw [hji9] at H; exact H) | (simp only [hji9] at H ⊢; exact H)
            (try rw [hji9] at A8)
            have hji9w : (IntKind.i64.wrap (62 - x13_2)) = ji9 := (i64_w _).trans hji9
            by_cases c10 : 0 ≤ (ji9)
            · rw [if_pos c10] at H
              have c10b0 := eq_true c10
              have c10b1 : decide (0 ≤ (ji9)) = true := decide_eq_true c10
              clear c10
              obtain ⟨ji11, hji11⟩ : ∃ j_ : Int, (shr .i64 x1_2 (ji9)) = j_ := ⟨_, rfl⟩
              replace H : (if (Go.bits .and .i64 (ji11) 1) = 1 then ((group_product.f k2 t110 t109 2305843009213693951).bind fun t111 => (group_Exp.l0 k2 t109 x1_2 t111 (wrap64 (x13_2 + 1)))) else (group_Exp.l0 k2 t109 x1_2 t110 (wrap64 (x13_2 + 1)))) = some r := by first | (rw [hji11] at H; exact H) | (simp only [hji11] at H ⊢; exact H)
              (try rw [hji11] at A8)
              have hji11_ : (x1_2 / 2 ^ min (ji9).toNat 64) = ji11 := hji11
              have hji11z : (ji9) ≤ 64 → (x1_2 / 2 ^ (ji9).toNat) = ji11 := shr_small hji11
              by_cases c12 : (Go.bits .and .i64 (ji11) 1) = 1
              · rw [if_pos c12] at H
                have c12b0 : ((Go.bits .and .i64 (ji11) 1) == 1) = true := beq_iff_eq.mpr c12
                have c12b1 : ((Go.bits .and .i64 (ji11) 1) != 1) = false := bne_eq_false_iff_eq.mpr c12
                clear c12
                replace H := Option.bind_eq_some_iff.mp H
                obtain ⟨t111, A130, H⟩ := H
                replace H : (group_Exp.l0 k2 t109 x1_2 t111 (wrap64 (x13_2 + 1))) = some r := H
                have A13 := Aside0.mk A130
                clear A130
                have H' := Aside0.mk H
                clear H
                go_wp2_with (first | ((with_reducible refine gate_callee (f := 28) rfl ?_); refine goesL_ (some 18) rfl rfl Try.func28 (by kernel_rfl) rfl #[.int .i64 x5_2, .int .i64 x5_2, .int .i64 2305843009213693951] rfl (by (try simp only [List.map_toArray, List.map_cons, List.map_nil]); first | done | rfl | (simp only [List.length_drop, List.length_take]; rfl)) ?_; (with_reducible refine (group_product.calls k2 x5_2 x5_2 2305843009213693951 t110 _ A8.out).mono ?_); rintro e w' ⟨rfl, ⟨nd, rfl⟩⟩; refine ⟨_, rfl, ?_⟩) | ((with_reducible refine gate_callee (f := 28) rfl ?_); refine goesL_ (some 27) rfl rfl Try.func28 (by kernel_rfl) rfl #[.int .i64 t110, .int .i64 t109, .int .i64 2305843009213693951] rfl (by (try simp only [List.map_toArray, List.map_cons, List.map_nil]); first | done | rfl | (simp only [List.length_drop, List.length_take]; rfl)) ?_; (with_reducible refine (group_product.calls k2 t110 t109 2305843009213693951 t111 _ A13.out).mono ?_); rintro e w' ⟨rfl, ⟨nd, rfl⟩⟩; refine ⟨_, rfl, ?_⟩))
                go_roundg k2
                case measure => have := HJ2.out; have := HK2.out; omega
                case rel => exact ⟨(t111), (wrap64 (x13_2 + 1)), (by first | rfl | (simp; done) | (simp [*]; done)), (by first | rfl | (simp; done) | (simp [*]; done)), H', ⟨by have := HJ2.out; have := HK2.out; omega⟩, by repeat (first | exact Drawn0.refl _ | apply Drawn0.step)⟩
              · rw [if_neg c12] at H
                have c12b0 : ((Go.bits .and .i64 (ji11) 1) == 1) = false := beq_eq_false_iff_ne.mpr c12
                have c12b1 : ((Go.bits .and .i64 (ji11) 1) != 1) = true := bne_iff_ne.mpr c12
                have H' := Aside0.mk H
                clear H
                go_wp2_with (first | ((with_reducible refine gate_callee (f := 28) rfl ?_); refine goesL_ (some 18) rfl rfl Try.func28 (by kernel_rfl) rfl #[.int .i64 x5_2, .int .i64 x5_2, .int .i64 2305843009213693951] rfl (by (try simp only [List.map_toArray, List.map_cons, List.map_nil]); first | done | rfl | (simp only [List.length_drop, List.length_take]; rfl)) ?_; (with_reducible refine (group_product.calls k2 x5_2 x5_2 2305843009213693951 t110 _ A8.out).mono ?_); rintro e w' ⟨rfl, ⟨nd, rfl⟩⟩; refine ⟨_, rfl, ?_⟩))
                go_roundg k2
                case measure => have := HJ2.out; have := HK2.out; omega
                case rel => exact ⟨(t110), (wrap64 (x13_2 + 1)), (by first | rfl | (simp; done) | (simp [*]; done)), (by first | rfl | (simp; done) | (simp [*]; done)), H', ⟨by have := HJ2.out; have := HK2.out; omega⟩, by repeat (first | exact Drawn0.refl _ | apply Drawn0.step)⟩
            · rw [if_neg c10] at H
              exact absurd H (by simp)
          · rw [if_neg c7] at H
            have c7b0 : decide (x13_2 < 63) = false := decide_eq_false c7
            clear c7
            obtain rfl := Option.some.inj H
            go_wp2
            go_ret
            exact ⟨by first | rfl | (simp; done) | (simp [*]; done), by repeat (first | exact Drawn0.refl _ | apply Drawn0.step)⟩

/-! ### group_Inv: function 9 -/
def group_Inv.f (k : Nat) (a0 : Int) : Option (Int × Bool) := (group_residue.f a0 2305843009213693951).bind fun t112 => (if t112 = 0 then (some (0, false)) else ((group_Exp.f k a0 2305843009213693949).bind fun t113 => (some (t113, true))))
theorem group_Inv.mono : ∀ a0 k, LeO (group_Inv.f k a0) (group_Inv.f (k + 1) a0) := by
  intro a0 k
  unfold group_Inv.f
  repeat' first
      | (with_reducible exact group_Exp.mono _ _ _)
      | (with_reducible exact LeO.refl _)
      | (with_reducible exact LeO.none _)
      | (with_reducible refine LeO.ite ?_ ?_)
      | (with_reducible refine LeO.bind ?_ (fun _ => ?_))
      | exact group_Exp.mono _ _ _
      | exact LeO.none _
      | refine LeO.ite ?_ ?_
      | refine LeO.bind ?_ (fun _ => ?_)
set_option maxHeartbeats 8000000 in
set_option maxRecDepth 100000 in
theorem group_Inv.calls (k : Nat) (a0 : Int) (r1 : Int) (r2 : Bool) (w : World) (h : group_Inv.f k a0 = some (r1, r2)) :
    Calls Try.prog 9 #[.int .i64 a0] w fun e w' => e = .returned (.tuple #[.int .i64 r1, .bool r2]) ∧ Drawn0 w w' := by
  have H : ((group_residue.f a0 2305843009213693951).bind fun t112 => (if t112 = 0 then (some (0, false)) else ((group_Exp.f k a0 2305843009213693949).bind fun t113 => (some (t113, true))))) = some (r1, r2) := h
  clear h
  replace H := Option.bind_eq_some_iff.mp H
  obtain ⟨t112, A20, H⟩ := H
  replace H : (if t112 = 0 then (some (0, false)) else ((group_Exp.f k a0 2305843009213693949).bind fun t113 => (some (t113, true)))) = some (r1, r2) := H
  have A2 := Aside0.mk A20
  clear A20
  by_cases c3 : t112 = 0
  · rw [if_pos c3] at H
    have c3b0 : (t112 == 0) = true := beq_iff_eq.mpr c3
    have c3b1 : (t112 != 0) = false := bne_eq_false_iff_eq.mpr c3
    clear c3
    simp only [Option.some.injEq, Prod.mk.injEq] at H
    obtain ⟨rfl, rfl⟩ := H
    go_enter Try.func9, Try.ntmps9
    go_wp2_with (first | ((with_reducible refine gate_callee (f := 26) rfl ?_); refine goesL_ (some 5) rfl rfl Try.func26 (by kernel_rfl) rfl #[.int .i64 a0, .int .i64 2305843009213693951] rfl (by (try simp only [List.map_toArray, List.map_cons, List.map_nil]); first | done | rfl | (simp only [List.length_drop, List.length_take]; rfl)) ?_; (with_reducible refine (group_residue.calls a0 2305843009213693951 t112 _ A2.out).mono ?_); rintro e w' ⟨rfl, ⟨nd, rfl⟩⟩; refine ⟨_, rfl, ?_⟩))
    go_ret2
    exact ⟨by first | rfl | (simp; done) | (simp [*]; done), by repeat (first | exact Drawn0.refl _ | apply Drawn0.step)⟩
  · rw [if_neg c3] at H
    have c3b0 : (t112 == 0) = false := beq_eq_false_iff_ne.mpr c3
    have c3b1 : (t112 != 0) = true := bne_iff_ne.mpr c3
    replace H := Option.bind_eq_some_iff.mp H
    obtain ⟨t113, A40, H⟩ := H
    replace H : (some (t113, true)) = some (r1, r2) := H
    have A4 := Aside0.mk A40
    clear A40
    simp only [Option.some.injEq, Prod.mk.injEq] at H
    obtain ⟨rfl, rfl⟩ := H
    go_enter Try.func9, Try.ntmps9
    go_wp2_with (first | ((with_reducible refine gate_callee (f := 26) rfl ?_); refine goesL_ (some 5) rfl rfl Try.func26 (by kernel_rfl) rfl #[.int .i64 a0, .int .i64 2305843009213693951] rfl (by (try simp only [List.map_toArray, List.map_cons, List.map_nil]); first | done | rfl | (simp only [List.length_drop, List.length_take]; rfl)) ?_; (with_reducible refine (group_residue.calls a0 2305843009213693951 t112 _ A2.out).mono ?_); rintro e w' ⟨rfl, ⟨nd, rfl⟩⟩; refine ⟨_, rfl, ?_⟩) | ((with_reducible refine gate_callee (f := 17) rfl ?_); refine goesL_ (some 8) rfl rfl Try.func17 (by kernel_rfl) rfl #[.int .i64 a0, .int .i64 2305843009213693949] rfl (by (try simp only [List.map_toArray, List.map_cons, List.map_nil]); first | done | rfl | (simp only [List.length_drop, List.length_take]; rfl)) ?_; (with_reducible refine (group_Exp.calls k a0 2305843009213693949 t113 _ A4.out).mono ?_); rintro e w' ⟨rfl, ⟨nd, rfl⟩⟩; refine ⟨_, rfl, ?_⟩))
    go_ret2
    exact ⟨by first | rfl | (simp; done) | (simp [*]; done), by repeat (first | exact Drawn0.refl _ | apply Drawn0.step)⟩

/-! ### group_Add: function 11 -/
def group_Add.f (a0 : Int) (a1 : Int) : Option (Int) := (group_residue.f a0 2305843009213693951).bind fun t114 => ((group_residue.f a1 2305843009213693951).bind fun t115 => ((group_residue.f (wrap64 (t114 + t115)) 2305843009213693951).bind fun t116 => (some t116)))
set_option maxHeartbeats 8000000 in
set_option maxRecDepth 100000 in
theorem group_Add.calls (a0 : Int) (a1 : Int) (r : Int) (w : World) (h : group_Add.f a0 a1 = some r) :
    Calls Try.prog 11 #[.int .i64 a0, .int .i64 a1] w fun e w' => e = .returned (.int .i64 r) ∧ Drawn0 w w' := by
  have H : ((group_residue.f a0 2305843009213693951).bind fun t114 => ((group_residue.f a1 2305843009213693951).bind fun t115 => ((group_residue.f (wrap64 (t114 + t115)) 2305843009213693951).bind fun t116 => (some t116)))) = some r := h
  clear h
  replace H := Option.bind_eq_some_iff.mp H
  obtain ⟨t114, A30, H⟩ := H
  replace H : ((group_residue.f a1 2305843009213693951).bind fun t115 => ((group_residue.f (wrap64 (t114 + t115)) 2305843009213693951).bind fun t116 => (some t116))) = some r := H
  have A3 := Aside0.mk A30
  clear A30
  replace H := Option.bind_eq_some_iff.mp H
  obtain ⟨t115, A40, H⟩ := H
  replace H : ((group_residue.f (wrap64 (t114 + t115)) 2305843009213693951).bind fun t116 => (some t116)) = some r := H
  have A4 := Aside0.mk A40
  clear A40
  replace H := Option.bind_eq_some_iff.mp H
  obtain ⟨t116, A50, H⟩ := H
  replace H : (some t116) = some r := H
  have A5 := Aside0.mk A50
  clear A50
  obtain rfl := Option.some.inj H
  go_enter Try.func11, Try.ntmps11
  go_wp2_with (first | ((with_reducible refine gate_callee (f := 26) rfl ?_); refine goesL_ (some 6) rfl rfl Try.func26 (by kernel_rfl) rfl #[.int .i64 a0, .int .i64 2305843009213693951] rfl (by (try simp only [List.map_toArray, List.map_cons, List.map_nil]); first | done | rfl | (simp only [List.length_drop, List.length_take]; rfl)) ?_; (with_reducible refine (group_residue.calls a0 2305843009213693951 t114 _ A3.out).mono ?_); rintro e w' ⟨rfl, ⟨nd, rfl⟩⟩; refine ⟨_, rfl, ?_⟩) | ((with_reducible refine gate_callee (f := 26) rfl ?_); refine goesL_ (some 8) rfl rfl Try.func26 (by kernel_rfl) rfl #[.int .i64 a1, .int .i64 2305843009213693951] rfl (by (try simp only [List.map_toArray, List.map_cons, List.map_nil]); first | done | rfl | (simp only [List.length_drop, List.length_take]; rfl)) ?_; (with_reducible refine (group_residue.calls a1 2305843009213693951 t115 _ A4.out).mono ?_); rintro e w' ⟨rfl, ⟨nd, rfl⟩⟩; refine ⟨_, rfl, ?_⟩) | ((with_reducible refine gate_callee (f := 26) rfl ?_); refine goesL_ (some 10) rfl rfl Try.func26 (by kernel_rfl) rfl #[.int .i64 (wrap64 (t114 + t115)), .int .i64 2305843009213693951] rfl (by (try simp only [List.map_toArray, List.map_cons, List.map_nil]); first | done | rfl | (simp only [List.length_drop, List.length_take]; rfl)) ?_; (with_reducible refine (group_residue.calls (wrap64 (t114 + t115)) 2305843009213693951 t116 _ A5.out).mono ?_); rintro e w' ⟨rfl, ⟨nd, rfl⟩⟩; refine ⟨_, rfl, ?_⟩))
  go_ret
  exact ⟨by first | rfl | (simp; done) | (simp [*]; done), by repeat (first | exact Drawn0.refl _ | apply Drawn0.step)⟩

/-! ### group_Sub: function 13 -/
def group_Sub.f (a0 : Int) (a1 : Int) : Option (Int) := (group_residue.f a0 2305843009213693951).bind fun t117 => ((group_residue.f a1 2305843009213693951).bind fun t118 => ((group_residue.f (wrap64 (t117 - t118)) 2305843009213693951).bind fun t119 => (some t119)))
set_option maxHeartbeats 8000000 in
set_option maxRecDepth 100000 in
theorem group_Sub.calls (a0 : Int) (a1 : Int) (r : Int) (w : World) (h : group_Sub.f a0 a1 = some r) :
    Calls Try.prog 13 #[.int .i64 a0, .int .i64 a1] w fun e w' => e = .returned (.int .i64 r) ∧ Drawn0 w w' := by
  have H : ((group_residue.f a0 2305843009213693951).bind fun t117 => ((group_residue.f a1 2305843009213693951).bind fun t118 => ((group_residue.f (wrap64 (t117 - t118)) 2305843009213693951).bind fun t119 => (some t119)))) = some r := h
  clear h
  replace H := Option.bind_eq_some_iff.mp H
  obtain ⟨t117, A30, H⟩ := H
  replace H : ((group_residue.f a1 2305843009213693951).bind fun t118 => ((group_residue.f (wrap64 (t117 - t118)) 2305843009213693951).bind fun t119 => (some t119))) = some r := H
  have A3 := Aside0.mk A30
  clear A30
  replace H := Option.bind_eq_some_iff.mp H
  obtain ⟨t118, A40, H⟩ := H
  replace H : ((group_residue.f (wrap64 (t117 - t118)) 2305843009213693951).bind fun t119 => (some t119)) = some r := H
  have A4 := Aside0.mk A40
  clear A40
  replace H := Option.bind_eq_some_iff.mp H
  obtain ⟨t119, A50, H⟩ := H
  replace H : (some t119) = some r := H
  have A5 := Aside0.mk A50
  clear A50
  obtain rfl := Option.some.inj H
  go_enter Try.func13, Try.ntmps13
  go_wp2_with (first | ((with_reducible refine gate_callee (f := 26) rfl ?_); refine goesL_ (some 6) rfl rfl Try.func26 (by kernel_rfl) rfl #[.int .i64 a0, .int .i64 2305843009213693951] rfl (by (try simp only [List.map_toArray, List.map_cons, List.map_nil]); first | done | rfl | (simp only [List.length_drop, List.length_take]; rfl)) ?_; (with_reducible refine (group_residue.calls a0 2305843009213693951 t117 _ A3.out).mono ?_); rintro e w' ⟨rfl, ⟨nd, rfl⟩⟩; refine ⟨_, rfl, ?_⟩) | ((with_reducible refine gate_callee (f := 26) rfl ?_); refine goesL_ (some 8) rfl rfl Try.func26 (by kernel_rfl) rfl #[.int .i64 a1, .int .i64 2305843009213693951] rfl (by (try simp only [List.map_toArray, List.map_cons, List.map_nil]); first | done | rfl | (simp only [List.length_drop, List.length_take]; rfl)) ?_; (with_reducible refine (group_residue.calls a1 2305843009213693951 t118 _ A4.out).mono ?_); rintro e w' ⟨rfl, ⟨nd, rfl⟩⟩; refine ⟨_, rfl, ?_⟩) | ((with_reducible refine gate_callee (f := 26) rfl ?_); refine goesL_ (some 10) rfl rfl Try.func26 (by kernel_rfl) rfl #[.int .i64 (wrap64 (t117 - t118)), .int .i64 2305843009213693951] rfl (by (try simp only [List.map_toArray, List.map_cons, List.map_nil]); first | done | rfl | (simp only [List.length_drop, List.length_take]; rfl)) ?_; (with_reducible refine (group_residue.calls (wrap64 (t117 - t118)) 2305843009213693951 t119 _ A5.out).mono ?_); rintro e w' ⟨rfl, ⟨nd, rfl⟩⟩; refine ⟨_, rfl, ?_⟩))
  go_ret
  exact ⟨by first | rfl | (simp; done) | (simp [*]; done), by repeat (first | exact Drawn0.refl _ | apply Drawn0.step)⟩

/-! ### group_Mul: function 15 -/
def group_Mul.f (k : Nat) (a0 : Int) (a1 : Int) : Option (Int) := (group_residue.f a0 2305843009213693951).bind fun t120 => ((group_residue.f a1 2305843009213693951).bind fun t121 => ((group_product.f k t120 t121 2305843009213693951).bind fun t122 => (some t122)))
theorem group_Mul.mono : ∀ a0 a1 k, LeO (group_Mul.f k a0 a1) (group_Mul.f (k + 1) a0 a1) := by
  intro a0 a1 k
  unfold group_Mul.f
  repeat' first
      | (with_reducible exact group_product.mono _ _ _ _)
      | (with_reducible exact LeO.refl _)
      | (with_reducible exact LeO.none _)
      | (with_reducible refine LeO.ite ?_ ?_)
      | (with_reducible refine LeO.bind ?_ (fun _ => ?_))
      | exact group_product.mono _ _ _ _
      | exact LeO.none _
      | refine LeO.ite ?_ ?_
      | refine LeO.bind ?_ (fun _ => ?_)
set_option maxHeartbeats 8000000 in
set_option maxRecDepth 100000 in
theorem group_Mul.calls (k : Nat) (a0 : Int) (a1 : Int) (r : Int) (w : World) (h : group_Mul.f k a0 a1 = some r) :
    Calls Try.prog 15 #[.int .i64 a0, .int .i64 a1] w fun e w' => e = .returned (.int .i64 r) ∧ Drawn0 w w' := by
  have H : ((group_residue.f a0 2305843009213693951).bind fun t120 => ((group_residue.f a1 2305843009213693951).bind fun t121 => ((group_product.f k t120 t121 2305843009213693951).bind fun t122 => (some t122)))) = some r := h
  clear h
  replace H := Option.bind_eq_some_iff.mp H
  obtain ⟨t120, A30, H⟩ := H
  replace H : ((group_residue.f a1 2305843009213693951).bind fun t121 => ((group_product.f k t120 t121 2305843009213693951).bind fun t122 => (some t122))) = some r := H
  have A3 := Aside0.mk A30
  clear A30
  replace H := Option.bind_eq_some_iff.mp H
  obtain ⟨t121, A40, H⟩ := H
  replace H : ((group_product.f k t120 t121 2305843009213693951).bind fun t122 => (some t122)) = some r := H
  have A4 := Aside0.mk A40
  clear A40
  replace H := Option.bind_eq_some_iff.mp H
  obtain ⟨t122, A50, H⟩ := H
  replace H : (some t122) = some r := H
  have A5 := Aside0.mk A50
  clear A50
  obtain rfl := Option.some.inj H
  go_enter Try.func15, Try.ntmps15
  go_wp2_with (first | ((with_reducible refine gate_callee (f := 26) rfl ?_); refine goesL_ (some 6) rfl rfl Try.func26 (by kernel_rfl) rfl #[.int .i64 a0, .int .i64 2305843009213693951] rfl (by (try simp only [List.map_toArray, List.map_cons, List.map_nil]); first | done | rfl | (simp only [List.length_drop, List.length_take]; rfl)) ?_; (with_reducible refine (group_residue.calls a0 2305843009213693951 t120 _ A3.out).mono ?_); rintro e w' ⟨rfl, ⟨nd, rfl⟩⟩; refine ⟨_, rfl, ?_⟩) | ((with_reducible refine gate_callee (f := 26) rfl ?_); refine goesL_ (some 8) rfl rfl Try.func26 (by kernel_rfl) rfl #[.int .i64 a1, .int .i64 2305843009213693951] rfl (by (try simp only [List.map_toArray, List.map_cons, List.map_nil]); first | done | rfl | (simp only [List.length_drop, List.length_take]; rfl)) ?_; (with_reducible refine (group_residue.calls a1 2305843009213693951 t121 _ A4.out).mono ?_); rintro e w' ⟨rfl, ⟨nd, rfl⟩⟩; refine ⟨_, rfl, ?_⟩) | ((with_reducible refine gate_callee (f := 28) rfl ?_); refine goesL_ (some 9) rfl rfl Try.func28 (by kernel_rfl) rfl #[.int .i64 t120, .int .i64 t121, .int .i64 2305843009213693951] rfl (by (try simp only [List.map_toArray, List.map_cons, List.map_nil]); first | done | rfl | (simp only [List.length_drop, List.length_take]; rfl)) ?_; (with_reducible refine (group_product.calls k t120 t121 2305843009213693951 t122 _ A5.out).mono ?_); rintro e w' ⟨rfl, ⟨nd, rfl⟩⟩; refine ⟨_, rfl, ?_⟩))
  go_ret
  exact ⟨by first | rfl | (simp; done) | (simp [*]; done), by repeat (first | exact Drawn0.refl _ | apply Drawn0.step)⟩

/-! ### group_AddN: function 19 -/
def group_AddN.f (a0 : Int) (a1 : Int) : Option (Int) := (group_residue.f a0 2305843009213693950).bind fun t123 => ((group_residue.f a1 2305843009213693950).bind fun t124 => ((group_residue.f (wrap64 (t123 + t124)) 2305843009213693950).bind fun t125 => (some t125)))
set_option maxHeartbeats 8000000 in
set_option maxRecDepth 100000 in
theorem group_AddN.calls (a0 : Int) (a1 : Int) (r : Int) (w : World) (h : group_AddN.f a0 a1 = some r) :
    Calls Try.prog 19 #[.int .i64 a0, .int .i64 a1] w fun e w' => e = .returned (.int .i64 r) ∧ Drawn0 w w' := by
  have H : ((group_residue.f a0 2305843009213693950).bind fun t123 => ((group_residue.f a1 2305843009213693950).bind fun t124 => ((group_residue.f (wrap64 (t123 + t124)) 2305843009213693950).bind fun t125 => (some t125)))) = some r := h
  clear h
  replace H := Option.bind_eq_some_iff.mp H
  obtain ⟨t123, A30, H⟩ := H
  replace H : ((group_residue.f a1 2305843009213693950).bind fun t124 => ((group_residue.f (wrap64 (t123 + t124)) 2305843009213693950).bind fun t125 => (some t125))) = some r := H
  have A3 := Aside0.mk A30
  clear A30
  replace H := Option.bind_eq_some_iff.mp H
  obtain ⟨t124, A40, H⟩ := H
  replace H : ((group_residue.f (wrap64 (t123 + t124)) 2305843009213693950).bind fun t125 => (some t125)) = some r := H
  have A4 := Aside0.mk A40
  clear A40
  replace H := Option.bind_eq_some_iff.mp H
  obtain ⟨t125, A50, H⟩ := H
  replace H : (some t125) = some r := H
  have A5 := Aside0.mk A50
  clear A50
  obtain rfl := Option.some.inj H
  go_enter Try.func19, Try.ntmps19
  go_wp2_with (first | ((with_reducible refine gate_callee (f := 26) rfl ?_); refine goesL_ (some 6) rfl rfl Try.func26 (by kernel_rfl) rfl #[.int .i64 a0, .int .i64 2305843009213693950] rfl (by (try simp only [List.map_toArray, List.map_cons, List.map_nil]); first | done | rfl | (simp only [List.length_drop, List.length_take]; rfl)) ?_; (with_reducible refine (group_residue.calls a0 2305843009213693950 t123 _ A3.out).mono ?_); rintro e w' ⟨rfl, ⟨nd, rfl⟩⟩; refine ⟨_, rfl, ?_⟩) | ((with_reducible refine gate_callee (f := 26) rfl ?_); refine goesL_ (some 8) rfl rfl Try.func26 (by kernel_rfl) rfl #[.int .i64 a1, .int .i64 2305843009213693950] rfl (by (try simp only [List.map_toArray, List.map_cons, List.map_nil]); first | done | rfl | (simp only [List.length_drop, List.length_take]; rfl)) ?_; (with_reducible refine (group_residue.calls a1 2305843009213693950 t124 _ A4.out).mono ?_); rintro e w' ⟨rfl, ⟨nd, rfl⟩⟩; refine ⟨_, rfl, ?_⟩) | ((with_reducible refine gate_callee (f := 26) rfl ?_); refine goesL_ (some 10) rfl rfl Try.func26 (by kernel_rfl) rfl #[.int .i64 (wrap64 (t123 + t124)), .int .i64 2305843009213693950] rfl (by (try simp only [List.map_toArray, List.map_cons, List.map_nil]); first | done | rfl | (simp only [List.length_drop, List.length_take]; rfl)) ?_; (with_reducible refine (group_residue.calls (wrap64 (t123 + t124)) 2305843009213693950 t125 _ A5.out).mono ?_); rintro e w' ⟨rfl, ⟨nd, rfl⟩⟩; refine ⟨_, rfl, ?_⟩))
  go_ret
  exact ⟨by first | rfl | (simp; done) | (simp [*]; done), by repeat (first | exact Drawn0.refl _ | apply Drawn0.step)⟩

/-! ### group_SubN: function 21 -/
def group_SubN.f (a0 : Int) (a1 : Int) : Option (Int) := (group_residue.f a0 2305843009213693950).bind fun t126 => ((group_residue.f a1 2305843009213693950).bind fun t127 => ((group_residue.f (wrap64 (t126 - t127)) 2305843009213693950).bind fun t128 => (some t128)))
set_option maxHeartbeats 8000000 in
set_option maxRecDepth 100000 in
theorem group_SubN.calls (a0 : Int) (a1 : Int) (r : Int) (w : World) (h : group_SubN.f a0 a1 = some r) :
    Calls Try.prog 21 #[.int .i64 a0, .int .i64 a1] w fun e w' => e = .returned (.int .i64 r) ∧ Drawn0 w w' := by
  have H : ((group_residue.f a0 2305843009213693950).bind fun t126 => ((group_residue.f a1 2305843009213693950).bind fun t127 => ((group_residue.f (wrap64 (t126 - t127)) 2305843009213693950).bind fun t128 => (some t128)))) = some r := h
  clear h
  replace H := Option.bind_eq_some_iff.mp H
  obtain ⟨t126, A30, H⟩ := H
  replace H : ((group_residue.f a1 2305843009213693950).bind fun t127 => ((group_residue.f (wrap64 (t126 - t127)) 2305843009213693950).bind fun t128 => (some t128))) = some r := H
  have A3 := Aside0.mk A30
  clear A30
  replace H := Option.bind_eq_some_iff.mp H
  obtain ⟨t127, A40, H⟩ := H
  replace H : ((group_residue.f (wrap64 (t126 - t127)) 2305843009213693950).bind fun t128 => (some t128)) = some r := H
  have A4 := Aside0.mk A40
  clear A40
  replace H := Option.bind_eq_some_iff.mp H
  obtain ⟨t128, A50, H⟩ := H
  replace H : (some t128) = some r := H
  have A5 := Aside0.mk A50
  clear A50
  obtain rfl := Option.some.inj H
  go_enter Try.func21, Try.ntmps21
  go_wp2_with (first | ((with_reducible refine gate_callee (f := 26) rfl ?_); refine goesL_ (some 6) rfl rfl Try.func26 (by kernel_rfl) rfl #[.int .i64 a0, .int .i64 2305843009213693950] rfl (by (try simp only [List.map_toArray, List.map_cons, List.map_nil]); first | done | rfl | (simp only [List.length_drop, List.length_take]; rfl)) ?_; (with_reducible refine (group_residue.calls a0 2305843009213693950 t126 _ A3.out).mono ?_); rintro e w' ⟨rfl, ⟨nd, rfl⟩⟩; refine ⟨_, rfl, ?_⟩) | ((with_reducible refine gate_callee (f := 26) rfl ?_); refine goesL_ (some 8) rfl rfl Try.func26 (by kernel_rfl) rfl #[.int .i64 a1, .int .i64 2305843009213693950] rfl (by (try simp only [List.map_toArray, List.map_cons, List.map_nil]); first | done | rfl | (simp only [List.length_drop, List.length_take]; rfl)) ?_; (with_reducible refine (group_residue.calls a1 2305843009213693950 t127 _ A4.out).mono ?_); rintro e w' ⟨rfl, ⟨nd, rfl⟩⟩; refine ⟨_, rfl, ?_⟩) | ((with_reducible refine gate_callee (f := 26) rfl ?_); refine goesL_ (some 10) rfl rfl Try.func26 (by kernel_rfl) rfl #[.int .i64 (wrap64 (t126 - t127)), .int .i64 2305843009213693950] rfl (by (try simp only [List.map_toArray, List.map_cons, List.map_nil]); first | done | rfl | (simp only [List.length_drop, List.length_take]; rfl)) ?_; (with_reducible refine (group_residue.calls (wrap64 (t126 - t127)) 2305843009213693950 t128 _ A5.out).mono ?_); rintro e w' ⟨rfl, ⟨nd, rfl⟩⟩; refine ⟨_, rfl, ?_⟩))
  go_ret
  exact ⟨by first | rfl | (simp; done) | (simp [*]; done), by repeat (first | exact Drawn0.refl _ | apply Drawn0.step)⟩

/-! ### group_MulN: function 23 -/
def group_MulN.f (k : Nat) (a0 : Int) (a1 : Int) : Option (Int) := (group_residue.f a0 2305843009213693950).bind fun t129 => ((group_residue.f a1 2305843009213693950).bind fun t130 => ((group_product.f k t129 t130 2305843009213693950).bind fun t131 => (some t131)))
theorem group_MulN.mono : ∀ a0 a1 k, LeO (group_MulN.f k a0 a1) (group_MulN.f (k + 1) a0 a1) := by
  intro a0 a1 k
  unfold group_MulN.f
  repeat' first
      | (with_reducible exact group_product.mono _ _ _ _)
      | (with_reducible exact LeO.refl _)
      | (with_reducible exact LeO.none _)
      | (with_reducible refine LeO.ite ?_ ?_)
      | (with_reducible refine LeO.bind ?_ (fun _ => ?_))
      | exact group_product.mono _ _ _ _
      | exact LeO.none _
      | refine LeO.ite ?_ ?_
      | refine LeO.bind ?_ (fun _ => ?_)
set_option maxHeartbeats 8000000 in
set_option maxRecDepth 100000 in
theorem group_MulN.calls (k : Nat) (a0 : Int) (a1 : Int) (r : Int) (w : World) (h : group_MulN.f k a0 a1 = some r) :
    Calls Try.prog 23 #[.int .i64 a0, .int .i64 a1] w fun e w' => e = .returned (.int .i64 r) ∧ Drawn0 w w' := by
  have H : ((group_residue.f a0 2305843009213693950).bind fun t129 => ((group_residue.f a1 2305843009213693950).bind fun t130 => ((group_product.f k t129 t130 2305843009213693950).bind fun t131 => (some t131)))) = some r := h
  clear h
  replace H := Option.bind_eq_some_iff.mp H
  obtain ⟨t129, A30, H⟩ := H
  replace H : ((group_residue.f a1 2305843009213693950).bind fun t130 => ((group_product.f k t129 t130 2305843009213693950).bind fun t131 => (some t131))) = some r := H
  have A3 := Aside0.mk A30
  clear A30
  replace H := Option.bind_eq_some_iff.mp H
  obtain ⟨t130, A40, H⟩ := H
  replace H : ((group_product.f k t129 t130 2305843009213693950).bind fun t131 => (some t131)) = some r := H
  have A4 := Aside0.mk A40
  clear A40
  replace H := Option.bind_eq_some_iff.mp H
  obtain ⟨t131, A50, H⟩ := H
  replace H : (some t131) = some r := H
  have A5 := Aside0.mk A50
  clear A50
  obtain rfl := Option.some.inj H
  go_enter Try.func23, Try.ntmps23
  go_wp2_with (first | ((with_reducible refine gate_callee (f := 26) rfl ?_); refine goesL_ (some 6) rfl rfl Try.func26 (by kernel_rfl) rfl #[.int .i64 a0, .int .i64 2305843009213693950] rfl (by (try simp only [List.map_toArray, List.map_cons, List.map_nil]); first | done | rfl | (simp only [List.length_drop, List.length_take]; rfl)) ?_; (with_reducible refine (group_residue.calls a0 2305843009213693950 t129 _ A3.out).mono ?_); rintro e w' ⟨rfl, ⟨nd, rfl⟩⟩; refine ⟨_, rfl, ?_⟩) | ((with_reducible refine gate_callee (f := 26) rfl ?_); refine goesL_ (some 8) rfl rfl Try.func26 (by kernel_rfl) rfl #[.int .i64 a1, .int .i64 2305843009213693950] rfl (by (try simp only [List.map_toArray, List.map_cons, List.map_nil]); first | done | rfl | (simp only [List.length_drop, List.length_take]; rfl)) ?_; (with_reducible refine (group_residue.calls a1 2305843009213693950 t130 _ A4.out).mono ?_); rintro e w' ⟨rfl, ⟨nd, rfl⟩⟩; refine ⟨_, rfl, ?_⟩) | ((with_reducible refine gate_callee (f := 28) rfl ?_); refine goesL_ (some 9) rfl rfl Try.func28 (by kernel_rfl) rfl #[.int .i64 t129, .int .i64 t130, .int .i64 2305843009213693950] rfl (by (try simp only [List.map_toArray, List.map_cons, List.map_nil]); first | done | rfl | (simp only [List.length_drop, List.length_take]; rfl)) ?_; (with_reducible refine (group_product.calls k t129 t130 2305843009213693950 t131 _ A5.out).mono ?_); rintro e w' ⟨rfl, ⟨nd, rfl⟩⟩; refine ⟨_, rfl, ?_⟩))
  go_ret
  exact ⟨by first | rfl | (simp; done) | (simp [*]; done), by repeat (first | exact Drawn0.refl _ | apply Drawn0.step)⟩

/-! ### agoralaw04_small: function 8 -/
def agoralaw04_small.f (k : Nat)  : Option (Bool) := (group_Inv.f k 2).bind fun bt132 => ((group_Inv.f k 2305843009213693951).bind fun bt134 => ((group_Inv.f k 3).bind fun bt136 => ((group_Add.f 2305843009213693950 2).bind fun t138 => (if t138 = 1 then ((group_Sub.f 0 1).bind fun t139 => (if t139 = 2305843009213693950 then ((group_Mul.f k 2305843009213693950 2305843009213693950).bind fun t140 => (if t140 = 1 then (if bt132.1 = 1152921504606846976 then (if bt132.2 = true then (if bt134.2 = true then (none) else (if bt136.2 = true then ((group_Exp.f k 3 (-1)).bind fun t141 => (if t141 = bt136.1 then ((group_Exp.f k 2 61).bind fun t142 => (if t142 = 1 then ((group_Exp.f k 0 0).bind fun t143 => (if t143 = 1 then ((group_Exp.f k 0 2305843009213693950).bind fun t144 => (if t144 = 0 then ((group_MulN.f k 2305843009213693949 2305843009213693949).bind fun t145 => (if t145 = 1 then ((group_AddN.f 2305843009213693949 2).bind fun t146 => (if t146 = 1 then ((group_SubN.f 0 1).bind fun t147 => (some (t147 == 2305843009213693949))) else (none))) else (none))) else (none))) else (none))) else (none))) else (none))) else (none))) else (none)) else (none)) else (none))) else (none))) else (none)))))
theorem agoralaw04_small.mono : ∀ k, LeO (agoralaw04_small.f k ) (agoralaw04_small.f (k + 1) ) := by
  intro  k
  unfold agoralaw04_small.f
  repeat' first
      | (with_reducible exact group_Exp.mono _ _ _)
      | (with_reducible exact group_Inv.mono _ _)
      | (with_reducible exact group_Mul.mono _ _ _)
      | (with_reducible exact group_MulN.mono _ _ _)
      | (with_reducible exact LeO.refl _)
      | (with_reducible exact LeO.none _)
      | (with_reducible refine LeO.ite ?_ ?_)
      | (with_reducible refine LeO.bind ?_ (fun _ => ?_))
      | exact group_Exp.mono _ _ _
      | exact group_Inv.mono _ _
      | exact group_Mul.mono _ _ _
      | exact group_MulN.mono _ _ _
      | exact LeO.none _
      | refine LeO.ite ?_ ?_
      | refine LeO.bind ?_ (fun _ => ?_)
set_option maxHeartbeats 8000000 in
set_option maxRecDepth 100000 in
theorem agoralaw04_small.calls (k : Nat)  (r : Bool) (w : World) (h : agoralaw04_small.f k  = some r) :
    Calls Try.prog 8 #[] w fun e w' => e = .returned (.bool r) ∧ Drawn0 w w' := by
  have H : ((group_Inv.f k 2).bind fun bt132 => ((group_Inv.f k 2305843009213693951).bind fun bt134 => ((group_Inv.f k 3).bind fun bt136 => ((group_Add.f 2305843009213693950 2).bind fun t138 => (if t138 = 1 then ((group_Sub.f 0 1).bind fun t139 => (if t139 = 2305843009213693950 then ((group_Mul.f k 2305843009213693950 2305843009213693950).bind fun t140 => (if t140 = 1 then (if bt132.1 = 1152921504606846976 then (if bt132.2 = true then (if bt134.2 = true then (none) else (if bt136.2 = true then ((group_Exp.f k 3 (-1)).bind fun t141 => (if t141 = bt136.1 then ((group_Exp.f k 2 61).bind fun t142 => (if t142 = 1 then ((group_Exp.f k 0 0).bind fun t143 => (if t143 = 1 then ((group_Exp.f k 0 2305843009213693950).bind fun t144 => (if t144 = 0 then ((group_MulN.f k 2305843009213693949 2305843009213693949).bind fun t145 => (if t145 = 1 then ((group_AddN.f 2305843009213693949 2).bind fun t146 => (if t146 = 1 then ((group_SubN.f 0 1).bind fun t147 => (some (t147 == 2305843009213693949))) else (none))) else (none))) else (none))) else (none))) else (none))) else (none))) else (none))) else (none)) else (none)) else (none))) else (none))) else (none)))))) = some r := h
  clear h
  replace H := Option.bind_eq_some_iff.mp H
  obtain ⟨⟨t132, t133⟩, A10, H⟩ := H
  replace H : ((group_Inv.f k 2305843009213693951).bind fun bt134 => ((group_Inv.f k 3).bind fun bt136 => ((group_Add.f 2305843009213693950 2).bind fun t138 => (if t138 = 1 then ((group_Sub.f 0 1).bind fun t139 => (if t139 = 2305843009213693950 then ((group_Mul.f k 2305843009213693950 2305843009213693950).bind fun t140 => (if t140 = 1 then (if t132 = 1152921504606846976 then (if t133 = true then (if bt134.2 = true then (none) else (if bt136.2 = true then ((group_Exp.f k 3 (-1)).bind fun t141 => (if t141 = bt136.1 then ((group_Exp.f k 2 61).bind fun t142 => (if t142 = 1 then ((group_Exp.f k 0 0).bind fun t143 => (if t143 = 1 then ((group_Exp.f k 0 2305843009213693950).bind fun t144 => (if t144 = 0 then ((group_MulN.f k 2305843009213693949 2305843009213693949).bind fun t145 => (if t145 = 1 then ((group_AddN.f 2305843009213693949 2).bind fun t146 => (if t146 = 1 then ((group_SubN.f 0 1).bind fun t147 => (some (t147 == 2305843009213693949))) else (none))) else (none))) else (none))) else (none))) else (none))) else (none))) else (none))) else (none)) else (none)) else (none))) else (none))) else (none))))) = some r := H
  have A1 := Aside0.mk A10
  clear A10
  replace H := Option.bind_eq_some_iff.mp H
  obtain ⟨⟨t134, t135⟩, A20, H⟩ := H
  replace H : ((group_Inv.f k 3).bind fun bt136 => ((group_Add.f 2305843009213693950 2).bind fun t138 => (if t138 = 1 then ((group_Sub.f 0 1).bind fun t139 => (if t139 = 2305843009213693950 then ((group_Mul.f k 2305843009213693950 2305843009213693950).bind fun t140 => (if t140 = 1 then (if t132 = 1152921504606846976 then (if t133 = true then (if t135 = true then (none) else (if bt136.2 = true then ((group_Exp.f k 3 (-1)).bind fun t141 => (if t141 = bt136.1 then ((group_Exp.f k 2 61).bind fun t142 => (if t142 = 1 then ((group_Exp.f k 0 0).bind fun t143 => (if t143 = 1 then ((group_Exp.f k 0 2305843009213693950).bind fun t144 => (if t144 = 0 then ((group_MulN.f k 2305843009213693949 2305843009213693949).bind fun t145 => (if t145 = 1 then ((group_AddN.f 2305843009213693949 2).bind fun t146 => (if t146 = 1 then ((group_SubN.f 0 1).bind fun t147 => (some (t147 == 2305843009213693949))) else (none))) else (none))) else (none))) else (none))) else (none))) else (none))) else (none))) else (none)) else (none)) else (none))) else (none))) else (none)))) = some r := H
  have A2 := Aside0.mk A20
  clear A20
  replace H := Option.bind_eq_some_iff.mp H
  obtain ⟨⟨t136, t137⟩, A30, H⟩ := H
  replace H : ((group_Add.f 2305843009213693950 2).bind fun t138 => (if t138 = 1 then ((group_Sub.f 0 1).bind fun t139 => (if t139 = 2305843009213693950 then ((group_Mul.f k 2305843009213693950 2305843009213693950).bind fun t140 => (if t140 = 1 then (if t132 = 1152921504606846976 then (if t133 = true then (if t135 = true then (none) else (if t137 = true then ((group_Exp.f k 3 (-1)).bind fun t141 => (if t141 = t136 then ((group_Exp.f k 2 61).bind fun t142 => (if t142 = 1 then ((group_Exp.f k 0 0).bind fun t143 => (if t143 = 1 then ((group_Exp.f k 0 2305843009213693950).bind fun t144 => (if t144 = 0 then ((group_MulN.f k 2305843009213693949 2305843009213693949).bind fun t145 => (if t145 = 1 then ((group_AddN.f 2305843009213693949 2).bind fun t146 => (if t146 = 1 then ((group_SubN.f 0 1).bind fun t147 => (some (t147 == 2305843009213693949))) else (none))) else (none))) else (none))) else (none))) else (none))) else (none))) else (none))) else (none)) else (none)) else (none))) else (none))) else (none))) = some r := H
  have A3 := Aside0.mk A30
  clear A30
  replace H := Option.bind_eq_some_iff.mp H
  obtain ⟨t138, A40, H⟩ := H
  replace H : (if t138 = 1 then ((group_Sub.f 0 1).bind fun t139 => (if t139 = 2305843009213693950 then ((group_Mul.f k 2305843009213693950 2305843009213693950).bind fun t140 => (if t140 = 1 then (if t132 = 1152921504606846976 then (if t133 = true then (if t135 = true then (none) else (if t137 = true then ((group_Exp.f k 3 (-1)).bind fun t141 => (if t141 = t136 then ((group_Exp.f k 2 61).bind fun t142 => (if t142 = 1 then ((group_Exp.f k 0 0).bind fun t143 => (if t143 = 1 then ((group_Exp.f k 0 2305843009213693950).bind fun t144 => (if t144 = 0 then ((group_MulN.f k 2305843009213693949 2305843009213693949).bind fun t145 => (if t145 = 1 then ((group_AddN.f 2305843009213693949 2).bind fun t146 => (if t146 = 1 then ((group_SubN.f 0 1).bind fun t147 => (some (t147 == 2305843009213693949))) else (none))) else (none))) else (none))) else (none))) else (none))) else (none))) else (none))) else (none)) else (none)) else (none))) else (none))) else (none)) = some r := H
  have A4 := Aside0.mk A40
  clear A40
  by_cases c5 : t138 = 1
  · rw [if_pos c5] at H
    have c5b0 : (t138 == 1) = true := beq_iff_eq.mpr c5
    have c5b1 : (t138 != 1) = false := bne_eq_false_iff_eq.mpr c5
    clear c5
    replace H := Option.bind_eq_some_iff.mp H
    obtain ⟨t139, A60, H⟩ := H
    replace H : (if t139 = 2305843009213693950 then ((group_Mul.f k 2305843009213693950 2305843009213693950).bind fun t140 => (if t140 = 1 then (if t132 = 1152921504606846976 then (if t133 = true then (if t135 = true then (none) else (if t137 = true then ((group_Exp.f k 3 (-1)).bind fun t141 => (if t141 = t136 then ((group_Exp.f k 2 61).bind fun t142 => (if t142 = 1 then ((group_Exp.f k 0 0).bind fun t143 => (if t143 = 1 then ((group_Exp.f k 0 2305843009213693950).bind fun t144 => (if t144 = 0 then ((group_MulN.f k 2305843009213693949 2305843009213693949).bind fun t145 => (if t145 = 1 then ((group_AddN.f 2305843009213693949 2).bind fun t146 => (if t146 = 1 then ((group_SubN.f 0 1).bind fun t147 => (some (t147 == 2305843009213693949))) else (none))) else (none))) else (none))) else (none))) else (none))) else (none))) else (none))) else (none)) else (none)) else (none))) else (none)) = some r := H
    have A6 := Aside0.mk A60
    clear A60
    by_cases c7 : t139 = 2305843009213693950
    · rw [if_pos c7] at H
      have c7b0 : (t139 == 2305843009213693950) = true := beq_iff_eq.mpr c7
      have c7b1 : (t139 != 2305843009213693950) = false := bne_eq_false_iff_eq.mpr c7
      clear c7
      replace H := Option.bind_eq_some_iff.mp H
      obtain ⟨t140, A80, H⟩ := H
      replace H : (if t140 = 1 then (if t132 = 1152921504606846976 then (if t133 = true then (if t135 = true then (none) else (if t137 = true then ((group_Exp.f k 3 (-1)).bind fun t141 => (if t141 = t136 then ((group_Exp.f k 2 61).bind fun t142 => (if t142 = 1 then ((group_Exp.f k 0 0).bind fun t143 => (if t143 = 1 then ((group_Exp.f k 0 2305843009213693950).bind fun t144 => (if t144 = 0 then ((group_MulN.f k 2305843009213693949 2305843009213693949).bind fun t145 => (if t145 = 1 then ((group_AddN.f 2305843009213693949 2).bind fun t146 => (if t146 = 1 then ((group_SubN.f 0 1).bind fun t147 => (some (t147 == 2305843009213693949))) else (none))) else (none))) else (none))) else (none))) else (none))) else (none))) else (none))) else (none)) else (none)) else (none)) = some r := H
      have A8 := Aside0.mk A80
      clear A80
      by_cases c9 : t140 = 1
      · rw [if_pos c9] at H
        have c9b0 : (t140 == 1) = true := beq_iff_eq.mpr c9
        have c9b1 : (t140 != 1) = false := bne_eq_false_iff_eq.mpr c9
        clear c9
        by_cases c10 : t132 = 1152921504606846976
        · rw [if_pos c10] at H
          have c10b0 : (t132 == 1152921504606846976) = true := beq_iff_eq.mpr c10
          have c10b1 : (t132 != 1152921504606846976) = false := bne_eq_false_iff_eq.mpr c10
          clear c10
          by_cases c11 : t133 = true
          · subst c11
            have H1 : (if t135 = true then (none) else (if t137 = true then ((group_Exp.f k 3 (-1)).bind fun t141 => (if t141 = t136 then ((group_Exp.f k 2 61).bind fun t142 => (if t142 = 1 then ((group_Exp.f k 0 0).bind fun t143 => (if t143 = 1 then ((group_Exp.f k 0 2305843009213693950).bind fun t144 => (if t144 = 0 then ((group_MulN.f k 2305843009213693949 2305843009213693949).bind fun t145 => (if t145 = 1 then ((group_AddN.f 2305843009213693949 2).bind fun t146 => (if t146 = 1 then ((group_SubN.f 0 1).bind fun t147 => (some (t147 == 2305843009213693949))) else (none))) else (none))) else (none))) else (none))) else (none))) else (none))) else (none))) = some r := by rw [if_pos rfl] at H; exact H
            clear H
            have H := H1
            clear H1
            by_cases c12 : t135 = true
            · subst c12
              have H1 : (none) = some r := by rw [if_pos rfl] at H; exact H
              clear H
              have H := H1
              clear H1
              exact absurd H (by simp)
            · replace c12 := Bool.eq_false_iff.mpr c12
              subst c12
              have H1 : (if t137 = true then ((group_Exp.f k 3 (-1)).bind fun t141 => (if t141 = t136 then ((group_Exp.f k 2 61).bind fun t142 => (if t142 = 1 then ((group_Exp.f k 0 0).bind fun t143 => (if t143 = 1 then ((group_Exp.f k 0 2305843009213693950).bind fun t144 => (if t144 = 0 then ((group_MulN.f k 2305843009213693949 2305843009213693949).bind fun t145 => (if t145 = 1 then ((group_AddN.f 2305843009213693949 2).bind fun t146 => (if t146 = 1 then ((group_SubN.f 0 1).bind fun t147 => (some (t147 == 2305843009213693949))) else (none))) else (none))) else (none))) else (none))) else (none))) else (none))) else (none)) = some r := by rw [if_neg (show ¬ (false = true) by decide)] at H; exact H
              clear H
              have H := H1
              clear H1
              by_cases c13 : t137 = true
              · subst c13
                have H1 : ((group_Exp.f k 3 (-1)).bind fun t141 => (if t141 = t136 then ((group_Exp.f k 2 61).bind fun t142 => (if t142 = 1 then ((group_Exp.f k 0 0).bind fun t143 => (if t143 = 1 then ((group_Exp.f k 0 2305843009213693950).bind fun t144 => (if t144 = 0 then ((group_MulN.f k 2305843009213693949 2305843009213693949).bind fun t145 => (if t145 = 1 then ((group_AddN.f 2305843009213693949 2).bind fun t146 => (if t146 = 1 then ((group_SubN.f 0 1).bind fun t147 => (some (t147 == 2305843009213693949))) else (none))) else (none))) else (none))) else (none))) else (none))) else (none))) = some r := by rw [if_pos rfl] at H; exact H
                clear H
                have H := H1
                clear H1
                replace H := Option.bind_eq_some_iff.mp H
                obtain ⟨t141, A140, H⟩ := H
                replace H : (if t141 = t136 then ((group_Exp.f k 2 61).bind fun t142 => (if t142 = 1 then ((group_Exp.f k 0 0).bind fun t143 => (if t143 = 1 then ((group_Exp.f k 0 2305843009213693950).bind fun t144 => (if t144 = 0 then ((group_MulN.f k 2305843009213693949 2305843009213693949).bind fun t145 => (if t145 = 1 then ((group_AddN.f 2305843009213693949 2).bind fun t146 => (if t146 = 1 then ((group_SubN.f 0 1).bind fun t147 => (some (t147 == 2305843009213693949))) else (none))) else (none))) else (none))) else (none))) else (none))) else (none)) = some r := H
                have A14 := Aside0.mk A140
                clear A140
                by_cases c15 : t141 = t136
                · rw [if_pos c15] at H
                  have c15b0 : (t141 == t136) = true := beq_iff_eq.mpr c15
                  have c15b1 : (t141 != t136) = false := bne_eq_false_iff_eq.mpr c15
                  clear c15
                  replace H := Option.bind_eq_some_iff.mp H
                  obtain ⟨t142, A160, H⟩ := H
                  replace H : (if t142 = 1 then ((group_Exp.f k 0 0).bind fun t143 => (if t143 = 1 then ((group_Exp.f k 0 2305843009213693950).bind fun t144 => (if t144 = 0 then ((group_MulN.f k 2305843009213693949 2305843009213693949).bind fun t145 => (if t145 = 1 then ((group_AddN.f 2305843009213693949 2).bind fun t146 => (if t146 = 1 then ((group_SubN.f 0 1).bind fun t147 => (some (t147 == 2305843009213693949))) else (none))) else (none))) else (none))) else (none))) else (none)) = some r := H
                  have A16 := Aside0.mk A160
                  clear A160
                  by_cases c17 : t142 = 1
                  · rw [if_pos c17] at H
                    have c17b0 : (t142 == 1) = true := beq_iff_eq.mpr c17
                    have c17b1 : (t142 != 1) = false := bne_eq_false_iff_eq.mpr c17
                    clear c17
                    replace H := Option.bind_eq_some_iff.mp H
                    obtain ⟨t143, A180, H⟩ := H
                    replace H : (if t143 = 1 then ((group_Exp.f k 0 2305843009213693950).bind fun t144 => (if t144 = 0 then ((group_MulN.f k 2305843009213693949 2305843009213693949).bind fun t145 => (if t145 = 1 then ((group_AddN.f 2305843009213693949 2).bind fun t146 => (if t146 = 1 then ((group_SubN.f 0 1).bind fun t147 => (some (t147 == 2305843009213693949))) else (none))) else (none))) else (none))) else (none)) = some r := H
                    have A18 := Aside0.mk A180
                    clear A180
                    by_cases c19 : t143 = 1
                    · rw [if_pos c19] at H
                      have c19b0 : (t143 == 1) = true := beq_iff_eq.mpr c19
                      have c19b1 : (t143 != 1) = false := bne_eq_false_iff_eq.mpr c19
                      clear c19
                      replace H := Option.bind_eq_some_iff.mp H
                      obtain ⟨t144, A200, H⟩ := H
                      replace H : (if t144 = 0 then ((group_MulN.f k 2305843009213693949 2305843009213693949).bind fun t145 => (if t145 = 1 then ((group_AddN.f 2305843009213693949 2).bind fun t146 => (if t146 = 1 then ((group_SubN.f 0 1).bind fun t147 => (some (t147 == 2305843009213693949))) else (none))) else (none))) else (none)) = some r := H
                      have A20 := Aside0.mk A200
                      clear A200
                      by_cases c21 : t144 = 0
                      · rw [if_pos c21] at H
                        have c21b0 : (t144 == 0) = true := beq_iff_eq.mpr c21
                        have c21b1 : (t144 != 0) = false := bne_eq_false_iff_eq.mpr c21
                        clear c21
                        replace H := Option.bind_eq_some_iff.mp H
                        obtain ⟨t145, A220, H⟩ := H
                        replace H : (if t145 = 1 then ((group_AddN.f 2305843009213693949 2).bind fun t146 => (if t146 = 1 then ((group_SubN.f 0 1).bind fun t147 => (some (t147 == 2305843009213693949))) else (none))) else (none)) = some r := H
                        have A22 := Aside0.mk A220
                        clear A220
                        by_cases c23 : t145 = 1
                        · rw [if_pos c23] at H
                          have c23b0 : (t145 == 1) = true := beq_iff_eq.mpr c23
                          have c23b1 : (t145 != 1) = false := bne_eq_false_iff_eq.mpr c23
                          clear c23
                          replace H := Option.bind_eq_some_iff.mp H
                          obtain ⟨t146, A240, H⟩ := H
                          replace H : (if t146 = 1 then ((group_SubN.f 0 1).bind fun t147 => (some (t147 == 2305843009213693949))) else (none)) = some r := H
                          have A24 := Aside0.mk A240
                          clear A240
                          by_cases c25 : t146 = 1
                          · rw [if_pos c25] at H
                            have c25b0 : (t146 == 1) = true := beq_iff_eq.mpr c25
                            have c25b1 : (t146 != 1) = false := bne_eq_false_iff_eq.mpr c25
                            clear c25
                            replace H := Option.bind_eq_some_iff.mp H
                            obtain ⟨t147, A260, H⟩ := H
                            replace H : (some (t147 == 2305843009213693949)) = some r := H
                            have A26 := Aside0.mk A260
                            clear A260
                            obtain rfl := Option.some.inj H
                            go_enter Try.func8, Try.ntmps8
                            go_wp2_with (first | ((with_reducible refine gate_callee (f := 9) rfl ?_); refine goesL_ (some 8) rfl rfl Try.func9 (by kernel_rfl) rfl #[.int .i64 2] rfl (by (try simp only [List.map_toArray, List.map_cons, List.map_nil]); first | done | rfl | (simp only [List.length_drop, List.length_take]; rfl)) ?_; (with_reducible refine (group_Inv.calls k 2 t132 true _ A1.out).mono ?_); rintro e w' ⟨rfl, ⟨nd, rfl⟩⟩; refine ⟨_, rfl, ?_⟩) | ((with_reducible refine gate_callee (f := 9) rfl ?_); refine goesL_ (some 12) rfl rfl Try.func9 (by kernel_rfl) rfl #[.int .i64 2305843009213693951] rfl (by (try simp only [List.map_toArray, List.map_cons, List.map_nil]); first | done | rfl | (simp only [List.length_drop, List.length_take]; rfl)) ?_; (with_reducible refine (group_Inv.calls k 2305843009213693951 t134 false _ A2.out).mono ?_); rintro e w' ⟨rfl, ⟨nd, rfl⟩⟩; refine ⟨_, rfl, ?_⟩) | ((with_reducible refine gate_callee (f := 9) rfl ?_); refine goesL_ (some 16) rfl rfl Try.func9 (by kernel_rfl) rfl #[.int .i64 3] rfl (by (try simp only [List.map_toArray, List.map_cons, List.map_nil]); first | done | rfl | (simp only [List.length_drop, List.length_take]; rfl)) ?_; (with_reducible refine (group_Inv.calls k 3 t136 true _ A3.out).mono ?_); rintro e w' ⟨rfl, ⟨nd, rfl⟩⟩; refine ⟨_, rfl, ?_⟩) | ((with_reducible refine gate_callee (f := 11) rfl ?_); refine goesL_ (some 19) rfl rfl Try.func11 (by kernel_rfl) rfl #[.int .i64 2305843009213693950, .int .i64 2] rfl (by (try simp only [List.map_toArray, List.map_cons, List.map_nil]); first | done | rfl | (simp only [List.length_drop, List.length_take]; rfl)) ?_; (with_reducible refine (group_Add.calls 2305843009213693950 2 t138 _ A4.out).mono ?_); rintro e w' ⟨rfl, ⟨nd, rfl⟩⟩; refine ⟨_, rfl, ?_⟩) | (go_at_call 13; (with_reducible refine (group_Sub.calls 0 1 t139 _ A6.out).mono ?_); rintro e w' ⟨rfl, ⟨nd, rfl⟩⟩) | (go_at_call 15; (with_reducible refine (group_Mul.calls k 2305843009213693950 2305843009213693950 t140 _ A8.out).mono ?_); rintro e w' ⟨rfl, ⟨nd, rfl⟩⟩) | (go_at_call 17; (with_reducible refine (group_Exp.calls k 3 (-1) t141 _ A14.out).mono ?_); rintro e w' ⟨rfl, ⟨nd, rfl⟩⟩) | (go_at_call 17; (with_reducible refine (group_Exp.calls k 2 61 t142 _ A16.out).mono ?_); rintro e w' ⟨rfl, ⟨nd, rfl⟩⟩) | (go_at_call 17; (with_reducible refine (group_Exp.calls k 0 0 t143 _ A18.out).mono ?_); rintro e w' ⟨rfl, ⟨nd, rfl⟩⟩) | (go_at_call 17; (with_reducible refine (group_Exp.calls k 0 2305843009213693950 t144 _ A20.out).mono ?_); rintro e w' ⟨rfl, ⟨nd, rfl⟩⟩) | (go_at_call 23; (with_reducible refine (group_MulN.calls k 2305843009213693949 2305843009213693949 t145 _ A22.out).mono ?_); rintro e w' ⟨rfl, ⟨nd, rfl⟩⟩) | (go_at_call 19; (with_reducible refine (group_AddN.calls 2305843009213693949 2 t146 _ A24.out).mono ?_); rintro e w' ⟨rfl, ⟨nd, rfl⟩⟩) | (go_at_call 21; (with_reducible refine (group_SubN.calls 0 1 t147 _ A26.out).mono ?_); rintro e w' ⟨rfl, ⟨nd, rfl⟩⟩))
                            go_ret
                            exact ⟨by first | rfl | (simp; done) | (simp [*]; done), by repeat (first | exact Drawn0.refl _ | apply Drawn0.step)⟩
                          · rw [if_neg c25] at H
                            exact absurd H (by simp)
                        · rw [if_neg c23] at H
                          exact absurd H (by simp)
                      · rw [if_neg c21] at H
                        exact absurd H (by simp)
                    · rw [if_neg c19] at H
                      exact absurd H (by simp)
                  · rw [if_neg c17] at H
                    exact absurd H (by simp)
                · rw [if_neg c15] at H
                  exact absurd H (by simp)
              · replace c13 := Bool.eq_false_iff.mpr c13
                subst c13
                have H1 : (none) = some r := by rw [if_neg (show ¬ (false = true) by decide)] at H; exact H
                clear H
                have H := H1
                clear H1
                exact absurd H (by simp)
          · replace c11 := Bool.eq_false_iff.mpr c11
            subst c11
            have H1 : (none) = some r := by rw [if_neg (show ¬ (false = true) by decide)] at H; exact H
            clear H
            have H := H1
            clear H1
            exact absurd H (by simp)
        · rw [if_neg c10] at H
          exact absurd H (by simp)
      · rw [if_neg c9] at H
        exact absurd H (by simp)
    · rw [if_neg c7] at H
      exact absurd H (by simp)
  · rw [if_neg c5] at H
    exact absurd H (by simp)

/-! ### agoraref04_Mod: function 27 -/
def agoraref04_Mod.f (a0 : Int) (a1 : Int) : Option (Int) := if a1 = 0 then (none) else (if (Int.tmod a0 a1) < 0 then (some (wrap64 ((Int.tmod a0 a1) + a1))) else (some (Int.tmod a0 a1)))
set_option maxHeartbeats 8000000 in
set_option maxRecDepth 100000 in
theorem agoraref04_Mod.calls (a0 : Int) (a1 : Int) (r : Int) (w : World) (h : agoraref04_Mod.f a0 a1 = some r) :
    Calls Try.prog 27 #[.int .i64 a0, .int .i64 a1] w fun e w' => e = .returned (.int .i64 r) ∧ Drawn0 w w' := by
  have H : (if a1 = 0 then (none) else (if (Int.tmod a0 a1) < 0 then (some (wrap64 ((Int.tmod a0 a1) + a1))) else (some (Int.tmod a0 a1)))) = some r := h
  clear h
  by_cases c3 : a1 = 0
  · rw [if_pos c3] at H
    exact absurd H (by simp)
  · rw [if_neg c3] at H
    have c3b0 : (a1 == 0) = false := beq_eq_false_iff_ne.mpr c3
    have c3b1 : (a1 != 0) = true := bne_iff_ne.mpr c3
    by_cases c4 : (Int.tmod a0 a1) < 0
    · rw [if_pos c4] at H
      have c4b0 : decide ((Int.tmod a0 a1) < 0) = true := decide_eq_true c4
      clear c4
      obtain rfl := Option.some.inj H
      go_enter Try.func27, Try.ntmps27
      go_wp2
      go_ret
      exact ⟨by first | rfl | (simp; done) | (simp [*]; done), by repeat (first | exact Drawn0.refl _ | apply Drawn0.step)⟩
    · rw [if_neg c4] at H
      have c4b0 : decide ((Int.tmod a0 a1) < 0) = false := decide_eq_false c4
      clear c4
      obtain rfl := Option.some.inj H
      go_enter Try.func27, Try.ntmps27
      go_wp2
      go_ret
      exact ⟨by first | rfl | (simp; done) | (simp [*]; done), by repeat (first | exact Drawn0.refl _ | apply Drawn0.step)⟩

/-! ### agoraref04_Inv: function 10 -/
def agoraref04_Inv.l0 : Nat → Int → Int → Int → Int → Option (Int × Bool)
  | 0, _, _, _, _ => none
  | k + 1, x4, x5, x6, x7 => if x5 > 0 then (if x5 = 0 then (none) else (agoraref04_Inv.l0 k x5 (wrap64 (x4 - (wrap64 ((wrap64 (Int.tdiv x4 x5)) * x5)))) x7 (wrap64 (x6 - (wrap64 ((wrap64 (Int.tdiv x4 x5)) * x7)))))) else ((agoraref04_Mod.f x6 2305843009213693951).bind fun t149 => (some (t149, true)))
def agoraref04_Inv.f (k : Nat) (a0 : Int) : Option (Int × Bool) := (agoraref04_Mod.f a0 2305843009213693951).bind fun t148 => (if t148 = 0 then (some (0, false)) else (agoraref04_Inv.l0 k 2305843009213693951 t148 0 1))
theorem agoraref04_Inv.mono_l : ∀ k, (∀ y0 y1 y2 y3, LeO (agoraref04_Inv.l0 k y0 y1 y2 y3) (agoraref04_Inv.l0 (k + 1) y0 y1 y2 y3))
  | 0 => fun _ _ _ _ r h => by simp [agoraref04_Inv.l0] at h
  | k + 1 => by
    have ih0 := agoraref04_Inv.mono_l k
    · intro y0 y1 y2 y3
      unfold agoraref04_Inv.l0
      repeat' first
      | (with_reducible exact ih0 _ _ _ _)
      | (with_reducible exact LeO.refl _)
      | (with_reducible exact LeO.none _)
      | (with_reducible refine LeO.ite ?_ ?_)
      | (with_reducible refine LeO.bind ?_ (fun _ => ?_))
      | exact ih0 _ _ _ _
      | exact LeO.none _
      | refine LeO.ite ?_ ?_
      | refine LeO.bind ?_ (fun _ => ?_)
theorem agoraref04_Inv.mono : ∀ a0 k, LeO (agoraref04_Inv.f k a0) (agoraref04_Inv.f (k + 1) a0) := by
  intro a0 k
  have ih0 := agoraref04_Inv.mono_l k
  unfold agoraref04_Inv.f
  repeat' first
      | (with_reducible exact ih0 _ _ _ _)
      | (with_reducible exact LeO.refl _)
      | (with_reducible exact LeO.none _)
      | (with_reducible refine LeO.ite ?_ ?_)
      | (with_reducible refine LeO.bind ?_ (fun _ => ?_))
      | exact ih0 _ _ _ _
      | exact LeO.none _
      | refine LeO.ite ?_ ?_
      | refine LeO.bind ?_ (fun _ => ?_)
set_option maxHeartbeats 8000000 in
set_option maxRecDepth 100000 in
theorem agoraref04_Inv.calls (k : Nat) (a0 : Int) (r1 : Int) (r2 : Bool) (w : World) (h : agoraref04_Inv.f k a0 = some (r1, r2)) :
    Calls Try.prog 10 #[.int .i64 a0] w fun e w' => e = .returned (.tuple #[.int .i64 r1, .bool r2]) ∧ Drawn0 w w' := by
  have H : ((agoraref04_Mod.f a0 2305843009213693951).bind fun t148 => (if t148 = 0 then (some (0, false)) else (agoraref04_Inv.l0 k 2305843009213693951 t148 0 1))) = some (r1, r2) := h
  clear h
  replace H := Option.bind_eq_some_iff.mp H
  obtain ⟨t148, A20, H⟩ := H
  replace H : (if t148 = 0 then (some (0, false)) else (agoraref04_Inv.l0 k 2305843009213693951 t148 0 1)) = some (r1, r2) := H
  have A2 := Aside0.mk A20
  clear A20
  by_cases c3 : t148 = 0
  · rw [if_pos c3] at H
    have c3b0 : (t148 == 0) = true := beq_iff_eq.mpr c3
    have c3b1 : (t148 != 0) = false := bne_eq_false_iff_eq.mpr c3
    clear c3
    simp only [Option.some.injEq, Prod.mk.injEq] at H
    obtain ⟨rfl, rfl⟩ := H
    go_enter Try.func10, Try.ntmps10
    go_wp2_with (first | ((with_reducible refine gate_callee (f := 27) rfl ?_); refine goesL_ (some 10) rfl rfl Try.func27 (by kernel_rfl) rfl #[.int .i64 a0, .int .i64 2305843009213693951] rfl (by (try simp only [List.map_toArray, List.map_cons, List.map_nil]); first | done | rfl | (simp only [List.length_drop, List.length_take]; rfl)) ?_; (with_reducible refine (agoraref04_Mod.calls a0 2305843009213693951 t148 _ A2.out).mono ?_); rintro e w' ⟨rfl, ⟨nd, rfl⟩⟩; refine ⟨_, rfl, ?_⟩))
    go_ret2
    exact ⟨by first | rfl | (simp; done) | (simp [*]; done), by repeat (first | exact Drawn0.refl _ | apply Drawn0.step)⟩
  · rw [if_neg c3] at H
    have c3b0 : (t148 == 0) = false := beq_eq_false_iff_ne.mpr c3
    have c3b1 : (t148 != 0) = true := bne_iff_ne.mpr c3
    have H' := Aside0.mk H
    clear H
    go_enter Try.func10, Try.ntmps10
    go_wp2_with (first | ((with_reducible refine gate_callee (f := 27) rfl ?_); refine goesL_ (some 10) rfl rfl Try.func27 (by kernel_rfl) rfl #[.int .i64 a0, .int .i64 2305843009213693951] rfl (by (try simp only [List.map_toArray, List.map_cons, List.map_nil]); first | done | rfl | (simp only [List.length_drop, List.length_take]; rfl)) ?_; (with_reducible refine (agoraref04_Mod.calls a0 2305843009213693951 t148 _ A2.out).mono ?_); rintro e w' ⟨rfl, ⟨nd, rfl⟩⟩; refine ⟨_, rfl, ?_⟩))
    go_loopg [4, 5, 6, 7] k (fun kq v4 v5 v6 v7 w' => ∃ (x4_1 : Int) (x5_1 : Int) (x6_1 : Int) (x7_1 : Int), v4 = .int .i64 x4_1 ∧ v5 = .int .i64 x5_1 ∧ v6 = .int .i64 x6_1 ∧ v7 = .int .i64 x7_1 ∧ Aside0 (agoraref04_Inv.l0 kq x4_1 x5_1 x6_1 x7_1 = some (r1, r2)) ∧ Aside0 (kq ≤ k) ∧ Drawn0 w w')
    case atStart => exact ⟨(2305843009213693951), (t148), (0), (1), (by first | rfl | (simp; done) | (simp [*]; done)), (by first | rfl | (simp; done) | (simp [*]; done)), (by first | rfl | (simp; done) | (simp [*]; done)), (by first | rfl | (simp; done) | (simp [*]; done)), H', ⟨Nat.le_refl _⟩, by repeat (first | exact Drawn0.refl _ | apply Drawn0.step)⟩
    case round =>
      clear H'
      try clear c1
      try clear c2
      try clear p2
      try clear c3
      try clear c3b0
      try clear c3b1
      obtain ⟨x4_1, x5_1, x6_1, x7_1, rfl, rfl, rfl, rfl, HA, HK1, ⟨m1, rfl⟩⟩ := hrel
      cases gk with
      | zero => exact absurd HA.out (by simp [agoraref04_Inv.l0])
      | succ k1 =>
        have H := HA.out
        clear HA
        simp only [agoraref04_Inv.l0] at H
        by_cases c4 : x5_1 > 0
        · rw [if_pos c4] at H
          have c4b0 : decide (0 < x5_1) = true := decide_eq_true c4
          clear c4
          by_cases c5 : x5_1 = 0
          · rw [if_pos c5] at H
            exact absurd H (by simp)
          · rw [if_neg c5] at H
            have c5b0 : (x5_1 == 0) = false := beq_eq_false_iff_ne.mpr c5
            have c5b1 : (x5_1 != 0) = true := bne_iff_ne.mpr c5
            have H' := Aside0.mk H
            clear H
            go_wp2
            go_roundg k1
            case measure => have := HK1.out; omega
            case rel => exact ⟨(x5_1), (wrap64 (x4_1 - (wrap64 ((wrap64 (Int.tdiv x4_1 x5_1)) * x5_1)))), (x7_1), (wrap64 (x6_1 - (wrap64 ((wrap64 (Int.tdiv x4_1 x5_1)) * x7_1)))), (by first | rfl | (simp; done) | (simp [*]; done)), (by first | rfl | (simp; done) | (simp [*]; done)), (by first | rfl | (simp; done) | (simp [*]; done)), (by first | rfl | (simp; done) | (simp [*]; done)), H', ⟨by have := HK1.out; omega⟩, by repeat (first | exact Drawn0.refl _ | apply Drawn0.step)⟩
        · rw [if_neg c4] at H
          have c4b0 : decide (0 < x5_1) = false := decide_eq_false c4
          clear c4
          replace H := Option.bind_eq_some_iff.mp H
          obtain ⟨t149, A60, H⟩ := H
          replace H : (some (t149, true)) = some (r1, r2) := H
          have A6 := Aside0.mk A60
          clear A60
          simp only [Option.some.injEq, Prod.mk.injEq] at H
          obtain ⟨rfl, rfl⟩ := H
          go_wp2_with (first | ((with_reducible refine gate_callee (f := 27) rfl ?_); refine goesL_ (some 31) rfl rfl Try.func27 (by kernel_rfl) rfl #[.int .i64 x6_1, .int .i64 2305843009213693951] rfl (by (try simp only [List.map_toArray, List.map_cons, List.map_nil]); first | done | rfl | (simp only [List.length_drop, List.length_take]; rfl)) ?_; (with_reducible refine (agoraref04_Mod.calls x6_1 2305843009213693951 t149 _ A6.out).mono ?_); rintro e w' ⟨rfl, ⟨nd, rfl⟩⟩; refine ⟨_, rfl, ?_⟩))
          go_ret2
          exact ⟨by first | rfl | (simp; done) | (simp [*]; done), by repeat (first | exact Drawn0.refl _ | apply Drawn0.step)⟩

/-! ### agoraref04_Add: function 12 -/
def agoraref04_Add.f (a0 : Int) (a1 : Int) : Option (Int) := (agoraref04_Mod.f a0 2305843009213693951).bind fun t150 => ((agoraref04_Mod.f a1 2305843009213693951).bind fun t151 => ((agoraref04_Mod.f (wrap64 (t150 + t151)) 2305843009213693951).bind fun t152 => (some t152)))
set_option maxHeartbeats 8000000 in
set_option maxRecDepth 100000 in
theorem agoraref04_Add.calls (a0 : Int) (a1 : Int) (r : Int) (w : World) (h : agoraref04_Add.f a0 a1 = some r) :
    Calls Try.prog 12 #[.int .i64 a0, .int .i64 a1] w fun e w' => e = .returned (.int .i64 r) ∧ Drawn0 w w' := by
  have H : ((agoraref04_Mod.f a0 2305843009213693951).bind fun t150 => ((agoraref04_Mod.f a1 2305843009213693951).bind fun t151 => ((agoraref04_Mod.f (wrap64 (t150 + t151)) 2305843009213693951).bind fun t152 => (some t152)))) = some r := h
  clear h
  replace H := Option.bind_eq_some_iff.mp H
  obtain ⟨t150, A30, H⟩ := H
  replace H : ((agoraref04_Mod.f a1 2305843009213693951).bind fun t151 => ((agoraref04_Mod.f (wrap64 (t150 + t151)) 2305843009213693951).bind fun t152 => (some t152))) = some r := H
  have A3 := Aside0.mk A30
  clear A30
  replace H := Option.bind_eq_some_iff.mp H
  obtain ⟨t151, A40, H⟩ := H
  replace H : ((agoraref04_Mod.f (wrap64 (t150 + t151)) 2305843009213693951).bind fun t152 => (some t152)) = some r := H
  have A4 := Aside0.mk A40
  clear A40
  replace H := Option.bind_eq_some_iff.mp H
  obtain ⟨t152, A50, H⟩ := H
  replace H : (some t152) = some r := H
  have A5 := Aside0.mk A50
  clear A50
  obtain rfl := Option.some.inj H
  go_enter Try.func12, Try.ntmps12
  go_wp2_with (first | ((with_reducible refine gate_callee (f := 27) rfl ?_); refine goesL_ (some 6) rfl rfl Try.func27 (by kernel_rfl) rfl #[.int .i64 a0, .int .i64 2305843009213693951] rfl (by (try simp only [List.map_toArray, List.map_cons, List.map_nil]); first | done | rfl | (simp only [List.length_drop, List.length_take]; rfl)) ?_; (with_reducible refine (agoraref04_Mod.calls a0 2305843009213693951 t150 _ A3.out).mono ?_); rintro e w' ⟨rfl, ⟨nd, rfl⟩⟩; refine ⟨_, rfl, ?_⟩) | ((with_reducible refine gate_callee (f := 27) rfl ?_); refine goesL_ (some 8) rfl rfl Try.func27 (by kernel_rfl) rfl #[.int .i64 a1, .int .i64 2305843009213693951] rfl (by (try simp only [List.map_toArray, List.map_cons, List.map_nil]); first | done | rfl | (simp only [List.length_drop, List.length_take]; rfl)) ?_; (with_reducible refine (agoraref04_Mod.calls a1 2305843009213693951 t151 _ A4.out).mono ?_); rintro e w' ⟨rfl, ⟨nd, rfl⟩⟩; refine ⟨_, rfl, ?_⟩) | ((with_reducible refine gate_callee (f := 27) rfl ?_); refine goesL_ (some 10) rfl rfl Try.func27 (by kernel_rfl) rfl #[.int .i64 (wrap64 (t150 + t151)), .int .i64 2305843009213693951] rfl (by (try simp only [List.map_toArray, List.map_cons, List.map_nil]); first | done | rfl | (simp only [List.length_drop, List.length_take]; rfl)) ?_; (with_reducible refine (agoraref04_Mod.calls (wrap64 (t150 + t151)) 2305843009213693951 t152 _ A5.out).mono ?_); rintro e w' ⟨rfl, ⟨nd, rfl⟩⟩; refine ⟨_, rfl, ?_⟩))
  go_ret
  exact ⟨by first | rfl | (simp; done) | (simp [*]; done), by repeat (first | exact Drawn0.refl _ | apply Drawn0.step)⟩

end Go.Proofs.Ytffmdbbndfmgdaa.P
