/- Functions of the given program as plain Lean functions, each with the proof that a call of it comes to what that function says (no conditions beside those in the statements). Written by a program of the session (myprint.py). -/
import Derived.Test.YtffmdbbndfmgdaaP0
import Derived.Test.YtffmdbbndfmgdaaP2
namespace Go.Proofs.Ytffmdbbndfmgdaa.P
open Go.RowKit Go.Proofs.YtffmdbbndfmgdaaW.PrintWords Go.Proofs.YtffmdbbndfmgdaaW.PrintLast Go.Proofs.YtffmdbbndfmgdaaW.PrintMore
attribute [local go_sem] max2_int min2_int max_two min_two max_three min_three max_four min_four   -- for this text's walks alone
set_option linter.unusedVariables false
set_option linter.unusedSimpArgs false

/-! ### agoraref04_Sub: function 14 -/
def agoraref04_Sub.f (a0 : Int) (a1 : Int) : Option (Int) := (agoraref04_Mod.f a0 2305843009213693951).bind fun t153 => ((agoraref04_Mod.f a1 2305843009213693951).bind fun t154 => ((agoraref04_Mod.f (wrap64 (t153 - t154)) 2305843009213693951).bind fun t155 => (some t155)))
set_option maxHeartbeats 8000000 in
set_option maxRecDepth 100000 in
theorem agoraref04_Sub.calls (a0 : Int) (a1 : Int) (r : Int) (w : World) (h : agoraref04_Sub.f a0 a1 = some r) :
    Calls Try.prog 14 #[.int .i64 a0, .int .i64 a1] w fun e w' => e = .returned (.int .i64 r) ∧ Drawn0 w w' := by
  have H : ((agoraref04_Mod.f a0 2305843009213693951).bind fun t153 => ((agoraref04_Mod.f a1 2305843009213693951).bind fun t154 => ((agoraref04_Mod.f (wrap64 (t153 - t154)) 2305843009213693951).bind fun t155 => (some t155)))) = some r := h
  clear h
  replace H := Option.bind_eq_some_iff.mp H
  obtain ⟨t153, A30, H⟩ := H
  replace H : ((agoraref04_Mod.f a1 2305843009213693951).bind fun t154 => ((agoraref04_Mod.f (wrap64 (t153 - t154)) 2305843009213693951).bind fun t155 => (some t155))) = some r := H
  have A3 := Aside0.mk A30
  clear A30
  replace H := Option.bind_eq_some_iff.mp H
  obtain ⟨t154, A40, H⟩ := H
  replace H : ((agoraref04_Mod.f (wrap64 (t153 - t154)) 2305843009213693951).bind fun t155 => (some t155)) = some r := H
  have A4 := Aside0.mk A40
  clear A40
  replace H := Option.bind_eq_some_iff.mp H
  obtain ⟨t155, A50, H⟩ := H
  replace H : (some t155) = some r := H
  have A5 := Aside0.mk A50
  clear A50
  obtain rfl := Option.some.inj H
  go_enter Try.func14, Try.ntmps14
  go_wp2_with (first | ((with_reducible refine gate_callee (f := 27) rfl ?_); refine goesL_ (some 6) rfl rfl Try.func27 (by kernel_rfl) rfl #[.int .i64 a0, .int .i64 2305843009213693951] rfl (by (try simp only [List.map_toArray, List.map_cons, List.map_nil]); first | done | rfl | (simp only [List.length_drop, List.length_take]; rfl)) ?_; (with_reducible refine (agoraref04_Mod.calls a0 2305843009213693951 t153 _ A3.out).mono ?_); rintro e w' ⟨rfl, ⟨nd, rfl⟩⟩; refine ⟨_, rfl, ?_⟩) | ((with_reducible refine gate_callee (f := 27) rfl ?_); refine goesL_ (some 8) rfl rfl Try.func27 (by kernel_rfl) rfl #[.int .i64 a1, .int .i64 2305843009213693951] rfl (by (try simp only [List.map_toArray, List.map_cons, List.map_nil]); first | done | rfl | (simp only [List.length_drop, List.length_take]; rfl)) ?_; (with_reducible refine (agoraref04_Mod.calls a1 2305843009213693951 t154 _ A4.out).mono ?_); rintro e w' ⟨rfl, ⟨nd, rfl⟩⟩; refine ⟨_, rfl, ?_⟩) | ((with_reducible refine gate_callee (f := 27) rfl ?_); refine goesL_ (some 10) rfl rfl Try.func27 (by kernel_rfl) rfl #[.int .i64 (wrap64 (t153 - t154)), .int .i64 2305843009213693951] rfl (by (try simp only [List.map_toArray, List.map_cons, List.map_nil]); first | done | rfl | (simp only [List.length_drop, List.length_take]; rfl)) ?_; (with_reducible refine (agoraref04_Mod.calls (wrap64 (t153 - t154)) 2305843009213693951 t155 _ A5.out).mono ?_); rintro e w' ⟨rfl, ⟨nd, rfl⟩⟩; refine ⟨_, rfl, ?_⟩))
  go_ret
  exact ⟨by first | rfl | (simp; done) | (simp [*]; done), by repeat (first | exact Drawn0.refl _ | apply Drawn0.step)⟩

/-! ### agoraref04_parts: function 29 -/
def agoraref04_parts.f (a0 : Int) (a1 : Int) : Option (Int × Int × Int) := some (IntKind.u64.wrap (((IntKind.u64.wrap (a0)) / 2147483648) * ((IntKind.u64.wrap (a1)) / 2147483648)), IntKind.u64.wrap ((IntKind.u64.wrap (((IntKind.u64.wrap (a0)) / 2147483648) * (Go.bits .and .u64 (IntKind.u64.wrap (a1)) 2147483647))) + (IntKind.u64.wrap ((Go.bits .and .u64 (IntKind.u64.wrap (a0)) 2147483647) * ((IntKind.u64.wrap (a1)) / 2147483648)))), IntKind.u64.wrap ((Go.bits .and .u64 (IntKind.u64.wrap (a0)) 2147483647) * (Go.bits .and .u64 (IntKind.u64.wrap (a1)) 2147483647)))
set_option maxHeartbeats 8000000 in
set_option maxRecDepth 100000 in
theorem agoraref04_parts.calls (a0 : Int) (a1 : Int) (r1 : Int) (r2 : Int) (r3 : Int) (w : World) (h : agoraref04_parts.f a0 a1 = some (r1, r2, r3)) :
    Calls Try.prog 29 #[.int .i64 a0, .int .i64 a1] w fun e w' => e = .returned (.tuple #[.int .u64 r1, .int .u64 r2, .int .u64 r3]) ∧ Drawn0 w w' := by
  have H : (some (IntKind.u64.wrap (((IntKind.u64.wrap (a0)) / 2147483648) * ((IntKind.u64.wrap (a1)) / 2147483648)), IntKind.u64.wrap ((IntKind.u64.wrap (((IntKind.u64.wrap (a0)) / 2147483648) * (Go.bits .and .u64 (IntKind.u64.wrap (a1)) 2147483647))) + (IntKind.u64.wrap ((Go.bits .and .u64 (IntKind.u64.wrap (a0)) 2147483647) * ((IntKind.u64.wrap (a1)) / 2147483648)))), IntKind.u64.wrap ((Go.bits .and .u64 (IntKind.u64.wrap (a0)) 2147483647) * (Go.bits .and .u64 (IntKind.u64.wrap (a1)) 2147483647)))) = some (r1, r2, r3) := h
  clear h
  simp only [Option.some.injEq, Prod.mk.injEq] at H
  obtain ⟨rfl, rfl, rfl⟩ := H
  go_enter Try.func29, Try.ntmps29
  go_wp2
  go_ret3
  exact ⟨by first | rfl | (simp; done) | (simp [*]; done), by repeat (first | exact Drawn0.refl _ | apply Drawn0.step)⟩

/-! ### agoraref04_Mul: function 16 -/
def agoraref04_Mul.f (a0 : Int) (a1 : Int) : Option (Int) := (agoraref04_Mod.f a0 2305843009213693951).bind fun t156 => ((agoraref04_Mod.f a1 2305843009213693951).bind fun t157 => ((agoraref04_parts.f t156 t157).bind fun bt158 => (some (wrap64 (Int.tmod (IntKind.u64.wrap ((IntKind.u64.wrap ((IntKind.u64.wrap ((IntKind.u64.wrap (2 * bt158.1)) + (bt158.2.1 / 1073741824))) + (IntKind.u64.wrap ((Go.bits .and .u64 bt158.2.1 1073741823) * 2147483648)))) + bt158.2.2)) 2305843009213693951)))))
set_option maxHeartbeats 8000000 in
set_option maxRecDepth 100000 in
theorem agoraref04_Mul.calls (a0 : Int) (a1 : Int) (r : Int) (w : World) (h : agoraref04_Mul.f a0 a1 = some r) :
    Calls Try.prog 16 #[.int .i64 a0, .int .i64 a1] w fun e w' => e = .returned (.int .i64 r) ∧ Drawn0 w w' := by
  have H : ((agoraref04_Mod.f a0 2305843009213693951).bind fun t156 => ((agoraref04_Mod.f a1 2305843009213693951).bind fun t157 => ((agoraref04_parts.f t156 t157).bind fun bt158 => (some (wrap64 (Int.tmod (IntKind.u64.wrap ((IntKind.u64.wrap ((IntKind.u64.wrap ((IntKind.u64.wrap (2 * bt158.1)) + (bt158.2.1 / 1073741824))) + (IntKind.u64.wrap ((Go.bits .and .u64 bt158.2.1 1073741823) * 2147483648)))) + bt158.2.2)) 2305843009213693951)))))) = some r := h
  clear h
  replace H := Option.bind_eq_some_iff.mp H
  obtain ⟨t156, A30, H⟩ := H
  replace H : ((agoraref04_Mod.f a1 2305843009213693951).bind fun t157 => ((agoraref04_parts.f t156 t157).bind fun bt158 => (some (wrap64 (Int.tmod (IntKind.u64.wrap ((IntKind.u64.wrap ((IntKind.u64.wrap ((IntKind.u64.wrap (2 * bt158.1)) + (bt158.2.1 / 1073741824))) + (IntKind.u64.wrap ((Go.bits .and .u64 bt158.2.1 1073741823) * 2147483648)))) + bt158.2.2)) 2305843009213693951))))) = some r := H
  have A3 := Aside0.mk A30
  clear A30
  replace H := Option.bind_eq_some_iff.mp H
  obtain ⟨t157, A40, H⟩ := H
  replace H : ((agoraref04_parts.f t156 t157).bind fun bt158 => (some (wrap64 (Int.tmod (IntKind.u64.wrap ((IntKind.u64.wrap ((IntKind.u64.wrap ((IntKind.u64.wrap (2 * bt158.1)) + (bt158.2.1 / 1073741824))) + (IntKind.u64.wrap ((Go.bits .and .u64 bt158.2.1 1073741823) * 2147483648)))) + bt158.2.2)) 2305843009213693951)))) = some r := H
  have A4 := Aside0.mk A40
  clear A40
  replace H := Option.bind_eq_some_iff.mp H
  obtain ⟨⟨t158, t159, t160⟩, A50, H⟩ := H
  replace H : (some (wrap64 (Int.tmod (IntKind.u64.wrap ((IntKind.u64.wrap ((IntKind.u64.wrap ((IntKind.u64.wrap (2 * t158)) + (t159 / 1073741824))) + (IntKind.u64.wrap ((Go.bits .and .u64 t159 1073741823) * 2147483648)))) + t160)) 2305843009213693951))) = some r := H
  have A5 := Aside0.mk A50
  clear A50
  obtain rfl := Option.some.inj H
  go_enter Try.func16, Try.ntmps16
  go_wp2_with (first | ((with_reducible refine gate_callee (f := 27) rfl ?_); refine goesL_ (some 11) rfl rfl Try.func27 (by kernel_rfl) rfl #[.int .i64 a0, .int .i64 2305843009213693951] rfl (by (try simp only [List.map_toArray, List.map_cons, List.map_nil]); first | done | rfl | (simp only [List.length_drop, List.length_take]; rfl)) ?_; (with_reducible refine (agoraref04_Mod.calls a0 2305843009213693951 t156 _ A3.out).mono ?_); rintro e w' ⟨rfl, ⟨nd, rfl⟩⟩; refine ⟨_, rfl, ?_⟩) | ((with_reducible refine gate_callee (f := 27) rfl ?_); refine goesL_ (some 13) rfl rfl Try.func27 (by kernel_rfl) rfl #[.int .i64 a1, .int .i64 2305843009213693951] rfl (by (try simp only [List.map_toArray, List.map_cons, List.map_nil]); first | done | rfl | (simp only [List.length_drop, List.length_take]; rfl)) ?_; (with_reducible refine (agoraref04_Mod.calls a1 2305843009213693951 t157 _ A4.out).mono ?_); rintro e w' ⟨rfl, ⟨nd, rfl⟩⟩; refine ⟨_, rfl, ?_⟩) | ((with_reducible refine gate_callee (f := 29) rfl ?_); refine goesL_ (some 14) rfl rfl Try.func29 (by kernel_rfl) rfl #[.int .i64 t156, .int .i64 t157] rfl (by (try simp only [List.map_toArray, List.map_cons, List.map_nil]); first | done | rfl | (simp only [List.length_drop, List.length_take]; rfl)) ?_; (with_reducible refine (agoraref04_parts.calls t156 t157 t158 t159 t160 _ A5.out).mono ?_); rintro e w' ⟨rfl, ⟨nd, rfl⟩⟩; refine ⟨_, rfl, ?_⟩))
  go_ret
  exact ⟨by first | rfl | (simp; done) | (simp [*]; done), by repeat (first | exact Drawn0.refl _ | apply Drawn0.step)⟩

/-! ### agoraref04_Exp: function 18 -/
mutual
def agoraref04_Exp.j0 : Nat → Int → Int → Option (Int)
  | 0, _, _ => none
  | k + 1, x0, x1 => (agoraref04_Mod.f x0 2305843009213693951).bind fun t162 => (agoraref04_Exp.l0 k x1 1 t162)
def agoraref04_Exp.l0 : Nat → Int → Int → Int → Option (Int)
  | 0, _, _, _ => none
  | k + 1, x1, x5, x6 => if x1 > 0 then (if (Int.tmod x1 2) = 1 then ((agoraref04_Mul.f x5 x6).bind fun t163 => ((agoraref04_Mul.f x6 x6).bind fun t164 => (agoraref04_Exp.l0 k (wrap64 (Int.tdiv x1 2)) t163 t164))) else ((agoraref04_Mul.f x6 x6).bind fun t165 => (agoraref04_Exp.l0 k (wrap64 (Int.tdiv x1 2)) x5 t165))) else (some x5)
end
def agoraref04_Exp.f (k : Nat) (a0 : Int) (a1 : Int) : Option (Int) := if a1 < 0 then ((agoraref04_Mod.f a1 2305843009213693950).bind fun t161 => (agoraref04_Exp.j0 k a0 t161)) else (agoraref04_Exp.j0 k a0 a1)
theorem agoraref04_Exp.mono_l : ∀ k, (∀ y0 y1, LeO (agoraref04_Exp.j0 k y0 y1) (agoraref04_Exp.j0 (k + 1) y0 y1)) ∧ (∀ y0 y1 y2, LeO (agoraref04_Exp.l0 k y0 y1 y2) (agoraref04_Exp.l0 (k + 1) y0 y1 y2))
  | 0 => ⟨fun _ _ r h => by simp [agoraref04_Exp.j0] at h, fun _ _ _ r h => by simp [agoraref04_Exp.l0] at h⟩
  | k + 1 => by
    obtain ⟨ih0, ih1⟩ := agoraref04_Exp.mono_l k
    refine ⟨?_, ?_⟩
    · intro y0 y1
      unfold agoraref04_Exp.j0
      repeat' first
      | (with_reducible exact ih0 _ _)
      | (with_reducible exact ih1 _ _ _)
      | (with_reducible exact LeO.refl _)
      | (with_reducible exact LeO.none _)
      | (with_reducible refine LeO.ite ?_ ?_)
      | (with_reducible refine LeO.bind ?_ (fun _ => ?_))
      | exact ih0 _ _
      | exact ih1 _ _ _
      | exact LeO.none _
      | refine LeO.ite ?_ ?_
      | refine LeO.bind ?_ (fun _ => ?_)
    · intro y0 y1 y2
      unfold agoraref04_Exp.l0
      repeat' first
      | (with_reducible exact ih0 _ _)
      | (with_reducible exact ih1 _ _ _)
      | (with_reducible exact LeO.refl _)
      | (with_reducible exact LeO.none _)
      | (with_reducible refine LeO.ite ?_ ?_)
      | (with_reducible refine LeO.bind ?_ (fun _ => ?_))
      | exact ih0 _ _
      | exact ih1 _ _ _
      | exact LeO.none _
      | refine LeO.ite ?_ ?_
      | refine LeO.bind ?_ (fun _ => ?_)
theorem agoraref04_Exp.mono : ∀ a0 a1 k, LeO (agoraref04_Exp.f k a0 a1) (agoraref04_Exp.f (k + 1) a0 a1) := by
  intro a0 a1 k
  obtain ⟨ih0, ih1⟩ := agoraref04_Exp.mono_l k
  unfold agoraref04_Exp.f
  repeat' first
      | (with_reducible exact ih0 _ _)
      | (with_reducible exact ih1 _ _ _)
      | (with_reducible exact LeO.refl _)
      | (with_reducible exact LeO.none _)
      | (with_reducible refine LeO.ite ?_ ?_)
      | (with_reducible refine LeO.bind ?_ (fun _ => ?_))
      | exact ih0 _ _
      | exact ih1 _ _ _
      | exact LeO.none _
      | refine LeO.ite ?_ ?_
      | refine LeO.bind ?_ (fun _ => ?_)
set_option maxHeartbeats 8000000 in
set_option maxRecDepth 100000 in
theorem agoraref04_Exp.calls (k : Nat) (a0 : Int) (a1 : Int) (r : Int) (w : World) (h : agoraref04_Exp.f k a0 a1 = some r) :
    Calls Try.prog 18 #[.int .i64 a0, .int .i64 a1] w fun e w' => e = .returned (.int .i64 r) ∧ Drawn0 w w' := by
  have H : (if a1 < 0 then ((agoraref04_Mod.f a1 2305843009213693950).bind fun t161 => (agoraref04_Exp.j0 k a0 t161)) else (agoraref04_Exp.j0 k a0 a1)) = some r := h
  clear h
  have HC3 := Aside0.mk H
  clear H
  go_enter Try.func18, Try.ntmps18
  go_upto_if 8 with (fail)
  go_cut [1] (fun v1 wc => ∃ (kq : Nat) (x1_2 : Int), v1 = .int .i64 x1_2 ∧ Aside0 (agoraref04_Exp.j0 kq a0 x1_2 = some r) ∧ Aside0 (kq ≤ k) ∧ Drawn0 w wc)
  case first =>
    have H := HC3.out
    clear HC3
    by_cases c4 : a1 < 0
    · rw [if_pos c4] at H
      have c4b0 : decide (a1 < 0) = true := decide_eq_true c4
      clear c4
      (first | rw [c4b0] | (simp only [i64_w, i32_w]; rw [c4b0]) | skip)
      replace H := Option.bind_eq_some_iff.mp H
      obtain ⟨t161, A50, H⟩ := H
      replace H : (agoraref04_Exp.j0 k a0 t161) = some r := H
      have A5 := Aside0.mk A50
      clear A50
      have H' := Aside0.mk H
      clear H
      go_wp2_with (first | ((with_reducible refine gate_callee (f := 27) rfl ?_); refine goesL_ (some 10) rfl rfl Try.func27 (by kernel_rfl) rfl #[.int .i64 a1, .int .i64 2305843009213693950] rfl (by (try simp only [List.map_toArray, List.map_cons, List.map_nil]); first | done | rfl | (simp only [List.length_drop, List.length_take]; rfl)) ?_; (with_reducible refine (agoraref04_Mod.calls a1 2305843009213693950 t161 _ A5.out).mono ?_); rintro e w' ⟨rfl, ⟨nd, rfl⟩⟩; refine ⟨_, rfl, ?_⟩))
      go_meet
      case rel => exact ⟨_, (t161), (by first | rfl | (simp; done) | (simp [*]; done)), H', ⟨by first | omega | exact Nat.le_refl _⟩, by repeat (first | exact Drawn0.refl _ | apply Drawn0.step)⟩
    · rw [if_neg c4] at H
      have c4b0 : decide (a1 < 0) = false := decide_eq_false c4
      clear c4
      (first | rw [c4b0] | (simp only [i64_w, i32_w]; rw [c4b0]) | skip)
      have H' := Aside0.mk H
      clear H
      go_wp2
      go_meet
      case rel => exact ⟨_, (a1), (by first | rfl | (simp; done) | (simp [*]; done)), H', ⟨by first | omega | exact Nat.le_refl _⟩, by repeat (first | exact Drawn0.refl _ | apply Drawn0.step)⟩
  case rest =>
    clear HC3
    try clear c1
    try clear c2
    try clear p2
    try clear c4
    try clear c4b0
    obtain ⟨kq, x1_2, rfl, HA, HJ2, ⟨mc2, rfl⟩⟩ := hcut
    cases kq with
    | zero => exact absurd HA.out (by simp [agoraref04_Exp.j0])
    | succ kj2 =>
      have H := HA.out
      clear HA
      simp only [agoraref04_Exp.j0] at H
      replace H := Option.bind_eq_some_iff.mp H
      obtain ⟨t162, A60, H⟩ := H
      replace H : (agoraref04_Exp.l0 kj2 x1_2 1 t162) = some r := H
      have A6 := Aside0.mk A60
      clear A60
      have H' := Aside0.mk H
      clear H
      go_wp2_with (first | ((with_reducible refine gate_callee (f := 27) rfl ?_); refine goesL_ (some 12) rfl rfl Try.func27 (by kernel_rfl) rfl #[.int .i64 a0, .int .i64 2305843009213693951] rfl (by (try simp only [List.map_toArray, List.map_cons, List.map_nil]); first | done | rfl | (simp only [List.length_drop, List.length_take]; rfl)) ?_; (with_reducible refine (agoraref04_Mod.calls a0 2305843009213693951 t162 _ A6.out).mono ?_); rintro e w' ⟨rfl, ⟨nd, rfl⟩⟩; refine ⟨_, rfl, ?_⟩))
      go_loopg [1, 5, 6] kj2 (fun kq v1 v5 v6 w' => ∃ (x1_2 : Int) (x5_2 : Int) (x6_2 : Int), v1 = .int .i64 x1_2 ∧ v5 = .int .i64 x5_2 ∧ v6 = .int .i64 x6_2 ∧ Aside0 (agoraref04_Exp.l0 kq x1_2 x5_2 x6_2 = some r) ∧ Aside0 (kq ≤ kj2) ∧ Drawn0 w w')
      case atStart => exact ⟨(x1_2), (1), (t162), (by first | rfl | (simp; done) | (simp [*]; done)), (by first | rfl | (simp; done) | (simp [*]; done)), (by first | rfl | (simp; done) | (simp [*]; done)), H', ⟨Nat.le_refl _⟩, by repeat (first | exact Drawn0.refl _ | apply Drawn0.step)⟩
      case round =>
        clear H'
        try clear c1
        try clear c2
        try clear p2
        try clear c4
        try clear c4b0
        try clear p2
        obtain ⟨x1_2, x5_2, x6_2, rfl, rfl, rfl, HA, HK2, ⟨m2, rfl⟩⟩ := hrel
        cases gk with
        | zero => exact absurd HA.out (by simp [agoraref04_Exp.l0])
        | succ k2 =>
          have H := HA.out
          clear HA
          simp only [agoraref04_Exp.l0] at H
          by_cases c7 : x1_2 > 0
          · rw [if_pos c7] at H
            have c7b0 : decide (0 < x1_2) = true := decide_eq_true c7
            clear c7
            by_cases c8 : (Int.tmod x1_2 2) = 1
            · rw [if_pos c8] at H
              have c8b0 : ((Int.tmod x1_2 2) == 1) = true := beq_iff_eq.mpr c8
              have c8b1 : ((Int.tmod x1_2 2) != 1) = false := bne_eq_false_iff_eq.mpr c8
              clear c8
              replace H := Option.bind_eq_some_iff.mp H
              obtain ⟨t163, A90, H⟩ := H
              replace H : ((agoraref04_Mul.f x6_2 x6_2).bind fun t164 => (agoraref04_Exp.l0 k2 (wrap64 (Int.tdiv x1_2 2)) t163 t164)) = some r := H
              have A9 := Aside0.mk A90
              clear A90
              replace H := Option.bind_eq_some_iff.mp H
              obtain ⟨t164, A100, H⟩ := H
              replace H : (agoraref04_Exp.l0 k2 (wrap64 (Int.tdiv x1_2 2)) t163 t164) = some r := H
              have A10 := Aside0.mk A100
              clear A100
              have H' := Aside0.mk H
              clear H
              go_wp2_with (first | ((with_reducible refine gate_callee (f := 16) rfl ?_); refine goesL_ (some 20) rfl rfl Try.func16 (by kernel_rfl) rfl #[.int .i64 x5_2, .int .i64 x6_2] rfl (by (try simp only [List.map_toArray, List.map_cons, List.map_nil]); first | done | rfl | (simp only [List.length_drop, List.length_take]; rfl)) ?_; (with_reducible refine (agoraref04_Mul.calls x5_2 x6_2 t163 _ A9.out).mono ?_); rintro e w' ⟨rfl, ⟨nd, rfl⟩⟩; refine ⟨_, rfl, ?_⟩) | ((with_reducible refine gate_callee (f := 16) rfl ?_); refine goesL_ (some 23) rfl rfl Try.func16 (by kernel_rfl) rfl #[.int .i64 x6_2, .int .i64 x6_2] rfl (by (try simp only [List.map_toArray, List.map_cons, List.map_nil]); first | done | rfl | (simp only [List.length_drop, List.length_take]; rfl)) ?_; (with_reducible refine (agoraref04_Mul.calls x6_2 x6_2 t164 _ A10.out).mono ?_); rintro e w' ⟨rfl, ⟨nd, rfl⟩⟩; refine ⟨_, rfl, ?_⟩))
              go_roundg k2
              case measure => have := HJ2.out; have := HK2.out; omega
              case rel => exact ⟨(wrap64 (Int.tdiv x1_2 2)), (t163), (t164), (by first | rfl | (simp; done) | (simp [*]; done)), (by first | rfl | (simp; done) | (simp [*]; done)), (by first | rfl | (simp; done) | (simp [*]; done)), H', ⟨by have := HJ2.out; have := HK2.out; omega⟩, by repeat (first | exact Drawn0.refl _ | apply Drawn0.step)⟩
            · rw [if_neg c8] at H
              have c8b0 : ((Int.tmod x1_2 2) == 1) = false := beq_eq_false_iff_ne.mpr c8
              have c8b1 : ((Int.tmod x1_2 2) != 1) = true := bne_iff_ne.mpr c8
              replace H := Option.bind_eq_some_iff.mp H
              obtain ⟨t165, A110, H⟩ := H
              replace H : (agoraref04_Exp.l0 k2 (wrap64 (Int.tdiv x1_2 2)) x5_2 t165) = some r := H
              have A11 := Aside0.mk A110
              clear A110
              have H' := Aside0.mk H
              clear H
              go_wp2_with (first | ((with_reducible refine gate_callee (f := 16) rfl ?_); refine goesL_ (some 23) rfl rfl Try.func16 (by kernel_rfl) rfl #[.int .i64 x6_2, .int .i64 x6_2] rfl (by (try simp only [List.map_toArray, List.map_cons, List.map_nil]); first | done | rfl | (simp only [List.length_drop, List.length_take]; rfl)) ?_; (with_reducible refine (agoraref04_Mul.calls x6_2 x6_2 t165 _ A11.out).mono ?_); rintro e w' ⟨rfl, ⟨nd, rfl⟩⟩; refine ⟨_, rfl, ?_⟩))
              go_roundg k2
              case measure => have := HJ2.out; have := HK2.out; omega
              case rel => exact ⟨(wrap64 (Int.tdiv x1_2 2)), (x5_2), (t165), (by first | rfl | (simp; done) | (simp [*]; done)), (by first | rfl | (simp; done) | (simp [*]; done)), (by first | rfl | (simp; done) | (simp [*]; done)), H', ⟨by have := HJ2.out; have := HK2.out; omega⟩, by repeat (first | exact Drawn0.refl _ | apply Drawn0.step)⟩
          · rw [if_neg c7] at H
            have c7b0 : decide (0 < x1_2) = false := decide_eq_false c7
            clear c7
            obtain rfl := Option.some.inj H
            go_wp2
            go_ret
            exact ⟨by first | rfl | (simp; done) | (simp [*]; done), by repeat (first | exact Drawn0.refl _ | apply Drawn0.step)⟩

/-! ### agoraref04_AddN: function 20 -/
def agoraref04_AddN.f (a0 : Int) (a1 : Int) : Option (Int) := (agoraref04_Mod.f a0 2305843009213693950).bind fun t166 => ((agoraref04_Mod.f a1 2305843009213693950).bind fun t167 => ((agoraref04_Mod.f (wrap64 (t166 + t167)) 2305843009213693950).bind fun t168 => (some t168)))
set_option maxHeartbeats 8000000 in
set_option maxRecDepth 100000 in
theorem agoraref04_AddN.calls (a0 : Int) (a1 : Int) (r : Int) (w : World) (h : agoraref04_AddN.f a0 a1 = some r) :
    Calls Try.prog 20 #[.int .i64 a0, .int .i64 a1] w fun e w' => e = .returned (.int .i64 r) ∧ Drawn0 w w' := by
  have H : ((agoraref04_Mod.f a0 2305843009213693950).bind fun t166 => ((agoraref04_Mod.f a1 2305843009213693950).bind fun t167 => ((agoraref04_Mod.f (wrap64 (t166 + t167)) 2305843009213693950).bind fun t168 => (some t168)))) = some r := h
  clear h
  replace H := Option.bind_eq_some_iff.mp H
  obtain ⟨t166, A30, H⟩ := H
  replace H : ((agoraref04_Mod.f a1 2305843009213693950).bind fun t167 => ((agoraref04_Mod.f (wrap64 (t166 + t167)) 2305843009213693950).bind fun t168 => (some t168))) = some r := H
  have A3 := Aside0.mk A30
  clear A30
  replace H := Option.bind_eq_some_iff.mp H
  obtain ⟨t167, A40, H⟩ := H
  replace H : ((agoraref04_Mod.f (wrap64 (t166 + t167)) 2305843009213693950).bind fun t168 => (some t168)) = some r := H
  have A4 := Aside0.mk A40
  clear A40
  replace H := Option.bind_eq_some_iff.mp H
  obtain ⟨t168, A50, H⟩ := H
  replace H : (some t168) = some r := H
  have A5 := Aside0.mk A50
  clear A50
  obtain rfl := Option.some.inj H
  go_enter Try.func20, Try.ntmps20
  go_wp2_with (first | ((with_reducible refine gate_callee (f := 27) rfl ?_); refine goesL_ (some 6) rfl rfl Try.func27 (by kernel_rfl) rfl #[.int .i64 a0, .int .i64 2305843009213693950] rfl (by (try simp only [List.map_toArray, List.map_cons, List.map_nil]); first | done | rfl | (simp only [List.length_drop, List.length_take]; rfl)) ?_; (with_reducible refine (agoraref04_Mod.calls a0 2305843009213693950 t166 _ A3.out).mono ?_); rintro e w' ⟨rfl, ⟨nd, rfl⟩⟩; refine ⟨_, rfl, ?_⟩) | ((with_reducible refine gate_callee (f := 27) rfl ?_); refine goesL_ (some 8) rfl rfl Try.func27 (by kernel_rfl) rfl #[.int .i64 a1, .int .i64 2305843009213693950] rfl (by (try simp only [List.map_toArray, List.map_cons, List.map_nil]); first | done | rfl | (simp only [List.length_drop, List.length_take]; rfl)) ?_; (with_reducible refine (agoraref04_Mod.calls a1 2305843009213693950 t167 _ A4.out).mono ?_); rintro e w' ⟨rfl, ⟨nd, rfl⟩⟩; refine ⟨_, rfl, ?_⟩) | ((with_reducible refine gate_callee (f := 27) rfl ?_); refine goesL_ (some 10) rfl rfl Try.func27 (by kernel_rfl) rfl #[.int .i64 (wrap64 (t166 + t167)), .int .i64 2305843009213693950] rfl (by (try simp only [List.map_toArray, List.map_cons, List.map_nil]); first | done | rfl | (simp only [List.length_drop, List.length_take]; rfl)) ?_; (with_reducible refine (agoraref04_Mod.calls (wrap64 (t166 + t167)) 2305843009213693950 t168 _ A5.out).mono ?_); rintro e w' ⟨rfl, ⟨nd, rfl⟩⟩; refine ⟨_, rfl, ?_⟩))
  go_ret
  exact ⟨by first | rfl | (simp; done) | (simp [*]; done), by repeat (first | exact Drawn0.refl _ | apply Drawn0.step)⟩

/-! ### agoraref04_SubN: function 22 -/
def agoraref04_SubN.f (a0 : Int) (a1 : Int) : Option (Int) := (agoraref04_Mod.f a0 2305843009213693950).bind fun t169 => ((agoraref04_Mod.f a1 2305843009213693950).bind fun t170 => ((agoraref04_Mod.f (wrap64 (t169 - t170)) 2305843009213693950).bind fun t171 => (some t171)))
set_option maxHeartbeats 8000000 in
set_option maxRecDepth 100000 in
theorem agoraref04_SubN.calls (a0 : Int) (a1 : Int) (r : Int) (w : World) (h : agoraref04_SubN.f a0 a1 = some r) :
    Calls Try.prog 22 #[.int .i64 a0, .int .i64 a1] w fun e w' => e = .returned (.int .i64 r) ∧ Drawn0 w w' := by
  have H : ((agoraref04_Mod.f a0 2305843009213693950).bind fun t169 => ((agoraref04_Mod.f a1 2305843009213693950).bind fun t170 => ((agoraref04_Mod.f (wrap64 (t169 - t170)) 2305843009213693950).bind fun t171 => (some t171)))) = some r := h
  clear h
  replace H := Option.bind_eq_some_iff.mp H
  obtain ⟨t169, A30, H⟩ := H
  replace H : ((agoraref04_Mod.f a1 2305843009213693950).bind fun t170 => ((agoraref04_Mod.f (wrap64 (t169 - t170)) 2305843009213693950).bind fun t171 => (some t171))) = some r := H
  have A3 := Aside0.mk A30
  clear A30
  replace H := Option.bind_eq_some_iff.mp H
  obtain ⟨t170, A40, H⟩ := H
  replace H : ((agoraref04_Mod.f (wrap64 (t169 - t170)) 2305843009213693950).bind fun t171 => (some t171)) = some r := H
  have A4 := Aside0.mk A40
  clear A40
  replace H := Option.bind_eq_some_iff.mp H
  obtain ⟨t171, A50, H⟩ := H
  replace H : (some t171) = some r := H
  have A5 := Aside0.mk A50
  clear A50
  obtain rfl := Option.some.inj H
  go_enter Try.func22, Try.ntmps22
  go_wp2_with (first | ((with_reducible refine gate_callee (f := 27) rfl ?_); refine goesL_ (some 6) rfl rfl Try.func27 (by kernel_rfl) rfl #[.int .i64 a0, .int .i64 2305843009213693950] rfl (by (try simp only [List.map_toArray, List.map_cons, List.map_nil]); first | done | rfl | (simp only [List.length_drop, List.length_take]; rfl)) ?_; (with_reducible refine (agoraref04_Mod.calls a0 2305843009213693950 t169 _ A3.out).mono ?_); rintro e w' ⟨rfl, ⟨nd, rfl⟩⟩; refine ⟨_, rfl, ?_⟩) | ((with_reducible refine gate_callee (f := 27) rfl ?_); refine goesL_ (some 8) rfl rfl Try.func27 (by kernel_rfl) rfl #[.int .i64 a1, .int .i64 2305843009213693950] rfl (by (try simp only [List.map_toArray, List.map_cons, List.map_nil]); first | done | rfl | (simp only [List.length_drop, List.length_take]; rfl)) ?_; (with_reducible refine (agoraref04_Mod.calls a1 2305843009213693950 t170 _ A4.out).mono ?_); rintro e w' ⟨rfl, ⟨nd, rfl⟩⟩; refine ⟨_, rfl, ?_⟩) | ((with_reducible refine gate_callee (f := 27) rfl ?_); refine goesL_ (some 10) rfl rfl Try.func27 (by kernel_rfl) rfl #[.int .i64 (wrap64 (t169 - t170)), .int .i64 2305843009213693950] rfl (by (try simp only [List.map_toArray, List.map_cons, List.map_nil]); first | done | rfl | (simp only [List.length_drop, List.length_take]; rfl)) ?_; (with_reducible refine (agoraref04_Mod.calls (wrap64 (t169 - t170)) 2305843009213693950 t171 _ A5.out).mono ?_); rintro e w' ⟨rfl, ⟨nd, rfl⟩⟩; refine ⟨_, rfl, ?_⟩))
  go_ret
  exact ⟨by first | rfl | (simp; done) | (simp [*]; done), by repeat (first | exact Drawn0.refl _ | apply Drawn0.step)⟩

/-! ### agoraref04_MulN: function 24 -/
def agoraref04_MulN.f (a0 : Int) (a1 : Int) : Option (Int) := (agoraref04_Mod.f a0 2305843009213693950).bind fun t172 => ((agoraref04_Mod.f a1 2305843009213693950).bind fun t173 => ((agoraref04_parts.f t172 t173).bind fun bt174 => (some (wrap64 (Int.tmod (IntKind.u64.wrap ((IntKind.u64.wrap ((IntKind.u64.wrap ((IntKind.u64.wrap (4 * bt174.1)) + (IntKind.u64.wrap (2 * (bt174.2.1 / 1073741824))))) + (IntKind.u64.wrap ((Go.bits .and .u64 bt174.2.1 1073741823) * 2147483648)))) + bt174.2.2)) 2305843009213693950)))))
set_option maxHeartbeats 8000000 in
set_option maxRecDepth 100000 in
theorem agoraref04_MulN.calls (a0 : Int) (a1 : Int) (r : Int) (w : World) (h : agoraref04_MulN.f a0 a1 = some r) :
    Calls Try.prog 24 #[.int .i64 a0, .int .i64 a1] w fun e w' => e = .returned (.int .i64 r) ∧ Drawn0 w w' := by
  have H : ((agoraref04_Mod.f a0 2305843009213693950).bind fun t172 => ((agoraref04_Mod.f a1 2305843009213693950).bind fun t173 => ((agoraref04_parts.f t172 t173).bind fun bt174 => (some (wrap64 (Int.tmod (IntKind.u64.wrap ((IntKind.u64.wrap ((IntKind.u64.wrap ((IntKind.u64.wrap (4 * bt174.1)) + (IntKind.u64.wrap (2 * (bt174.2.1 / 1073741824))))) + (IntKind.u64.wrap ((Go.bits .and .u64 bt174.2.1 1073741823) * 2147483648)))) + bt174.2.2)) 2305843009213693950)))))) = some r := h
  clear h
  replace H := Option.bind_eq_some_iff.mp H
  obtain ⟨t172, A30, H⟩ := H
  replace H : ((agoraref04_Mod.f a1 2305843009213693950).bind fun t173 => ((agoraref04_parts.f t172 t173).bind fun bt174 => (some (wrap64 (Int.tmod (IntKind.u64.wrap ((IntKind.u64.wrap ((IntKind.u64.wrap ((IntKind.u64.wrap (4 * bt174.1)) + (IntKind.u64.wrap (2 * (bt174.2.1 / 1073741824))))) + (IntKind.u64.wrap ((Go.bits .and .u64 bt174.2.1 1073741823) * 2147483648)))) + bt174.2.2)) 2305843009213693950))))) = some r := H
  have A3 := Aside0.mk A30
  clear A30
  replace H := Option.bind_eq_some_iff.mp H
  obtain ⟨t173, A40, H⟩ := H
  replace H : ((agoraref04_parts.f t172 t173).bind fun bt174 => (some (wrap64 (Int.tmod (IntKind.u64.wrap ((IntKind.u64.wrap ((IntKind.u64.wrap ((IntKind.u64.wrap (4 * bt174.1)) + (IntKind.u64.wrap (2 * (bt174.2.1 / 1073741824))))) + (IntKind.u64.wrap ((Go.bits .and .u64 bt174.2.1 1073741823) * 2147483648)))) + bt174.2.2)) 2305843009213693950)))) = some r := H
  have A4 := Aside0.mk A40
  clear A40
  replace H := Option.bind_eq_some_iff.mp H
  obtain ⟨⟨t174, t175, t176⟩, A50, H⟩ := H
  replace H : (some (wrap64 (Int.tmod (IntKind.u64.wrap ((IntKind.u64.wrap ((IntKind.u64.wrap ((IntKind.u64.wrap (4 * t174)) + (IntKind.u64.wrap (2 * (t175 / 1073741824))))) + (IntKind.u64.wrap ((Go.bits .and .u64 t175 1073741823) * 2147483648)))) + t176)) 2305843009213693950))) = some r := H
  have A5 := Aside0.mk A50
  clear A50
  obtain rfl := Option.some.inj H
  go_enter Try.func24, Try.ntmps24
  go_wp2_with (first | ((with_reducible refine gate_callee (f := 27) rfl ?_); refine goesL_ (some 11) rfl rfl Try.func27 (by kernel_rfl) rfl #[.int .i64 a0, .int .i64 2305843009213693950] rfl (by (try simp only [List.map_toArray, List.map_cons, List.map_nil]); first | done | rfl | (simp only [List.length_drop, List.length_take]; rfl)) ?_; (with_reducible refine (agoraref04_Mod.calls a0 2305843009213693950 t172 _ A3.out).mono ?_); rintro e w' ⟨rfl, ⟨nd, rfl⟩⟩; refine ⟨_, rfl, ?_⟩) | ((with_reducible refine gate_callee (f := 27) rfl ?_); refine goesL_ (some 13) rfl rfl Try.func27 (by kernel_rfl) rfl #[.int .i64 a1, .int .i64 2305843009213693950] rfl (by (try simp only [List.map_toArray, List.map_cons, List.map_nil]); first | done | rfl | (simp only [List.length_drop, List.length_take]; rfl)) ?_; (with_reducible refine (agoraref04_Mod.calls a1 2305843009213693950 t173 _ A4.out).mono ?_); rintro e w' ⟨rfl, ⟨nd, rfl⟩⟩; refine ⟨_, rfl, ?_⟩) | ((with_reducible refine gate_callee (f := 29) rfl ?_); refine goesL_ (some 14) rfl rfl Try.func29 (by kernel_rfl) rfl #[.int .i64 t172, .int .i64 t173] rfl (by (try simp only [List.map_toArray, List.map_cons, List.map_nil]); first | done | rfl | (simp only [List.length_drop, List.length_take]; rfl)) ?_; (with_reducible refine (agoraref04_parts.calls t172 t173 t174 t175 t176 _ A5.out).mono ?_); rintro e w' ⟨rfl, ⟨nd, rfl⟩⟩; refine ⟨_, rfl, ?_⟩))
  go_ret
  exact ⟨by first | rfl | (simp; done) | (simp [*]; done), by repeat (first | exact Drawn0.refl _ | apply Drawn0.step)⟩

/-! ### agoralaw04_GroupTells: function 3 -/
def agoralaw04_GroupTells.j0 : Nat → Int → Int → Bool → Bool → Option (Bool)
  | 0, _, _, _, _ => none
  | k + 1, x0, x1, x5, x30 => if x30 = true then (none) else ((group_Add.f x0 x1).bind fun t182 => ((agoraref04_Add.f x0 x1).bind fun t183 => (if t182 = t183 then ((group_Sub.f x0 x1).bind fun t184 => ((agoraref04_Sub.f x0 x1).bind fun t185 => (if t184 = t185 then ((group_Mul.f k x0 x1).bind fun t186 => ((agoraref04_Mul.f x0 x1).bind fun t187 => (if t186 = t187 then ((group_Exp.f k x0 x1).bind fun t188 => ((agoraref04_Exp.f k x0 x1).bind fun t189 => ((group_AddN.f x0 x1).bind fun t190 => ((agoraref04_AddN.f x0 x1).bind fun t191 => (if t190 = t191 then ((group_SubN.f x0 x1).bind fun t192 => ((agoraref04_SubN.f x0 x1).bind fun t193 => (if t192 = t193 then ((group_MulN.f k x0 x1).bind fun t194 => ((agoraref04_MulN.f x0 x1).bind fun t195 => (if x5 = true then (if t188 = t189 then (some (t194 == t195)) else (none)) else (none)))) else (none)))) else (none)))))) else (none)))) else (none)))) else (none))))
def agoralaw04_GroupTells.f (k : Nat) (a0 : Int) (a1 : Int) : Option (Bool) := (agoralaw04_small.f k).bind fun t177 => ((group_Inv.f k a0).bind fun bt178 => ((agoraref04_Inv.f k a0).bind fun bt180 => (if bt178.1 = bt180.1 then (agoralaw04_GroupTells.j0 k a0 a1 t177 (bt178.2 != bt180.2)) else (agoralaw04_GroupTells.j0 k a0 a1 t177 true))))
theorem agoralaw04_GroupTells.mono_l : ∀ k, (∀ y0 y1 y2 y3, LeO (agoralaw04_GroupTells.j0 k y0 y1 y2 y3) (agoralaw04_GroupTells.j0 (k + 1) y0 y1 y2 y3))
  | 0 => fun _ _ _ _ r h => by simp [agoralaw04_GroupTells.j0] at h
  | k + 1 => by
    have ih0 := agoralaw04_GroupTells.mono_l k
    · intro y0 y1 y2 y3
      unfold agoralaw04_GroupTells.j0
      repeat' first
      | (with_reducible exact ih0 _ _ _ _)
      | (with_reducible exact agoralaw04_small.mono _)
      | (with_reducible exact agoraref04_Exp.mono _ _ _)
      | (with_reducible exact agoraref04_Inv.mono _ _)
      | (with_reducible exact group_Exp.mono _ _ _)
      | (with_reducible exact group_Inv.mono _ _)
      | (with_reducible exact group_Mul.mono _ _ _)
      | (with_reducible exact group_MulN.mono _ _ _)
      | (with_reducible exact LeO.refl _)
      | (with_reducible exact LeO.none _)
      | (with_reducible refine LeO.ite ?_ ?_)
      | (with_reducible refine LeO.bind ?_ (fun _ => ?_))
      | exact ih0 _ _ _ _
      | exact agoralaw04_small.mono _
      | exact agoraref04_Exp.mono _ _ _
      | exact agoraref04_Inv.mono _ _
      | exact group_Exp.mono _ _ _
      | exact group_Inv.mono _ _
      | exact group_Mul.mono _ _ _
      | exact group_MulN.mono _ _ _
      | exact LeO.none _
      | refine LeO.ite ?_ ?_
      | refine LeO.bind ?_ (fun _ => ?_)
theorem agoralaw04_GroupTells.mono : ∀ a0 a1 k, LeO (agoralaw04_GroupTells.f k a0 a1) (agoralaw04_GroupTells.f (k + 1) a0 a1) := by
  intro a0 a1 k
  have ih0 := agoralaw04_GroupTells.mono_l k
  unfold agoralaw04_GroupTells.f
  repeat' first
      | (with_reducible exact ih0 _ _ _ _)
      | (with_reducible exact agoralaw04_small.mono _)
      | (with_reducible exact agoraref04_Exp.mono _ _ _)
      | (with_reducible exact agoraref04_Inv.mono _ _)
      | (with_reducible exact group_Exp.mono _ _ _)
      | (with_reducible exact group_Inv.mono _ _)
      | (with_reducible exact group_Mul.mono _ _ _)
      | (with_reducible exact group_MulN.mono _ _ _)
      | (with_reducible exact LeO.refl _)
      | (with_reducible exact LeO.none _)
      | (with_reducible refine LeO.ite ?_ ?_)
      | (with_reducible refine LeO.bind ?_ (fun _ => ?_))
      | exact ih0 _ _ _ _
      | exact agoralaw04_small.mono _
      | exact agoraref04_Exp.mono _ _ _
      | exact agoraref04_Inv.mono _ _
      | exact group_Exp.mono _ _ _
      | exact group_Inv.mono _ _
      | exact group_Mul.mono _ _ _
      | exact group_MulN.mono _ _ _
      | exact LeO.none _
      | refine LeO.ite ?_ ?_
      | refine LeO.bind ?_ (fun _ => ?_)
set_option maxHeartbeats 8000000 in
set_option maxRecDepth 100000 in
theorem agoralaw04_GroupTells.calls (k : Nat) (a0 : Int) (a1 : Int) (r : Bool) (w : World) (h : agoralaw04_GroupTells.f k a0 a1 = some r) :
    Calls Try.prog 3 #[.int .i64 a0, .int .i64 a1] w fun e w' => e = .returned (.bool r) ∧ Drawn0 w w' := by
  have H : ((agoralaw04_small.f k).bind fun t177 => ((group_Inv.f k a0).bind fun bt178 => ((agoraref04_Inv.f k a0).bind fun bt180 => (if bt178.1 = bt180.1 then (agoralaw04_GroupTells.j0 k a0 a1 t177 (bt178.2 != bt180.2)) else (agoralaw04_GroupTells.j0 k a0 a1 t177 true))))) = some r := h
  clear h
  replace H := Option.bind_eq_some_iff.mp H
  obtain ⟨t177, A30, H⟩ := H
  replace H : ((group_Inv.f k a0).bind fun bt178 => ((agoraref04_Inv.f k a0).bind fun bt180 => (if bt178.1 = bt180.1 then (agoralaw04_GroupTells.j0 k a0 a1 t177 (bt178.2 != bt180.2)) else (agoralaw04_GroupTells.j0 k a0 a1 t177 true)))) = some r := H
  have A3 := Aside0.mk A30
  clear A30
  replace H := Option.bind_eq_some_iff.mp H
  obtain ⟨⟨t178, t179⟩, A40, H⟩ := H
  replace H : ((agoraref04_Inv.f k a0).bind fun bt180 => (if t178 = bt180.1 then (agoralaw04_GroupTells.j0 k a0 a1 t177 (t179 != bt180.2)) else (agoralaw04_GroupTells.j0 k a0 a1 t177 true))) = some r := H
  have A4 := Aside0.mk A40
  clear A40
  replace H := Option.bind_eq_some_iff.mp H
  obtain ⟨⟨t180, t181⟩, A50, H⟩ := H
  replace H : (if t178 = t180 then (agoralaw04_GroupTells.j0 k a0 a1 t177 (t179 != t181)) else (agoralaw04_GroupTells.j0 k a0 a1 t177 true)) = some r := H
  have A5 := Aside0.mk A50
  clear A50
  have HC6 := Aside0.mk H
  clear H
  go_enter Try.func3, Try.ntmps3
  go_upto_region 4 with (first | ((with_reducible refine gate_callee (f := 8) rfl ?_); refine goesL_ (some 12) rfl rfl Try.func8 (by kernel_rfl) rfl #[] rfl (by (try simp only [List.map_toArray, List.map_cons, List.map_nil]); first | done | rfl | (simp only [List.length_drop, List.length_take]; rfl)) ?_; (with_reducible refine (agoralaw04_small.calls k  t177 _ A3.out).mono ?_); rintro e w' ⟨rfl, ⟨nd, rfl⟩⟩; refine ⟨_, rfl, ?_⟩) | ((with_reducible refine gate_callee (f := 9) rfl ?_); refine goesL_ (some 15) rfl rfl Try.func9 (by kernel_rfl) rfl #[.int .i64 a0] rfl (by (try simp only [List.map_toArray, List.map_cons, List.map_nil]); first | done | rfl | (simp only [List.length_drop, List.length_take]; rfl)) ?_; (with_reducible refine (group_Inv.calls k a0 t178 t179 _ A4.out).mono ?_); rintro e w' ⟨rfl, ⟨nd, rfl⟩⟩; refine ⟨_, rfl, ?_⟩) | ((with_reducible refine gate_callee (f := 10) rfl ?_); refine goesL_ (some 20) rfl rfl Try.func10 (by kernel_rfl) rfl #[.int .i64 a0] rfl (by (try simp only [List.map_toArray, List.map_cons, List.map_nil]); first | done | rfl | (simp only [List.length_drop, List.length_take]; rfl)) ?_; (with_reducible refine (agoraref04_Inv.calls k a0 t180 t181 _ A5.out).mono ?_); rintro e w' ⟨rfl, ⟨nd, rfl⟩⟩; refine ⟨_, rfl, ?_⟩))
  (try simp only [Act.put, List.setIfInBounds_toArray, List.set_cons_zero, List.set_cons_succ])
  go_cut [30] (fun v30 wc => ∃ (kq : Nat) (x30_5 : Bool), v30 = .bool x30_5 ∧ Aside0 (agoralaw04_GroupTells.j0 kq a0 a1 t177 x30_5 = some r) ∧ Aside0 (kq ≤ k) ∧ Drawn0 w wc)
  case first =>
    have H := HC6.out
    clear HC6
    by_cases c7 : t178 = t180
    · rw [if_pos c7] at H
      have c7b0 : (t178 == t180) = true := beq_iff_eq.mpr c7
      have c7b1 : (t178 != t180) = false := bne_eq_false_iff_eq.mpr c7
      clear c7
      (first | rw [c7b0] | (simp only [i64_w, i32_w]; rw [c7b0]) | skip)
      have H' := Aside0.mk H
      clear H
      go_wp2
      go_meet
      case rel => exact ⟨_, ((t179 != t181)), (by first | rfl | (simp; done) | (simp [*]; done)), H', ⟨by first | omega | exact Nat.le_refl _⟩, by repeat (first | exact Drawn0.refl _ | apply Drawn0.step)⟩
    · rw [if_neg c7] at H
      have c7b0 : (t178 == t180) = false := beq_eq_false_iff_ne.mpr c7
      have c7b1 : (t178 != t180) = true := bne_iff_ne.mpr c7
      (first | rw [c7b0] | (simp only [i64_w, i32_w]; rw [c7b0]) | skip)
      have H' := Aside0.mk H
      clear H
      go_wp2
      go_meet
      case rel => exact ⟨_, (true), (by first | rfl | (simp; done) | (simp [*]; done)), H', ⟨by first | omega | exact Nat.le_refl _⟩, by repeat (first | exact Drawn0.refl _ | apply Drawn0.step)⟩
  case rest =>
    clear HC6
    try clear c1
    try clear p2
    try clear c3
    try clear c7
    try clear c7b0
    try clear c7b1
    obtain ⟨kq, x30_5, rfl, HA, HJ5, ⟨mc5, rfl⟩⟩ := hcut
    cases kq with
    | zero => exact absurd HA.out (by simp [agoralaw04_GroupTells.j0])
    | succ kj5 =>
      have H := HA.out
      clear HA
      simp only [agoralaw04_GroupTells.j0] at H
      by_cases c8 : x30_5 = true
      · subst c8
        have H1 : (none) = some r := by rw [if_pos rfl] at H; exact H
        clear H
        have H := H1
        clear H1
        exact absurd H (by simp)
      · replace c8 := Bool.eq_false_iff.mpr c8
        subst c8
        have H1 : ((group_Add.f a0 a1).bind fun t182 => ((agoraref04_Add.f a0 a1).bind fun t183 => (if t182 = t183 then ((group_Sub.f a0 a1).bind fun t184 => ((agoraref04_Sub.f a0 a1).bind fun t185 => (if t184 = t185 then ((group_Mul.f kj5 a0 a1).bind fun t186 => ((agoraref04_Mul.f a0 a1).bind fun t187 => (if t186 = t187 then ((group_Exp.f kj5 a0 a1).bind fun t188 => ((agoraref04_Exp.f kj5 a0 a1).bind fun t189 => ((group_AddN.f a0 a1).bind fun t190 => ((agoraref04_AddN.f a0 a1).bind fun t191 => (if t190 = t191 then ((group_SubN.f a0 a1).bind fun t192 => ((agoraref04_SubN.f a0 a1).bind fun t193 => (if t192 = t193 then ((group_MulN.f kj5 a0 a1).bind fun t194 => ((agoraref04_MulN.f a0 a1).bind fun t195 => (if t177 = true then (if t188 = t189 then (some (t194 == t195)) else (none)) else (none)))) else (none)))) else (none)))))) else (none)))) else (none)))) else (none)))) = some r := by rw [if_neg (show ¬ (false = true) by decide)] at H; exact H
        clear H
        have H := H1
        clear H1
        replace H := Option.bind_eq_some_iff.mp H
        obtain ⟨t182, A90, H⟩ := H
        replace H : ((agoraref04_Add.f a0 a1).bind fun t183 => (if t182 = t183 then ((group_Sub.f a0 a1).bind fun t184 => ((agoraref04_Sub.f a0 a1).bind fun t185 => (if t184 = t185 then ((group_Mul.f kj5 a0 a1).bind fun t186 => ((agoraref04_Mul.f a0 a1).bind fun t187 => (if t186 = t187 then ((group_Exp.f kj5 a0 a1).bind fun t188 => ((agoraref04_Exp.f kj5 a0 a1).bind fun t189 => ((group_AddN.f a0 a1).bind fun t190 => ((agoraref04_AddN.f a0 a1).bind fun t191 => (if t190 = t191 then ((group_SubN.f a0 a1).bind fun t192 => ((agoraref04_SubN.f a0 a1).bind fun t193 => (if t192 = t193 then ((group_MulN.f kj5 a0 a1).bind fun t194 => ((agoraref04_MulN.f a0 a1).bind fun t195 => (if t177 = true then (if t188 = t189 then (some (t194 == t195)) else (none)) else (none)))) else (none)))) else (none)))))) else (none)))) else (none)))) else (none))) = some r := H
        have A9 := Aside0.mk A90
        clear A90
        replace H := Option.bind_eq_some_iff.mp H
        obtain ⟨t183, A100, H⟩ := H
        replace H : (if t182 = t183 then ((group_Sub.f a0 a1).bind fun t184 => ((agoraref04_Sub.f a0 a1).bind fun t185 => (if t184 = t185 then ((group_Mul.f kj5 a0 a1).bind fun t186 => ((agoraref04_Mul.f a0 a1).bind fun t187 => (if t186 = t187 then ((group_Exp.f kj5 a0 a1).bind fun t188 => ((agoraref04_Exp.f kj5 a0 a1).bind fun t189 => ((group_AddN.f a0 a1).bind fun t190 => ((agoraref04_AddN.f a0 a1).bind fun t191 => (if t190 = t191 then ((group_SubN.f a0 a1).bind fun t192 => ((agoraref04_SubN.f a0 a1).bind fun t193 => (if t192 = t193 then ((group_MulN.f kj5 a0 a1).bind fun t194 => ((agoraref04_MulN.f a0 a1).bind fun t195 => (if t177 = true then (if t188 = t189 then (some (t194 == t195)) else (none)) else (none)))) else (none)))) else (none)))))) else (none)))) else (none)))) else (none)) = some r := H
        have A10 := Aside0.mk A100
        clear A100
        by_cases c11 : t182 = t183
        · rw [if_pos c11] at H
          have c11b0 : (t182 == t183) = true := beq_iff_eq.mpr c11
          have c11b1 : (t182 != t183) = false := bne_eq_false_iff_eq.mpr c11
          clear c11
          replace H := Option.bind_eq_some_iff.mp H
          obtain ⟨t184, A120, H⟩ := H
          replace H : ((agoraref04_Sub.f a0 a1).bind fun t185 => (if t184 = t185 then ((group_Mul.f kj5 a0 a1).bind fun t186 => ((agoraref04_Mul.f a0 a1).bind fun t187 => (if t186 = t187 then ((group_Exp.f kj5 a0 a1).bind fun t188 => ((agoraref04_Exp.f kj5 a0 a1).bind fun t189 => ((group_AddN.f a0 a1).bind fun t190 => ((agoraref04_AddN.f a0 a1).bind fun t191 => (if t190 = t191 then ((group_SubN.f a0 a1).bind fun t192 => ((agoraref04_SubN.f a0 a1).bind fun t193 => (if t192 = t193 then ((group_MulN.f kj5 a0 a1).bind fun t194 => ((agoraref04_MulN.f a0 a1).bind fun t195 => (if t177 = true then (if t188 = t189 then (some (t194 == t195)) else (none)) else (none)))) else (none)))) else (none)))))) else (none)))) else (none))) = some r := H
          have A12 := Aside0.mk A120
          clear A120
          replace H := Option.bind_eq_some_iff.mp H
          obtain ⟨t185, A130, H⟩ := H
          replace H : (if t184 = t185 then ((group_Mul.f kj5 a0 a1).bind fun t186 => ((agoraref04_Mul.f a0 a1).bind fun t187 => (if t186 = t187 then ((group_Exp.f kj5 a0 a1).bind fun t188 => ((agoraref04_Exp.f kj5 a0 a1).bind fun t189 => ((group_AddN.f a0 a1).bind fun t190 => ((agoraref04_AddN.f a0 a1).bind fun t191 => (if t190 = t191 then ((group_SubN.f a0 a1).bind fun t192 => ((agoraref04_SubN.f a0 a1).bind fun t193 => (if t192 = t193 then ((group_MulN.f kj5 a0 a1).bind fun t194 => ((agoraref04_MulN.f a0 a1).bind fun t195 => (if t177 = true then (if t188 = t189 then (some (t194 == t195)) else (none)) else (none)))) else (none)))) else (none)))))) else (none)))) else (none)) = some r := H
          have A13 := Aside0.mk A130
          clear A130
          by_cases c14 : t184 = t185
          · rw [if_pos c14] at H
            have c14b0 : (t184 == t185) = true := beq_iff_eq.mpr c14
            have c14b1 : (t184 != t185) = false := bne_eq_false_iff_eq.mpr c14
            clear c14
            replace H := Option.bind_eq_some_iff.mp H
            obtain ⟨t186, A150, H⟩ := H
            replace H : ((agoraref04_Mul.f a0 a1).bind fun t187 => (if t186 = t187 then ((group_Exp.f kj5 a0 a1).bind fun t188 => ((agoraref04_Exp.f kj5 a0 a1).bind fun t189 => ((group_AddN.f a0 a1).bind fun t190 => ((agoraref04_AddN.f a0 a1).bind fun t191 => (if t190 = t191 then ((group_SubN.f a0 a1).bind fun t192 => ((agoraref04_SubN.f a0 a1).bind fun t193 => (if t192 = t193 then ((group_MulN.f kj5 a0 a1).bind fun t194 => ((agoraref04_MulN.f a0 a1).bind fun t195 => (if t177 = true then (if t188 = t189 then (some (t194 == t195)) else (none)) else (none)))) else (none)))) else (none)))))) else (none))) = some r := H
            have A15 := Aside0.mk A150
            clear A150
            replace H := Option.bind_eq_some_iff.mp H
            obtain ⟨t187, A160, H⟩ := H
            replace H : (if t186 = t187 then ((group_Exp.f kj5 a0 a1).bind fun t188 => ((agoraref04_Exp.f kj5 a0 a1).bind fun t189 => ((group_AddN.f a0 a1).bind fun t190 => ((agoraref04_AddN.f a0 a1).bind fun t191 => (if t190 = t191 then ((group_SubN.f a0 a1).bind fun t192 => ((agoraref04_SubN.f a0 a1).bind fun t193 => (if t192 = t193 then ((group_MulN.f kj5 a0 a1).bind fun t194 => ((agoraref04_MulN.f a0 a1).bind fun t195 => (if t177 = true then (if t188 = t189 then (some (t194 == t195)) else (none)) else (none)))) else (none)))) else (none)))))) else (none)) = some r := H
            have A16 := Aside0.mk A160
            clear A160
            by_cases c17 : t186 = t187
            · rw [if_pos c17] at H
              have c17b0 : (t186 == t187) = true := beq_iff_eq.mpr c17
              have c17b1 : (t186 != t187) = false := bne_eq_false_iff_eq.mpr c17
              clear c17
              replace H := Option.bind_eq_some_iff.mp H
              obtain ⟨t188, A180, H⟩ := H
              replace H : ((agoraref04_Exp.f kj5 a0 a1).bind fun t189 => ((group_AddN.f a0 a1).bind fun t190 => ((agoraref04_AddN.f a0 a1).bind fun t191 => (if t190 = t191 then ((group_SubN.f a0 a1).bind fun t192 => ((agoraref04_SubN.f a0 a1).bind fun t193 => (if t192 = t193 then ((group_MulN.f kj5 a0 a1).bind fun t194 => ((agoraref04_MulN.f a0 a1).bind fun t195 => (if t177 = true then (if t188 = t189 then (some (t194 == t195)) else (none)) else (none)))) else (none)))) else (none))))) = some r := H
              have A18 := Aside0.mk A180
              clear A180
              replace H := Option.bind_eq_some_iff.mp H
              obtain ⟨t189, A190, H⟩ := H
              replace H : ((group_AddN.f a0 a1).bind fun t190 => ((agoraref04_AddN.f a0 a1).bind fun t191 => (if t190 = t191 then ((group_SubN.f a0 a1).bind fun t192 => ((agoraref04_SubN.f a0 a1).bind fun t193 => (if t192 = t193 then ((group_MulN.f kj5 a0 a1).bind fun t194 => ((agoraref04_MulN.f a0 a1).bind fun t195 => (if t177 = true then (if t188 = t189 then (some (t194 == t195)) else (none)) else (none)))) else (none)))) else (none)))) = some r := H
              have A19 := Aside0.mk A190
              clear A190
              replace H := Option.bind_eq_some_iff.mp H
              obtain ⟨t190, A200, H⟩ := H
              replace H : ((agoraref04_AddN.f a0 a1).bind fun t191 => (if t190 = t191 then ((group_SubN.f a0 a1).bind fun t192 => ((agoraref04_SubN.f a0 a1).bind fun t193 => (if t192 = t193 then ((group_MulN.f kj5 a0 a1).bind fun t194 => ((agoraref04_MulN.f a0 a1).bind fun t195 => (if t177 = true then (if t188 = t189 then (some (t194 == t195)) else (none)) else (none)))) else (none)))) else (none))) = some r := H
              have A20 := Aside0.mk A200
              clear A200
              replace H := Option.bind_eq_some_iff.mp H
              obtain ⟨t191, A210, H⟩ := H
              replace H : (if t190 = t191 then ((group_SubN.f a0 a1).bind fun t192 => ((agoraref04_SubN.f a0 a1).bind fun t193 => (if t192 = t193 then ((group_MulN.f kj5 a0 a1).bind fun t194 => ((agoraref04_MulN.f a0 a1).bind fun t195 => (if t177 = true then (if t188 = t189 then (some (t194 == t195)) else (none)) else (none)))) else (none)))) else (none)) = some r := H
              have A21 := Aside0.mk A210
              clear A210
              by_cases c22 : t190 = t191
              · rw [if_pos c22] at H
                have c22b0 : (t190 == t191) = true := beq_iff_eq.mpr c22
                have c22b1 : (t190 != t191) = false := bne_eq_false_iff_eq.mpr c22
                clear c22
                replace H := Option.bind_eq_some_iff.mp H
                obtain ⟨t192, A230, H⟩ := H
                replace H : ((agoraref04_SubN.f a0 a1).bind fun t193 => (if t192 = t193 then ((group_MulN.f kj5 a0 a1).bind fun t194 => ((agoraref04_MulN.f a0 a1).bind fun t195 => (if t177 = true then (if t188 = t189 then (some (t194 == t195)) else (none)) else (none)))) else (none))) = some r := H
                have A23 := Aside0.mk A230
                clear A230
                replace H := Option.bind_eq_some_iff.mp H
                obtain ⟨t193, A240, H⟩ := H
                replace H : (if t192 = t193 then ((group_MulN.f kj5 a0 a1).bind fun t194 => ((agoraref04_MulN.f a0 a1).bind fun t195 => (if t177 = true then (if t188 = t189 then (some (t194 == t195)) else (none)) else (none)))) else (none)) = some r := H
                have A24 := Aside0.mk A240
                clear A240
                by_cases c25 : t192 = t193
                · rw [if_pos c25] at H
                  have c25b0 : (t192 == t193) = true := beq_iff_eq.mpr c25
                  have c25b1 : (t192 != t193) = false := bne_eq_false_iff_eq.mpr c25
                  clear c25
                  replace H := Option.bind_eq_some_iff.mp H
                  obtain ⟨t194, A260, H⟩ := H
                  replace H : ((agoraref04_MulN.f a0 a1).bind fun t195 => (if t177 = true then (if t188 = t189 then (some (t194 == t195)) else (none)) else (none))) = some r := H
                  have A26 := Aside0.mk A260
                  clear A260
                  replace H := Option.bind_eq_some_iff.mp H
                  obtain ⟨t195, A270, H⟩ := H
                  replace H : (if t177 = true then (if t188 = t189 then (some (t194 == t195)) else (none)) else (none)) = some r := H
                  have A27 := Aside0.mk A270
                  clear A270
                  by_cases c28 : t177 = true
                  · subst c28
                    have H1 : (if t188 = t189 then (some (t194 == t195)) else (none)) = some r := by rw [if_pos rfl] at H; exact H
                    clear H
                    have H := H1
                    clear H1
                    by_cases c29 : t188 = t189
                    · rw [if_pos c29] at H
                      have c29b0 : (t188 == t189) = true := beq_iff_eq.mpr c29
                      have c29b1 : (t188 != t189) = false := bne_eq_false_iff_eq.mpr c29
                      clear c29
                      obtain rfl := Option.some.inj H
                      go_wp2_with (first | ((with_reducible refine gate_callee (f := 11) rfl ?_); refine goesL_ (some 33) rfl rfl Try.func11 (by kernel_rfl) rfl #[.int .i64 a0, .int .i64 a1] rfl (by (try simp only [List.map_toArray, List.map_cons, List.map_nil]); first | done | rfl | (simp only [List.length_drop, List.length_take]; rfl)) ?_; (with_reducible refine (group_Add.calls a0 a1 t182 _ A9.out).mono ?_); rintro e w' ⟨rfl, ⟨nd, rfl⟩⟩; refine ⟨_, rfl, ?_⟩) | ((with_reducible refine gate_callee (f := 12) rfl ?_); refine goesL_ (some 36) rfl rfl Try.func12 (by kernel_rfl) rfl #[.int .i64 a0, .int .i64 a1] rfl (by (try simp only [List.map_toArray, List.map_cons, List.map_nil]); first | done | rfl | (simp only [List.length_drop, List.length_take]; rfl)) ?_; (with_reducible refine (agoraref04_Add.calls a0 a1 t183 _ A10.out).mono ?_); rintro e w' ⟨rfl, ⟨nd, rfl⟩⟩; refine ⟨_, rfl, ?_⟩) | (go_at_call 13; (with_reducible refine (group_Sub.calls a0 a1 t184 _ A12.out).mono ?_); rintro e w' ⟨rfl, ⟨nd, rfl⟩⟩) | (go_at_call 14; (with_reducible refine (agoraref04_Sub.calls a0 a1 t185 _ A13.out).mono ?_); rintro e w' ⟨rfl, ⟨nd, rfl⟩⟩) | (go_at_call 15; (with_reducible refine (group_Mul.calls kj5 a0 a1 t186 _ A15.out).mono ?_); rintro e w' ⟨rfl, ⟨nd, rfl⟩⟩) | (go_at_call 16; (with_reducible refine (agoraref04_Mul.calls a0 a1 t187 _ A16.out).mono ?_); rintro e w' ⟨rfl, ⟨nd, rfl⟩⟩) | (go_at_call 17; (with_reducible refine (group_Exp.calls kj5 a0 a1 t188 _ A18.out).mono ?_); rintro e w' ⟨rfl, ⟨nd, rfl⟩⟩) | (go_at_call 18; (with_reducible refine (agoraref04_Exp.calls kj5 a0 a1 t189 _ A19.out).mono ?_); rintro e w' ⟨rfl, ⟨nd, rfl⟩⟩) | ((with_reducible refine gate_callee (f := 19) rfl ?_); refine goesL_ (some 67) rfl rfl Try.func19 (by kernel_rfl) rfl #[.int .i64 a0, .int .i64 a1] rfl (by (try simp only [List.map_toArray, List.map_cons, List.map_nil]); first | done | rfl | (simp only [List.length_drop, List.length_take]; rfl)) ?_; (with_reducible refine (group_AddN.calls a0 a1 t190 _ A20.out).mono ?_); rintro e w' ⟨rfl, ⟨nd, rfl⟩⟩; refine ⟨_, rfl, ?_⟩) | ((with_reducible refine gate_callee (f := 20) rfl ?_); refine goesL_ (some 70) rfl rfl Try.func20 (by kernel_rfl) rfl #[.int .i64 a0, .int .i64 a1] rfl (by (try simp only [List.map_toArray, List.map_cons, List.map_nil]); first | done | rfl | (simp only [List.length_drop, List.length_take]; rfl)) ?_; (with_reducible refine (agoraref04_AddN.calls a0 a1 t191 _ A21.out).mono ?_); rintro e w' ⟨rfl, ⟨nd, rfl⟩⟩; refine ⟨_, rfl, ?_⟩) | (go_at_call 21; (with_reducible refine (group_SubN.calls a0 a1 t192 _ A23.out).mono ?_); rintro e w' ⟨rfl, ⟨nd, rfl⟩⟩) | (go_at_call 22; (with_reducible refine (agoraref04_SubN.calls a0 a1 t193 _ A24.out).mono ?_); rintro e w' ⟨rfl, ⟨nd, rfl⟩⟩) | (go_at_call 23; (with_reducible refine (group_MulN.calls kj5 a0 a1 t194 _ A26.out).mono ?_); rintro e w' ⟨rfl, ⟨nd, rfl⟩⟩) | (go_at_call 24; (with_reducible refine (agoraref04_MulN.calls a0 a1 t195 _ A27.out).mono ?_); rintro e w' ⟨rfl, ⟨nd, rfl⟩⟩))
                      go_ret
                      exact ⟨by first | rfl | (simp; done) | (simp [*]; done), by repeat (first | exact Drawn0.refl _ | apply Drawn0.step)⟩
                    · rw [if_neg c29] at H
                      exact absurd H (by simp)
                  · replace c28 := Bool.eq_false_iff.mpr c28
                    subst c28
                    have H1 : (none) = some r := by rw [if_neg (show ¬ (false = true) by decide)] at H; exact H
                    clear H
                    have H := H1
                    clear H1
                    exact absurd H (by simp)
                · rw [if_neg c25] at H
                  exact absurd H (by simp)
              · rw [if_neg c22] at H
                exact absurd H (by simp)
            · rw [if_neg c17] at H
              exact absurd H (by simp)
          · rw [if_neg c14] at H
            exact absurd H (by simp)
        · rw [if_neg c11] at H
          exact absurd H (by simp)

/-- THE ONE PURE STATEMENT of agoralaw04_GroupTells: yours. -/
def agoralaw04_GroupTells.Pure : Prop := ∀ (a0 : Int) (a1 : Int), (Lit.int .i64 a0).wf = true → (Lit.int .i64 a1).wf = true → ∃ k, agoralaw04_GroupTells.f k a0 a1 = some true
theorem agoralaw04_GroupTells.walk (P : agoralaw04_GroupTells.Pure) (a0 : Int) (a1 : Int) (w : World) (w0 : (Lit.int .i64 a0).wf = true) (w1 : (Lit.int .i64 a1).wf = true) :
    Calls Try.prog 3 #[.int .i64 a0, .int .i64 a1] w fun e w' => e = .returned (.bool true) ∧ Below w.heap.size w w' := by
  obtain ⟨k, h⟩ := P a0 a1 w0 w1
  refine (agoralaw04_GroupTells.calls k a0 a1 true w h).mono ?_
  rintro e w' ⟨rfl, hd⟩
  exact ⟨rfl, hd.below⟩

/-! ### agoralaw04_in: function 25 -/
def agoralaw04_in.f (a0 : Int) (a1 : Int) : Option (Bool) := if a0 ≥ 0 then (some (decide (a0 < a1))) else (some false)
set_option maxHeartbeats 8000000 in
set_option maxRecDepth 100000 in
theorem agoralaw04_in.calls (a0 : Int) (a1 : Int) (r : Bool) (w : World) (h : agoralaw04_in.f a0 a1 = some r) :
    Calls Try.prog 25 #[.int .i64 a0, .int .i64 a1] w fun e w' => e = .returned (.bool r) ∧ Drawn0 w w' := by
  have H : (if a0 ≥ 0 then (some (decide (a0 < a1))) else (some false)) = some r := h
  clear h
  by_cases c3 : a0 ≥ 0
  · rw [if_pos c3] at H
    have c3b0 : decide (0 ≤ a0) = true := decide_eq_true c3
    clear c3
    obtain rfl := Option.some.inj H
    go_enter Try.func25, Try.ntmps25
    go_wp2
    go_ret
    exact ⟨by first | rfl | (simp; done) | (simp [*]; done), by repeat (first | exact Drawn0.refl _ | apply Drawn0.step)⟩
  · rw [if_neg c3] at H
    have c3b0 : decide (0 ≤ a0) = false := decide_eq_false c3
    clear c3
    obtain rfl := Option.some.inj H
    go_enter Try.func25, Try.ntmps25
    go_wp2
    go_ret
    exact ⟨by first | rfl | (simp; done) | (simp [*]; done), by repeat (first | exact Drawn0.refl _ | apply Drawn0.step)⟩

end Go.Proofs.Ytffmdbbndfmgdaa.P
