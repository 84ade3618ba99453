/- Texts of this claim, merged: what the functions that the law reaches compute, and what that says. -/
import Derived.Test.YtkhkppehdgkboaaKA4
import Derived.Test.YtkhkppehdgkboaaKA14
import Derived.Test.YtkhkppehdgkboaaKA15
import Derived.Test.YtkhkppehdgkboaaKA18
import Derived.Test.YtkhkppehdgkboaaKA20
section P18_MerkleOnce_
namespace Go.Proofs.Ytkhkppehdgkboaa.P
open Go.RowKit Go.Proofs.YtkhkppehdgkboaaW.PrintWords Go.Proofs.YtkhkppehdgkboaaW.PrintLast Go.Proofs.YtkhkppehdgkboaaW.PrintMore
attribute [local go_sem] max2_int min2_int max_two min_two max_three min_three max_four min_four   -- for this text's walks alone
set_option linter.unusedVariables false
set_option linter.unusedSimpArgs false
mutual
def agoralaw08_MerkleOnce.j0 : Nat → Int → Int → ByteArray → ByteArray → List ByteArray → ByteArray → List ByteArray → Bool → Bool → Option (Bool)
  | 0, _, _, _, _, _, _, _, _, _ => none
  | k + 1, x0, x1, x2, x3, x4, x5, x6, x15, x45 => if x45 = true then (some x15) else ((merkle_Includes.f k x3 x0 x1 x2 x4).bind fun t518 => (if t518 = true then ((merkle_Includes.f k x5 x0 x1 x2 x6).bind fun t519 => (agoralaw08_MerkleOnce.j1 k x0 x1 x3 x4 x5 x6 x15 (!t519))) else (agoralaw08_MerkleOnce.j1 k x0 x1 x3 x4 x5 x6 x15 true)))
def agoralaw08_MerkleOnce.j1 : Nat → Int → Int → ByteArray → List ByteArray → ByteArray → List ByteArray → Bool → Bool → Option (Bool)
  | 0, _, _, _, _, _, _, _, _ => none
  | k + 1, x0, x1, x3, x4, x5, x6, x15, x62 => if x62 = true then (some x15) else ((agoraref08_Climb.f k x3 x0 x1 x4).bind fun bt520 => ((agoraref08_Climb.f k x5 x0 x1 x6).bind fun bt525 => (if x15 = true then (if x3.toList = x5.toList then ((agoraref08_Same.f k x4 x6).bind fun t530 => (if t530 = true then (some true) else (if bt520.2.1.length + bt525.2.1.length < 8796093022208 then ((agoraref08_Clash.f k (bt520.2.1 ++ bt525.2.1)).bind fun t534 => (some t534)) else (none)))) else (if bt520.2.1.length + bt525.2.1.length < 8796093022208 then ((agoraref08_Clash.f k (bt520.2.1 ++ bt525.2.1)).bind fun t538 => (some t538)) else (none))) else (none))))
end
def agoralaw08_MerkleOnce.f (k : Nat) (a0 : Int) (a1 : Int) (a2 : ByteArray) (a3 : ByteArray) (l4 : List ByteArray) (a5 : ByteArray) (l6 : List ByteArray) : Option (Bool) := (agoralaw08_small.f k).bind fun t515 => ((agoralaw08_short.f k l4).bind fun t516 => (if t516 = true then ((agoralaw08_short.f k l6).bind fun t517 => (if t517 = true then (if (a3.size : Int) > 200 then (agoralaw08_MerkleOnce.j0 k a0 a1 a2 a3 l4 a5 l6 t515 true) else (if (a5.size : Int) > 200 then (agoralaw08_MerkleOnce.j0 k a0 a1 a2 a3 l4 a5 l6 t515 true) else (agoralaw08_MerkleOnce.j0 k a0 a1 a2 a3 l4 a5 l6 t515 (decide ((a2.size : Int) > 200))))) else (agoralaw08_MerkleOnce.j0 k a0 a1 a2 a3 l4 a5 l6 t515 true))) else (agoralaw08_MerkleOnce.j0 k a0 a1 a2 a3 l4 a5 l6 t515 true)))
set_option maxHeartbeats 8000000 in
set_option maxRecDepth 100000 in
theorem agoralaw08_MerkleOnce.calls (k : Nat) (a0 : Int) (a1 : Int) (a2 : ByteArray) (a3 : ByteArray) (A4 : Option Addr) (c4 : Nat) (l4 : List ByteArray) (a5 : ByteArray) (A6 : Option Addr) (c6 : Nat) (l6 : List ByteArray) (r : Bool) (w : World) (hr4 : Kd.C Kd.string w A4 l4.length l4) (hc4 : l4.length ≤ c4) (hr6 : Kd.C Kd.string w A6 l6.length l6) (hc6 : l6.length ≤ c6) (h : agoralaw08_MerkleOnce.f k a0 a1 a2 a3 l4 a5 l6 = some r) :
    Calls Try.prog 7 #[.int .i64 a0, .int .i64 a1, .string a2, .string a3, .slice A4 l4.length c4, .string a5, .slice A6 l6.length c6] w fun e w' => e = .returned (.bool r) ∧ Below w.heap.size w w' := by
  have HR4 := Aside0.mk hr4
  have HC4 := Aside0.mk hc4
  clear hr4 hc4
  have HR6 := Aside0.mk hr6
  have HC6 := Aside0.mk hc6
  clear hr6 hc6
  have HB := Aside0.mk (Below.refl w.heap.size w)
  have H : ((agoralaw08_small.f k).bind fun t515 => ((agoralaw08_short.f k l4).bind fun t516 => (if t516 = true then ((agoralaw08_short.f k l6).bind fun t517 => (if t517 = true then (if (a3.size : Int) > 200 then (agoralaw08_MerkleOnce.j0 k a0 a1 a2 a3 l4 a5 l6 t515 true) else (if (a5.size : Int) > 200 then (agoralaw08_MerkleOnce.j0 k a0 a1 a2 a3 l4 a5 l6 t515 true) else (agoralaw08_MerkleOnce.j0 k a0 a1 a2 a3 l4 a5 l6 t515 (decide ((a2.size : Int) > 200))))) else (agoralaw08_MerkleOnce.j0 k a0 a1 a2 a3 l4 a5 l6 t515 true))) else (agoralaw08_MerkleOnce.j0 k a0 a1 a2 a3 l4 a5 l6 t515 true)))) = some r := h
  clear h
  replace H := Option.bind_eq_some_iff.mp H
  obtain ⟨t515, A80, H⟩ := H
  replace H : ((agoralaw08_short.f k l4).bind fun t516 => (if t516 = true then ((agoralaw08_short.f k l6).bind fun t517 => (if t517 = true then (if (a3.size : Int) > 200 then (agoralaw08_MerkleOnce.j0 k a0 a1 a2 a3 l4 a5 l6 t515 true) else (if (a5.size : Int) > 200 then (agoralaw08_MerkleOnce.j0 k a0 a1 a2 a3 l4 a5 l6 t515 true) else (agoralaw08_MerkleOnce.j0 k a0 a1 a2 a3 l4 a5 l6 t515 (decide ((a2.size : Int) > 200))))) else (agoralaw08_MerkleOnce.j0 k a0 a1 a2 a3 l4 a5 l6 t515 true))) else (agoralaw08_MerkleOnce.j0 k a0 a1 a2 a3 l4 a5 l6 t515 true))) = some r := H
  have A8 := Aside0.mk A80
  clear A80
  have HC9 := Aside0.mk H
  clear H
  go_enter Try.func7, Try.ntmps7
  go_upto_region 2 with (first | ((with_reducible refine gate_callee (f := 9) rfl ?_); refine goesL_ (some 22) rfl rfl Try.func9 (by kernel_rfl) rfl #[] rfl (by (try simp only [List.map_toArray, List.map_cons, List.map_nil]); first | done | rfl | (simp only [List.length_drop, List.length_take]; rfl)) ?_; (with_reducible refine (agoralaw08_small.calls k  t515 _ A8.out).mono ?_); rintro e w10 ⟨rfl, hb⟩; refine ⟨_, rfl, ?_⟩; have n0_ := Aside0.mk (below_step (by repeat (first | (with_reducible first | exact HB.out | apply below_alloc | apply pw_below_drewN | apply below_drew1) | exact HB.out)) hb); clear HB; have HB := n0_; clear n0_; (try clear hb); (try clear hb2); (try clear hk); (try clear hi)))
  (try simp only [Act.put, List.setIfInBounds_toArray, List.set_cons_zero, List.set_cons_succ])
  go_cut [45] (fun v45 wc => ∃ (kq : Nat) (x45_8 : Bool), v45 = .bool x45_8 ∧ Aside0 (agoralaw08_MerkleOnce.j0 kq a0 a1 a2 a3 l4 a5 l6 t515 x45_8 = some r) ∧ Aside0 (kq ≤ k) ∧ Aside0 (Below w.heap.size w wc))
  case first =>
    have H := HC9.out
    clear HC9
    replace H := Option.bind_eq_some_iff.mp H
    obtain ⟨t516, A110, H⟩ := H
    replace H : (if t516 = true then ((agoralaw08_short.f k l6).bind fun t517 => (if t517 = true then (if (a3.size : Int) > 200 then (agoralaw08_MerkleOnce.j0 k a0 a1 a2 a3 l4 a5 l6 t515 true) else (if (a5.size : Int) > 200 then (agoralaw08_MerkleOnce.j0 k a0 a1 a2 a3 l4 a5 l6 t515 true) else (agoralaw08_MerkleOnce.j0 k a0 a1 a2 a3 l4 a5 l6 t515 (decide ((a2.size : Int) > 200))))) else (agoralaw08_MerkleOnce.j0 k a0 a1 a2 a3 l4 a5 l6 t515 true))) else (agoralaw08_MerkleOnce.j0 k a0 a1 a2 a3 l4 a5 l6 t515 true)) = some r := H
    have A11 := Aside0.mk A110
    clear A110
    by_cases c12 : t516 = true
    · subst c12
      have H1 : ((agoralaw08_short.f k l6).bind fun t517 => (if t517 = true then (if (a3.size : Int) > 200 then (agoralaw08_MerkleOnce.j0 k a0 a1 a2 a3 l4 a5 l6 t515 true) else (if (a5.size : Int) > 200 then (agoralaw08_MerkleOnce.j0 k a0 a1 a2 a3 l4 a5 l6 t515 true) else (agoralaw08_MerkleOnce.j0 k a0 a1 a2 a3 l4 a5 l6 t515 (decide ((a2.size : Int) > 200))))) else (agoralaw08_MerkleOnce.j0 k a0 a1 a2 a3 l4 a5 l6 t515 true))) = some r := by rw [if_pos rfl] at H; exact H
      clear H
      have H := H1
      clear H1
      replace H := Option.bind_eq_some_iff.mp H
      obtain ⟨t517, A130, H⟩ := H
      replace H : (if t517 = true then (if (a3.size : Int) > 200 then (agoralaw08_MerkleOnce.j0 k a0 a1 a2 a3 l4 a5 l6 t515 true) else (if (a5.size : Int) > 200 then (agoralaw08_MerkleOnce.j0 k a0 a1 a2 a3 l4 a5 l6 t515 true) else (agoralaw08_MerkleOnce.j0 k a0 a1 a2 a3 l4 a5 l6 t515 (decide ((a2.size : Int) > 200))))) else (agoralaw08_MerkleOnce.j0 k a0 a1 a2 a3 l4 a5 l6 t515 true)) = some r := H
      have A13 := Aside0.mk A130
      clear A130
      by_cases c14 : t517 = true
      · subst c14
        have H1 : (if (a3.size : Int) > 200 then (agoralaw08_MerkleOnce.j0 k a0 a1 a2 a3 l4 a5 l6 t515 true) else (if (a5.size : Int) > 200 then (agoralaw08_MerkleOnce.j0 k a0 a1 a2 a3 l4 a5 l6 t515 true) else (agoralaw08_MerkleOnce.j0 k a0 a1 a2 a3 l4 a5 l6 t515 (decide ((a2.size : Int) > 200))))) = some r := by rw [if_pos rfl] at H; exact H
        clear H
        have H := H1
        clear H1
        by_cases c15 : (a3.size : Int) > 200
        · rw [if_pos c15] at H
          have c15b0 : decide (200 < (a3.size : Int)) = true := decide_eq_true c15
          have c15b1 : decide (200 < a3.size) = true := decide_eq_true (by omega)
          clear c15
          (first | rw [c15b0] | (simp only [i64_w, i32_w]; rw [c15b0]) | skip)
          have H' := Aside0.mk H
          clear H
          go_wp2_with (first | ((with_reducible refine gate_callee (f := 10) rfl ?_); refine goesL_ (some 24) rfl rfl Try.func10 (by kernel_rfl) rfl #[.slice A4 l4.length c4] rfl (by (try simp only [List.map_toArray, List.map_cons, List.map_nil]); first | done | rfl | (simp only [List.length_drop, List.length_take]; rfl)) ?_; (with_reducible refine (agoralaw08_short.calls k _ _ l4 true _ ?side1 ?side2 A11.out).mono ?_); (case side1 => repeat (first | exact (Kd.C_below HR4.out HB.out) | (with_reducible refine Kd.C_alloc ?_ _) | (with_reducible refine Kd.C_drewN ?_ _) | (with_reducible refine Kd.C_drew ?_))); (case side2 => exact HC4.out); rintro e w' ⟨rfl, ⟨nd, rfl⟩⟩; refine ⟨_, rfl, ?_⟩) | (go_at_call 10; (with_reducible refine (agoralaw08_short.calls k _ _ l6 true _ ?side1 ?side2 A13.out).mono ?_); (case side1 => repeat (first | exact (Kd.C_below HR6.out (by repeat (first | (with_reducible first | exact HB.out | apply below_alloc | apply pw_below_drewN | apply below_drew1) | exact HB.out))) | (with_reducible refine Kd.C_alloc ?_ _) | (with_reducible refine Kd.C_drewN ?_ _) | (with_reducible refine Kd.C_drew ?_))); (case side2 => exact HC6.out); rintro e w' ⟨rfl, ⟨nd, rfl⟩⟩))
          go_meet
          case rel => exact ⟨_, (true), (by first | rfl | (simp; done) | (simp [*]; done)), H', ⟨by first | omega | exact Nat.le_refl _⟩, ⟨by repeat (first | (with_reducible first | exact HB.out | apply below_alloc | apply pw_below_drewN | apply below_drew1) | exact HB.out)⟩⟩
        · rw [if_neg c15] at H
          have c15b0 : decide (200 < (a3.size : Int)) = false := decide_eq_false c15
          have c15b1 : decide (200 < a3.size) = false := decide_eq_false (by omega)
          clear c15
          (first | rw [c15b0] | (simp only [i64_w, i32_w]; rw [c15b0]) | skip)
          by_cases c16 : (a5.size : Int) > 200
          · rw [if_pos c16] at H
            have c16b0 : decide (200 < (a5.size : Int)) = true := decide_eq_true c16
            have c16b1 : decide (200 < a5.size) = true := decide_eq_true (by omega)
            clear c16
            have H' := Aside0.mk H
            clear H
            go_wp2_with (first | ((with_reducible refine gate_callee (f := 10) rfl ?_); refine goesL_ (some 24) rfl rfl Try.func10 (by kernel_rfl) rfl #[.slice A4 l4.length c4] rfl (by (try simp only [List.map_toArray, List.map_cons, List.map_nil]); first | done | rfl | (simp only [List.length_drop, List.length_take]; rfl)) ?_; (with_reducible refine (agoralaw08_short.calls k _ _ l4 true _ ?side1 ?side2 A11.out).mono ?_); (case side1 => repeat (first | exact (Kd.C_below HR4.out HB.out) | (with_reducible refine Kd.C_alloc ?_ _) | (with_reducible refine Kd.C_drewN ?_ _) | (with_reducible refine Kd.C_drew ?_))); (case side2 => exact HC4.out); rintro e w' ⟨rfl, ⟨nd, rfl⟩⟩; refine ⟨_, rfl, ?_⟩) | (go_at_call 10; (with_reducible refine (agoralaw08_short.calls k _ _ l6 true _ ?side1 ?side2 A13.out).mono ?_); (case side1 => repeat (first | exact (Kd.C_below HR6.out (by repeat (first | (with_reducible first | exact HB.out | apply below_alloc | apply pw_below_drewN | apply below_drew1) | exact HB.out))) | (with_reducible refine Kd.C_alloc ?_ _) | (with_reducible refine Kd.C_drewN ?_ _) | (with_reducible refine Kd.C_drew ?_))); (case side2 => exact HC6.out); rintro e w' ⟨rfl, ⟨nd, rfl⟩⟩))
            go_meet
            case rel => exact ⟨_, (true), (by first | rfl | (simp; done) | (simp [*]; done)), H', ⟨by first | omega | exact Nat.le_refl _⟩, ⟨by repeat (first | (with_reducible first | exact HB.out | apply below_alloc | apply pw_below_drewN | apply below_drew1) | exact HB.out)⟩⟩
          · rw [if_neg c16] at H
            have c16b0 : decide (200 < (a5.size : Int)) = false := decide_eq_false c16
            have c16b1 : decide (200 < a5.size) = false := decide_eq_false (by omega)
            clear c16
            have H' := Aside0.mk H
            clear H
            go_wp2_with (first | ((with_reducible refine gate_callee (f := 10) rfl ?_); refine goesL_ (some 24) rfl rfl Try.func10 (by kernel_rfl) rfl #[.slice A4 l4.length c4] rfl (by (try simp only [List.map_toArray, List.map_cons, List.map_nil]); first | done | rfl | (simp only [List.length_drop, List.length_take]; rfl)) ?_; (with_reducible refine (agoralaw08_short.calls k _ _ l4 true _ ?side1 ?side2 A11.out).mono ?_); (case side1 => repeat (first | exact (Kd.C_below HR4.out HB.out) | (with_reducible refine Kd.C_alloc ?_ _) | (with_reducible refine Kd.C_drewN ?_ _) | (with_reducible refine Kd.C_drew ?_))); (case side2 => exact HC4.out); rintro e w' ⟨rfl, ⟨nd, rfl⟩⟩; refine ⟨_, rfl, ?_⟩) | (go_at_call 10; (with_reducible refine (agoralaw08_short.calls k _ _ l6 true _ ?side1 ?side2 A13.out).mono ?_); (case side1 => repeat (first | exact (Kd.C_below HR6.out (by repeat (first | (with_reducible first | exact HB.out | apply below_alloc | apply pw_below_drewN | apply below_drew1) | exact HB.out))) | (with_reducible refine Kd.C_alloc ?_ _) | (with_reducible refine Kd.C_drewN ?_ _) | (with_reducible refine Kd.C_drew ?_))); (case side2 => exact HC6.out); rintro e w' ⟨rfl, ⟨nd, rfl⟩⟩))
            go_meet
            case rel => exact ⟨_, (decide ((a2.size : Int) > 200)), (by first | rfl | (simp; done) | (simp [*]; done)), H', ⟨by first | omega | exact Nat.le_refl _⟩, ⟨by repeat (first | (with_reducible first | exact HB.out | apply below_alloc | apply pw_below_drewN | apply below_drew1) | exact HB.out)⟩⟩
      · replace c14 := Bool.eq_false_iff.mpr c14
        subst c14
        have H1 : (agoralaw08_MerkleOnce.j0 k a0 a1 a2 a3 l4 a5 l6 t515 true) = some r := by rw [if_neg (show ¬ (false = true) by decide)] at H; exact H
        clear H
        have H := H1
        clear H1
        have H' := Aside0.mk H
        clear H
        go_wp2_with (first | ((with_reducible refine gate_callee (f := 10) rfl ?_); refine goesL_ (some 24) rfl rfl Try.func10 (by kernel_rfl) rfl #[.slice A4 l4.length c4] rfl (by (try simp only [List.map_toArray, List.map_cons, List.map_nil]); first | done | rfl | (simp only [List.length_drop, List.length_take]; rfl)) ?_; (with_reducible refine (agoralaw08_short.calls k _ _ l4 true _ ?side1 ?side2 A11.out).mono ?_); (case side1 => repeat (first | exact (Kd.C_below HR4.out HB.out) | (with_reducible refine Kd.C_alloc ?_ _) | (with_reducible refine Kd.C_drewN ?_ _) | (with_reducible refine Kd.C_drew ?_))); (case side2 => exact HC4.out); rintro e w' ⟨rfl, ⟨nd, rfl⟩⟩; refine ⟨_, rfl, ?_⟩) | (go_at_call 10; (with_reducible refine (agoralaw08_short.calls k _ _ l6 false _ ?side1 ?side2 A13.out).mono ?_); (case side1 => repeat (first | exact (Kd.C_below HR6.out (by repeat (first | (with_reducible first | exact HB.out | apply below_alloc | apply pw_below_drewN | apply below_drew1) | exact HB.out))) | (with_reducible refine Kd.C_alloc ?_ _) | (with_reducible refine Kd.C_drewN ?_ _) | (with_reducible refine Kd.C_drew ?_))); (case side2 => exact HC6.out); rintro e w' ⟨rfl, ⟨nd, rfl⟩⟩))
        go_meet
        case rel => exact ⟨_, (true), (by first | rfl | (simp; done) | (simp [*]; done)), H', ⟨by first | omega | exact Nat.le_refl _⟩, ⟨by repeat (first | (with_reducible first | exact HB.out | apply below_alloc | apply pw_below_drewN | apply below_drew1) | exact HB.out)⟩⟩
    · replace c12 := Bool.eq_false_iff.mpr c12
      subst c12
      have H1 : (agoralaw08_MerkleOnce.j0 k a0 a1 a2 a3 l4 a5 l6 t515 true) = some r := by rw [if_neg (show ¬ (false = true) by decide)] at H; exact H
      clear H
      have H := H1
      clear H1
      have H' := Aside0.mk H
      clear H
      go_wp2_with (first | ((with_reducible refine gate_callee (f := 10) rfl ?_); refine goesL_ (some 24) rfl rfl Try.func10 (by kernel_rfl) rfl #[.slice A4 l4.length c4] rfl (by (try simp only [List.map_toArray, List.map_cons, List.map_nil]); first | done | rfl | (simp only [List.length_drop, List.length_take]; rfl)) ?_; (with_reducible refine (agoralaw08_short.calls k _ _ l4 false _ ?side1 ?side2 A11.out).mono ?_); (case side1 => repeat (first | exact (Kd.C_below HR4.out HB.out) | (with_reducible refine Kd.C_alloc ?_ _) | (with_reducible refine Kd.C_drewN ?_ _) | (with_reducible refine Kd.C_drew ?_))); (case side2 => exact HC4.out); rintro e w' ⟨rfl, ⟨nd, rfl⟩⟩; refine ⟨_, rfl, ?_⟩))
      go_meet
      case rel => exact ⟨_, (true), (by first | rfl | (simp; done) | (simp [*]; done)), H', ⟨by first | omega | exact Nat.le_refl _⟩, ⟨by repeat (first | (with_reducible first | exact HB.out | apply below_alloc | apply pw_below_drewN | apply below_drew1) | exact HB.out)⟩⟩
  case rest =>
    clear HC9
    try clear c1
    try clear p2
    try clear c4
    try clear c6
    try clear c7
    try clear c9
    try clear c10
    try clear c12
    try clear c14
    try clear c15
    try clear c15b0
    try clear c15b1
    try clear c16
    try clear c16b0
    try clear c16b1
    obtain ⟨kq, x45_8, rfl, HA, HJ8, HB⟩ := hcut
    cases kq with
    | zero => exact absurd HA.out (by simp [agoralaw08_MerkleOnce.j0])
    | succ kj8 =>
      have H := HA.out
      clear HA
      simp only [agoralaw08_MerkleOnce.j0] at H
      by_cases c17 : x45_8 = true
      · subst c17
        have H1 : (some t515) = some r := by rw [if_pos rfl] at H; exact H
        clear H
        have H := H1
        clear H1
        obtain rfl := Option.some.inj H
        go_wp2
        go_ret
        exact ⟨by first | rfl | (simp [errW_none, errW_some] <;> rfl) | (simp [*, errW_none, errW_some] <;> rfl), by repeat (first | (with_reducible first | exact HB.out | apply below_alloc | apply pw_below_drewN | apply below_drew1) | exact HB.out)⟩
      · replace c17 := Bool.eq_false_iff.mpr c17
        subst c17
        have H1 : ((merkle_Includes.f kj8 a3 a0 a1 a2 l4).bind fun t518 => (if t518 = true then ((merkle_Includes.f kj8 a5 a0 a1 a2 l6).bind fun t519 => (agoralaw08_MerkleOnce.j1 kj8 a0 a1 a3 l4 a5 l6 t515 (!t519))) else (agoralaw08_MerkleOnce.j1 kj8 a0 a1 a3 l4 a5 l6 t515 true))) = some r := by rw [if_neg (show ¬ (false = true) by decide)] at H; exact H
        clear H
        have H := H1
        clear H1
        have HC18 := Aside0.mk H
        clear H
        go_upto_region 4 with (fail)
        go_cut [62] (fun v62 wc => ∃ (kq : Nat) (x62_17 : Bool), v62 = .bool x62_17 ∧ Aside0 (agoralaw08_MerkleOnce.j1 kq a0 a1 a3 l4 a5 l6 t515 x62_17 = some r) ∧ Aside0 (kq ≤ kj8) ∧ Aside0 (Below w.heap.size w wc))
        case first =>
          have H := HC18.out
          clear HC18
          replace H := Option.bind_eq_some_iff.mp H
          obtain ⟨t518, A190, H⟩ := H
          replace H : (if t518 = true then ((merkle_Includes.f kj8 a5 a0 a1 a2 l6).bind fun t519 => (agoralaw08_MerkleOnce.j1 kj8 a0 a1 a3 l4 a5 l6 t515 (!t519))) else (agoralaw08_MerkleOnce.j1 kj8 a0 a1 a3 l4 a5 l6 t515 true)) = some r := H
          have A19 := Aside0.mk A190
          clear A190
          by_cases c20 : t518 = true
          · subst c20
            have H1 : ((merkle_Includes.f kj8 a5 a0 a1 a2 l6).bind fun t519 => (agoralaw08_MerkleOnce.j1 kj8 a0 a1 a3 l4 a5 l6 t515 (!t519))) = some r := by rw [if_pos rfl] at H; exact H
            clear H
            have H := H1
            clear H1
            replace H := Option.bind_eq_some_iff.mp H
            obtain ⟨t519, A210, H⟩ := H
            replace H : (agoralaw08_MerkleOnce.j1 kj8 a0 a1 a3 l4 a5 l6 t515 (!t519)) = some r := H
            have A21 := Aside0.mk A210
            clear A210
            have H' := Aside0.mk H
            clear H
            go_wp2_with (first | ((with_reducible refine gate_callee (f := 21) rfl ?_); refine goesL_ (some 52) rfl rfl Try.func21 (by kernel_rfl) rfl #[.string a3, .int .i64 a0, .int .i64 a1, .string a2, .slice A4 l4.length c4] rfl (by (try simp only [List.map_toArray, List.map_cons, List.map_nil]); first | done | rfl | (simp only [List.length_drop, List.length_take]; rfl)) ?_; (with_reducible refine (merkle_Includes.calls kj8 a3 a0 a1 a2 _ _ l4 true _ ?side1 ?side2 A19.out).mono ?_); (case side1 => repeat (first | exact (Kd.C_below HR4.out HB.out) | (with_reducible refine Kd.C_alloc ?_ _) | (with_reducible refine Kd.C_drewN ?_ _) | (with_reducible refine Kd.C_drew ?_))); (case side2 => exact HC4.out); rintro e w22 ⟨rfl, hb⟩; refine ⟨_, rfl, ?_⟩; have n0_ := Aside0.mk (below_step (by repeat (first | (with_reducible first | exact HB.out | apply below_alloc | apply pw_below_drewN | apply below_drew1) | exact HB.out)) hb); clear HB; have HB := n0_; clear n0_; (try clear hb); (try clear hb2); (try clear hk); (try clear hi)) | (go_at_call 21; (with_reducible refine (merkle_Includes.calls kj8 a5 a0 a1 a2 _ _ l6 t519 _ ?side1 ?side2 A21.out).mono ?_); (case side1 => repeat (first | exact (Kd.C_below HR6.out HB.out) | (with_reducible refine Kd.C_alloc ?_ _) | (with_reducible refine Kd.C_drewN ?_ _) | (with_reducible refine Kd.C_drew ?_))); (case side2 => exact HC6.out); rintro e w23 ⟨rfl, hb⟩; have n0_ := Aside0.mk (below_step (by repeat (first | (with_reducible first | exact HB.out | apply below_alloc | apply pw_below_drewN | apply below_drew1) | exact HB.out)) hb); clear HB; have HB := n0_; clear n0_; (try clear hb); (try clear hb2); (try clear hk); (try clear hi)))
            go_meet
            case rel => exact ⟨_, (!t519), (by first | rfl | (simp; done) | (simp [*]; done)), H', ⟨by have := HJ8.out; first | omega | exact Nat.le_refl _⟩, ⟨by repeat (first | (with_reducible first | exact HB.out | apply below_alloc | apply pw_below_drewN | apply below_drew1) | exact HB.out)⟩⟩
          · replace c20 := Bool.eq_false_iff.mpr c20
            subst c20
            have H1 : (agoralaw08_MerkleOnce.j1 kj8 a0 a1 a3 l4 a5 l6 t515 true) = some r := by rw [if_neg (show ¬ (false = true) by decide)] at H; exact H
            clear H
            have H := H1
            clear H1
            have H' := Aside0.mk H
            clear H
            go_wp2_with (first | ((with_reducible refine gate_callee (f := 21) rfl ?_); refine goesL_ (some 52) rfl rfl Try.func21 (by kernel_rfl) rfl #[.string a3, .int .i64 a0, .int .i64 a1, .string a2, .slice A4 l4.length c4] rfl (by (try simp only [List.map_toArray, List.map_cons, List.map_nil]); first | done | rfl | (simp only [List.length_drop, List.length_take]; rfl)) ?_; (with_reducible refine (merkle_Includes.calls kj8 a3 a0 a1 a2 _ _ l4 false _ ?side1 ?side2 A19.out).mono ?_); (case side1 => repeat (first | exact (Kd.C_below HR4.out HB.out) | (with_reducible refine Kd.C_alloc ?_ _) | (with_reducible refine Kd.C_drewN ?_ _) | (with_reducible refine Kd.C_drew ?_))); (case side2 => exact HC4.out); rintro e w24 ⟨rfl, hb⟩; refine ⟨_, rfl, ?_⟩; have n0_ := Aside0.mk (below_step (by repeat (first | (with_reducible first | exact HB.out | apply below_alloc | apply pw_below_drewN | apply below_drew1) | exact HB.out)) hb); clear HB; have HB := n0_; clear n0_; (try clear hb); (try clear hb2); (try clear hk); (try clear hi)))
            go_meet
            case rel => exact ⟨_, (true), (by first | rfl | (simp; done) | (simp [*]; done)), H', ⟨by have := HJ8.out; first | omega | exact Nat.le_refl _⟩, ⟨by repeat (first | (with_reducible first | exact HB.out | apply below_alloc | apply pw_below_drewN | apply below_drew1) | exact HB.out)⟩⟩
        case rest =>
          clear HC18
          try clear c1
          try clear c2
          try clear p2
          try clear c4
          try clear c6
          try clear c7
          try clear c9
          try clear c10
          try clear c12
          try clear c14
          try clear c15
          try clear c15b0
          try clear c15b1
          try clear c16
          try clear c16b0
          try clear c16b1
          try clear c17
          try clear c20
          try clear c21
          try clear p2
          obtain ⟨kq, x62_17, rfl, HA, HJ17, HB⟩ := hcut
          cases kq with
          | zero => exact absurd HA.out (by simp [agoralaw08_MerkleOnce.j1])
          | succ kj17 =>
            have H := HA.out
            clear HA
            simp only [agoralaw08_MerkleOnce.j1] at H
            by_cases c25 : x62_17 = true
            · subst c25
              have H1 : (some t515) = some r := by rw [if_pos rfl] at H; exact H
              clear H
              have H := H1
              clear H1
              obtain rfl := Option.some.inj H
              go_wp2
              go_ret
              exact ⟨by first | rfl | (simp [errW_none, errW_some] <;> rfl) | (simp [*, errW_none, errW_some] <;> rfl), by repeat (first | (with_reducible first | exact HB.out | apply below_alloc | apply pw_below_drewN | apply below_drew1) | exact HB.out)⟩
            · replace c25 := Bool.eq_false_iff.mpr c25
              subst c25
              have H1 : ((agoraref08_Climb.f kj17 a3 a0 a1 l4).bind fun bt520 => ((agoraref08_Climb.f kj17 a5 a0 a1 l6).bind fun bt525 => (if t515 = true then (if a3.toList = a5.toList then ((agoraref08_Same.f kj17 l4 l6).bind fun t530 => (if t530 = true then (some true) else (if bt520.2.1.length + bt525.2.1.length < 8796093022208 then ((agoraref08_Clash.f kj17 (bt520.2.1 ++ bt525.2.1)).bind fun t534 => (some t534)) else (none)))) else (if bt520.2.1.length + bt525.2.1.length < 8796093022208 then ((agoraref08_Clash.f kj17 (bt520.2.1 ++ bt525.2.1)).bind fun t538 => (some t538)) else (none))) else (none)))) = some r := by rw [if_neg (show ¬ (false = true) by decide)] at H; exact H
              clear H
              have H := H1
              clear H1
              replace H := Option.bind_eq_some_iff.mp H
              obtain ⟨⟨t520, t521, t522⟩, A260, H⟩ := H
              replace H : ((agoraref08_Climb.f kj17 a5 a0 a1 l6).bind fun bt525 => (if t515 = true then (if a3.toList = a5.toList then ((agoraref08_Same.f kj17 l4 l6).bind fun t530 => (if t530 = true then (some true) else (if t521.length + bt525.2.1.length < 8796093022208 then ((agoraref08_Clash.f kj17 (t521 ++ bt525.2.1)).bind fun t534 => (some t534)) else (none)))) else (if t521.length + bt525.2.1.length < 8796093022208 then ((agoraref08_Clash.f kj17 (t521 ++ bt525.2.1)).bind fun t538 => (some t538)) else (none))) else (none))) = some r := H
              have A26 := Aside0.mk A260
              clear A260
              replace H := Option.bind_eq_some_iff.mp H
              obtain ⟨⟨t525, t526, t527⟩, A270, H⟩ := H
              replace H : (if t515 = true then (if a3.toList = a5.toList then ((agoraref08_Same.f kj17 l4 l6).bind fun t530 => (if t530 = true then (some true) else (if t521.length + t526.length < 8796093022208 then ((agoraref08_Clash.f kj17 (t521 ++ t526)).bind fun t534 => (some t534)) else (none)))) else (if t521.length + t526.length < 8796093022208 then ((agoraref08_Clash.f kj17 (t521 ++ t526)).bind fun t538 => (some t538)) else (none))) else (none)) = some r := H
              have A27 := Aside0.mk A270
              clear A270
              by_cases c28 : t515 = true
              · subst c28
                have H1 : (if a3.toList = a5.toList then ((agoraref08_Same.f kj17 l4 l6).bind fun t530 => (if t530 = true then (some true) else (if t521.length + t526.length < 8796093022208 then ((agoraref08_Clash.f kj17 (t521 ++ t526)).bind fun t534 => (some t534)) else (none)))) else (if t521.length + t526.length < 8796093022208 then ((agoraref08_Clash.f kj17 (t521 ++ t526)).bind fun t538 => (some t538)) else (none))) = some r := by rw [if_pos rfl] at H; exact H
                clear H
                have H := H1
                clear H1
                by_cases c29 : a3.toList = a5.toList
                · rw [if_pos c29] at H
                  have c29b0 : (a3.toList == a5.toList) = true := beq_iff_eq.mpr c29
                  have c29b1 : (a3.toList != a5.toList) = false := bne_eq_false_iff_eq.mpr c29
                  clear c29
                  replace H := Option.bind_eq_some_iff.mp H
                  obtain ⟨t530, A300, H⟩ := H
                  replace H : (if t530 = true then (some true) else (if t521.length + t526.length < 8796093022208 then ((agoraref08_Clash.f kj17 (t521 ++ t526)).bind fun t534 => (some t534)) else (none))) = some r := H
                  have A30 := Aside0.mk A300
                  clear A300
                  by_cases c31 : t530 = true
                  · subst c31
                    have H1 : (some true) = some r := by rw [if_pos rfl] at H; exact H
                    clear H
                    have H := H1
                    clear H1
                    obtain rfl := Option.some.inj H
                    go_wp2_with (first | ((with_reducible refine gate_callee (f := 23) rfl ?_); refine goesL_ (some 69) rfl rfl Try.func23 (by kernel_rfl) rfl #[.string a3, .int .i64 a0, .int .i64 a1, .slice A4 l4.length c4] rfl (by (try simp only [List.map_toArray, List.map_cons, List.map_nil]); first | done | rfl | (simp only [List.length_drop, List.length_take]; rfl)) ?_; (with_reducible refine (agoraref08_Climb.calls kj17 a3 a0 a1 _ _ l4 t520 t521 t522 _ ?side1 ?side2 A26.out).mono ?_); (case side1 => repeat (first | exact (Kd.C_below HR4.out HB.out) | (with_reducible refine Kd.C_alloc ?_ _) | (with_reducible refine Kd.C_drewN ?_ _) | (with_reducible refine Kd.C_drew ?_))); (case side2 => exact HC4.out); rintro e w32 ⟨v523, rfl, ho0, hb⟩; refine ⟨_, rfl, ?_⟩; have n0_ := Aside0.mk (Kd.R_lower ho0 (below_size (by repeat (first | (with_reducible first | exact HB.out | apply below_alloc | apply pw_below_drewN | apply below_drew1) | exact HB.out)))); have n1_ := Aside0.mk (below_step (by repeat (first | (with_reducible first | exact HB.out | apply below_alloc | apply pw_below_drewN | apply below_drew1) | exact HB.out)) hb); clear HB; have HO524 := n0_; have HB := n1_; clear n0_ n1_; (try clear hb); (try clear hb2); (try clear hk); (try clear hi); (try clear ho0)) | ((with_reducible refine gate_callee (f := 23) rfl ?_); refine goesL_ (some 78) rfl rfl Try.func23 (by kernel_rfl) rfl #[.string a5, .int .i64 a0, .int .i64 a1, .slice A6 l6.length c6] rfl (by (try simp only [List.map_toArray, List.map_cons, List.map_nil]); first | done | rfl | (simp only [List.length_drop, List.length_take]; rfl)) ?_; (with_reducible refine (agoraref08_Climb.calls kj17 a5 a0 a1 _ _ l6 t525 t526 t527 _ ?side1 ?side2 A27.out).mono ?_); (case side1 => repeat (first | exact (Kd.C_below HR6.out HB.out) | (with_reducible refine Kd.C_alloc ?_ _) | (with_reducible refine Kd.C_drewN ?_ _) | (with_reducible refine Kd.C_drew ?_))); (case side2 => exact HC6.out); rintro e w33 ⟨v528, rfl, ho0, hb⟩; refine ⟨_, rfl, ?_⟩; have n0_ := Aside0.mk (Kd.R_elder' (by (with_reducible repeat (first | apply Kd.R_alloc | apply Kd.R_drewN | apply Kd.R_drew)); exact HO524.out) (Kd.R_base ho0) hb); have n1_ := Aside0.mk (Kd.R_lower (Kd.R_new' ho0 (Kd.R_lt (by (with_reducible repeat (first | apply Kd.R_alloc | apply Kd.R_drewN | apply Kd.R_drew)); exact HO524.out))) (below_size (by repeat (first | (with_reducible first | exact HB.out | apply below_alloc | apply pw_below_drewN | apply below_drew1) | exact HB.out)))); have n2_ := Aside0.mk (below_step (by repeat (first | (with_reducible first | exact HB.out | apply below_alloc | apply pw_below_drewN | apply below_drew1) | exact HB.out)) hb); clear HO524; clear HB; have HO524 := n0_; have HO529 := n1_; have HB := n2_; clear n0_ n1_ n2_; (try clear hb); (try clear hb2); (try clear hk); (try clear hi); (try clear ho0)) | (go_at_call 17; (with_reducible refine (agoraref08_Same.calls kj17 _ _ l4 _ _ l6 true _ ?side1 ?side2 ?side3 ?side4 A30.out).mono ?_); (case side1 => repeat (first | exact (Kd.C_below HR4.out HB.out) | (with_reducible refine Kd.C_alloc ?_ _) | (with_reducible refine Kd.C_drewN ?_ _) | (with_reducible refine Kd.C_drew ?_))); (case side2 => exact HC4.out); (case side3 => repeat (first | exact (Kd.C_below HR6.out HB.out) | (with_reducible refine Kd.C_alloc ?_ _) | (with_reducible refine Kd.C_drewN ?_ _) | (with_reducible refine Kd.C_drew ?_))); (case side4 => exact HC6.out); rintro e w' ⟨rfl, ⟨nd, rfl⟩⟩))
                    go_ret
                    exact ⟨by first | rfl | (simp [errW_none, errW_some] <;> rfl) | (simp [*, errW_none, errW_some] <;> rfl), by repeat (first | (with_reducible first | exact HB.out | apply below_alloc | apply pw_below_drewN | apply below_drew1) | exact HB.out)⟩
                  · replace c31 := Bool.eq_false_iff.mpr c31
                    subst c31
                    have H1 : (if t521.length + t526.length < 8796093022208 then ((agoraref08_Clash.f kj17 (t521 ++ t526)).bind fun t534 => (some t534)) else (none)) = some r := by rw [if_neg (show ¬ (false = true) by decide)] at H; exact H
                    clear H
                    have H := H1
                    clear H1
                    by_cases c34 : t521.length + t526.length < 8796093022208
                    · rw [if_pos c34] at H
                      have LMc34 := Aside0.mk c34
                      clear c34
                      obtain ⟨y531, hy531⟩ : ∃ y_ : List ByteArray, y_ = (t521 ++ t526) := ⟨_, rfl⟩
                      replace H : ((agoraref08_Clash.f kj17 y531).bind fun t534 => (some t534)) = some r := by first | (rw [hy531]; with_reducible exact H) | (have H2_ := (Option.bind_some _ _).symm.trans H; rw [hy531]; with_reducible exact H2_) | (have H2_ := (Option.bind_some _ _).symm.trans H; with_reducible exact H2_) | with_reducible exact H | (rw [hy531]; exact H) | exact H
                      have Ny531 := Aside0.mk hy531
                      clear hy531
                      replace H := Option.bind_eq_some_iff.mp H
                      obtain ⟨t534, A350, H⟩ := H
                      replace H : (some t534) = some r := H
                      have A35 := Aside0.mk A350
                      clear A350
                      obtain rfl := Option.some.inj H
                      go_wp2_with (first | ((with_reducible refine gate_callee (f := 23) rfl ?_); refine goesL_ (some 69) rfl rfl Try.func23 (by kernel_rfl) rfl #[.string a3, .int .i64 a0, .int .i64 a1, .slice A4 l4.length c4] rfl (by (try simp only [List.map_toArray, List.map_cons, List.map_nil]); first | done | rfl | (simp only [List.length_drop, List.length_take]; rfl)) ?_; (with_reducible refine (agoraref08_Climb.calls kj17 a3 a0 a1 _ _ l4 t520 t521 t522 _ ?side1 ?side2 A26.out).mono ?_); (case side1 => repeat (first | exact (Kd.C_below HR4.out HB.out) | (with_reducible refine Kd.C_alloc ?_ _) | (with_reducible refine Kd.C_drewN ?_ _) | (with_reducible refine Kd.C_drew ?_))); (case side2 => exact HC4.out); rintro e w36 ⟨v523, rfl, ho0, hb⟩; refine ⟨_, rfl, ?_⟩; have n0_ := Aside0.mk (Kd.R_lower ho0 (below_size (by repeat (first | (with_reducible first | exact HB.out | apply below_alloc | apply pw_below_drewN | apply below_drew1) | exact HB.out)))); have n1_ := Aside0.mk (below_step (by repeat (first | (with_reducible first | exact HB.out | apply below_alloc | apply pw_below_drewN | apply below_drew1) | exact HB.out)) hb); clear HB; have HO524 := n0_; have HB := n1_; clear n0_ n1_; (try clear hb); (try clear hb2); (try clear hk); (try clear hi); (try clear ho0)) | ((with_reducible refine gate_callee (f := 23) rfl ?_); refine goesL_ (some 78) rfl rfl Try.func23 (by kernel_rfl) rfl #[.string a5, .int .i64 a0, .int .i64 a1, .slice A6 l6.length c6] rfl (by (try simp only [List.map_toArray, List.map_cons, List.map_nil]); first | done | rfl | (simp only [List.length_drop, List.length_take]; rfl)) ?_; (with_reducible refine (agoraref08_Climb.calls kj17 a5 a0 a1 _ _ l6 t525 t526 t527 _ ?side1 ?side2 A27.out).mono ?_); (case side1 => repeat (first | exact (Kd.C_below HR6.out HB.out) | (with_reducible refine Kd.C_alloc ?_ _) | (with_reducible refine Kd.C_drewN ?_ _) | (with_reducible refine Kd.C_drew ?_))); (case side2 => exact HC6.out); rintro e w37 ⟨v528, rfl, ho0, hb⟩; refine ⟨_, rfl, ?_⟩; have n0_ := Aside0.mk (Kd.R_elder' (by (with_reducible repeat (first | apply Kd.R_alloc | apply Kd.R_drewN | apply Kd.R_drew)); exact HO524.out) (Kd.R_base ho0) hb); have n1_ := Aside0.mk (Kd.R_lower (Kd.R_new' ho0 (Kd.R_lt (by (with_reducible repeat (first | apply Kd.R_alloc | apply Kd.R_drewN | apply Kd.R_drew)); exact HO524.out))) (below_size (by repeat (first | (with_reducible first | exact HB.out | apply below_alloc | apply pw_below_drewN | apply below_drew1) | exact HB.out)))); have n2_ := Aside0.mk (below_step (by repeat (first | (with_reducible first | exact HB.out | apply below_alloc | apply pw_below_drewN | apply below_drew1) | exact HB.out)) hb); clear HO524; clear HB; have HO524 := n0_; have HO529 := n1_; have HB := n2_; clear n0_ n1_ n2_; (try clear hb); (try clear hb2); (try clear hk); (try clear hi); (try clear ho0)) | (go_at_call 17; (with_reducible refine (agoraref08_Same.calls kj17 _ _ l4 _ _ l6 false _ ?side1 ?side2 ?side3 ?side4 A30.out).mono ?_); (case side1 => repeat (first | exact (Kd.C_below HR4.out HB.out) | (with_reducible refine Kd.C_alloc ?_ _) | (with_reducible refine Kd.C_drewN ?_ _) | (with_reducible refine Kd.C_drew ?_))); (case side2 => exact HC4.out); (case side3 => repeat (first | exact (Kd.C_below HR6.out HB.out) | (with_reducible refine Kd.C_alloc ?_ _) | (with_reducible refine Kd.C_drewN ?_ _) | (with_reducible refine Kd.C_drew ?_))); (case side4 => exact HC6.out); rintro e w' ⟨rfl, ⟨nd, rfl⟩⟩; obtain ⟨Ao39, co39, eo39⟩ := Kd.R_slice HO529.out; subst eo39) | ((with_reducible refine gate_builtin (b := .append) (xs := #[.tmp 93, .tmp 94]) rfl ?_); (try (refine gate_guard (by rfl) ?_; dsimp only)); at_builtin; refine Kd.R_append_rows Kd.string (w0 := w) w.heap.size rfl (.tmp 93) (.tmp 94) 22 9 (.string ⟨#[]⟩) 16 rfl Try.underlying22 info9 rfl (by decide) (by omega) v523 t521 t526 _ _ _ (fun k_ => some k_ ≠ (.slice Ao39 t526.length co39 : Value).ownBlock) (fun _ => False) rfl rfl ?aO ?aR (fun _ _ h => h) (fun _ h => h.elim) ?aF ?aB ?aS ?aL ?_; (case aR => repeat (first | exact (Kd.R_reads' HO529.out).2.2 | (with_reducible refine Kd.C_alloc ?_ _) | (with_reducible refine Kd.C_drewN ?_ _) | (with_reducible refine Kd.C_drew ?_))); (case aB => exact (by repeat (first | (with_reducible first | exact HB.out | apply below_alloc | apply pw_below_drewN | apply below_drew1) | exact HB.out))); (case aF => exact (fun k_ hk => Kd.fresh' (Kd.R_lt (by (with_reducible repeat (first | apply Kd.R_alloc | apply Kd.R_drewN | apply Kd.R_drew)); exact HO529.out)) k_ hk)); (case aO => exact (by (with_reducible repeat (first | apply Kd.R_alloc | apply Kd.R_drewN | apply Kd.R_drew)); exact Kd.R_mono HO524.out (fun _ hk => hk.2))); (case aS => exact (below_size (by repeat (first | (with_reducible first | exact HB.out | apply below_alloc | apply pw_below_drewN | apply below_drew1) | exact HB.out)))); (case aL => have := LMc34.out; omega); intro v532 w38 ho hb hg hat; rw [← Ny531.out] at ho; have n0_ := Aside0.mk (Kd.R_after (ok := (fun _ => True)) (by (with_reducible repeat (first | apply Kd.R_alloc | apply Kd.R_drewN | apply Kd.R_drew)); exact HO529.out) hg hat); have n1_ := Aside0.mk (hb); have n2_ := Aside0.mk (ho); clear HO529; clear HB; clear HO524; have HO529 := n0_; have HB := n1_; have HO533 := n2_; clear n0_ n1_ n2_; clear ho hb hg hat; obtain ⟨Ao40, co40, eo40⟩ := Kd.R_slice HO533.out; subst eo40) | (go_at_call 25; (with_reducible refine (agoraref08_Clash.calls kj17 _ _ y531 t534 _ ?side1 ?side2 A35.out).mono ?_); (case side1 => repeat (first | exact (Kd.R_reads' HO533.out).2.2 | (with_reducible refine Kd.C_alloc ?_ _) | (with_reducible refine Kd.C_drewN ?_ _) | (with_reducible refine Kd.C_drew ?_))); (case side2 => exact (Kd.R_reads' HO533.out).2.1); rintro e w41 ⟨rfl, hb⟩; have n0_ := Aside0.mk (Kd.R_below (by (with_reducible repeat (first | apply Kd.R_alloc | apply Kd.R_drewN | apply Kd.R_drew)); exact HO529.out) hb); have n1_ := Aside0.mk (Kd.R_below (by (with_reducible repeat (first | apply Kd.R_alloc | apply Kd.R_drewN | apply Kd.R_drew)); exact HO533.out) hb); have n2_ := Aside0.mk (below_step (by repeat (first | (with_reducible first | exact HB.out | apply below_alloc | apply pw_below_drewN | apply below_drew1) | exact HB.out)) hb); clear HO529; clear HO533; clear HB; have HO529 := n0_; have HO533 := n1_; have HB := n2_; clear n0_ n1_ n2_; (try clear hb); (try clear hb2); (try clear hk); (try clear hi)))
                      go_ret
                      exact ⟨by first | rfl | (simp [errW_none, errW_some] <;> rfl) | (simp [*, errW_none, errW_some] <;> rfl), by repeat (first | (with_reducible first | exact HB.out | apply below_alloc | apply pw_below_drewN | apply below_drew1) | exact HB.out)⟩
                    · rw [if_neg c34] at H
                      exact absurd H (by simp)
                · rw [if_neg c29] at H
                  have c29b0 : (a3.toList == a5.toList) = false := beq_eq_false_iff_ne.mpr c29
                  have c29b1 : (a3.toList != a5.toList) = true := bne_iff_ne.mpr c29
                  by_cases c42 : t521.length + t526.length < 8796093022208
                  · rw [if_pos c42] at H
                    have LMc42 := Aside0.mk c42
                    clear c42
                    obtain ⟨y535, hy535⟩ : ∃ y_ : List ByteArray, y_ = (t521 ++ t526) := ⟨_, rfl⟩
                    replace H : ((agoraref08_Clash.f kj17 y535).bind fun t538 => (some t538)) = some r := by first | (rw [hy535]; with_reducible exact H) | (have H2_ := (Option.bind_some _ _).symm.trans H; rw [hy535]; with_reducible exact H2_) | (have H2_ := (Option.bind_some _ _).symm.trans H; with_reducible exact H2_) | with_reducible exact H | (rw [hy535]; exact H) | exact H
                    have Ny535 := Aside0.mk hy535
                    clear hy535
                    replace H := Option.bind_eq_some_iff.mp H
                    obtain ⟨t538, A430, H⟩ := H
                    replace H : (some t538) = some r := H
                    have A43 := Aside0.mk A430
                    clear A430
                    obtain rfl := Option.some.inj H
                    go_wp2_with (first | ((with_reducible refine gate_callee (f := 23) rfl ?_); refine goesL_ (some 69) rfl rfl Try.func23 (by kernel_rfl) rfl #[.string a3, .int .i64 a0, .int .i64 a1, .slice A4 l4.length c4] rfl (by (try simp only [List.map_toArray, List.map_cons, List.map_nil]); first | done | rfl | (simp only [List.length_drop, List.length_take]; rfl)) ?_; (with_reducible refine (agoraref08_Climb.calls kj17 a3 a0 a1 _ _ l4 t520 t521 t522 _ ?side1 ?side2 A26.out).mono ?_); (case side1 => repeat (first | exact (Kd.C_below HR4.out HB.out) | (with_reducible refine Kd.C_alloc ?_ _) | (with_reducible refine Kd.C_drewN ?_ _) | (with_reducible refine Kd.C_drew ?_))); (case side2 => exact HC4.out); rintro e w44 ⟨v523, rfl, ho0, hb⟩; refine ⟨_, rfl, ?_⟩; have n0_ := Aside0.mk (Kd.R_lower ho0 (below_size (by repeat (first | (with_reducible first | exact HB.out | apply below_alloc | apply pw_below_drewN | apply below_drew1) | exact HB.out)))); have n1_ := Aside0.mk (below_step (by repeat (first | (with_reducible first | exact HB.out | apply below_alloc | apply pw_below_drewN | apply below_drew1) | exact HB.out)) hb); clear HB; have HO524 := n0_; have HB := n1_; clear n0_ n1_; (try clear hb); (try clear hb2); (try clear hk); (try clear hi); (try clear ho0)) | ((with_reducible refine gate_callee (f := 23) rfl ?_); refine goesL_ (some 78) rfl rfl Try.func23 (by kernel_rfl) rfl #[.string a5, .int .i64 a0, .int .i64 a1, .slice A6 l6.length c6] rfl (by (try simp only [List.map_toArray, List.map_cons, List.map_nil]); first | done | rfl | (simp only [List.length_drop, List.length_take]; rfl)) ?_; (with_reducible refine (agoraref08_Climb.calls kj17 a5 a0 a1 _ _ l6 t525 t526 t527 _ ?side1 ?side2 A27.out).mono ?_); (case side1 => repeat (first | exact (Kd.C_below HR6.out HB.out) | (with_reducible refine Kd.C_alloc ?_ _) | (with_reducible refine Kd.C_drewN ?_ _) | (with_reducible refine Kd.C_drew ?_))); (case side2 => exact HC6.out); rintro e w45 ⟨v528, rfl, ho0, hb⟩; refine ⟨_, rfl, ?_⟩; have n0_ := Aside0.mk (Kd.R_elder' (by (with_reducible repeat (first | apply Kd.R_alloc | apply Kd.R_drewN | apply Kd.R_drew)); exact HO524.out) (Kd.R_base ho0) hb); have n1_ := Aside0.mk (Kd.R_lower (Kd.R_new' ho0 (Kd.R_lt (by (with_reducible repeat (first | apply Kd.R_alloc | apply Kd.R_drewN | apply Kd.R_drew)); exact HO524.out))) (below_size (by repeat (first | (with_reducible first | exact HB.out | apply below_alloc | apply pw_below_drewN | apply below_drew1) | exact HB.out)))); have n2_ := Aside0.mk (below_step (by repeat (first | (with_reducible first | exact HB.out | apply below_alloc | apply pw_below_drewN | apply below_drew1) | exact HB.out)) hb); clear HO524; clear HB; have HO524 := n0_; have HO529 := n1_; have HB := n2_; clear n0_ n1_ n2_; (try clear hb); (try clear hb2); (try clear hk); (try clear hi); (try clear ho0); obtain ⟨Ao47, co47, eo47⟩ := Kd.R_slice HO529.out; subst eo47) | ((with_reducible refine gate_builtin (b := .append) (xs := #[.tmp 93, .tmp 94]) rfl ?_); (try (refine gate_guard (by rfl) ?_; dsimp only)); at_builtin; refine Kd.R_append_rows Kd.string (w0 := w) w.heap.size rfl (.tmp 93) (.tmp 94) 22 9 (.string ⟨#[]⟩) 16 rfl Try.underlying22 info9 rfl (by decide) (by omega) v523 t521 t526 _ _ _ (fun k_ => some k_ ≠ (.slice Ao47 t526.length co47 : Value).ownBlock) (fun _ => False) rfl rfl ?aO ?aR (fun _ _ h => h) (fun _ h => h.elim) ?aF ?aB ?aS ?aL ?_; (case aR => repeat (first | exact (Kd.R_reads' HO529.out).2.2 | (with_reducible refine Kd.C_alloc ?_ _) | (with_reducible refine Kd.C_drewN ?_ _) | (with_reducible refine Kd.C_drew ?_))); (case aB => exact (by repeat (first | (with_reducible first | exact HB.out | apply below_alloc | apply pw_below_drewN | apply below_drew1) | exact HB.out))); (case aF => exact (fun k_ hk => Kd.fresh' (Kd.R_lt (by (with_reducible repeat (first | apply Kd.R_alloc | apply Kd.R_drewN | apply Kd.R_drew)); exact HO529.out)) k_ hk)); (case aO => exact (by (with_reducible repeat (first | apply Kd.R_alloc | apply Kd.R_drewN | apply Kd.R_drew)); exact Kd.R_mono HO524.out (fun _ hk => hk.2))); (case aS => exact (below_size (by repeat (first | (with_reducible first | exact HB.out | apply below_alloc | apply pw_below_drewN | apply below_drew1) | exact HB.out)))); (case aL => have := LMc42.out; omega); intro v536 w46 ho hb hg hat; rw [← Ny535.out] at ho; have n0_ := Aside0.mk (Kd.R_after (ok := (fun _ => True)) (by (with_reducible repeat (first | apply Kd.R_alloc | apply Kd.R_drewN | apply Kd.R_drew)); exact HO529.out) hg hat); have n1_ := Aside0.mk (hb); have n2_ := Aside0.mk (ho); clear HO529; clear HB; clear HO524; have HO529 := n0_; have HB := n1_; have HO537 := n2_; clear n0_ n1_ n2_; clear ho hb hg hat; obtain ⟨Ao48, co48, eo48⟩ := Kd.R_slice HO537.out; subst eo48) | (go_at_call 25; (with_reducible refine (agoraref08_Clash.calls kj17 _ _ y535 t538 _ ?side1 ?side2 A43.out).mono ?_); (case side1 => repeat (first | exact (Kd.R_reads' HO537.out).2.2 | (with_reducible refine Kd.C_alloc ?_ _) | (with_reducible refine Kd.C_drewN ?_ _) | (with_reducible refine Kd.C_drew ?_))); (case side2 => exact (Kd.R_reads' HO537.out).2.1); rintro e w49 ⟨rfl, hb⟩; have n0_ := Aside0.mk (Kd.R_below (by (with_reducible repeat (first | apply Kd.R_alloc | apply Kd.R_drewN | apply Kd.R_drew)); exact HO529.out) hb); have n1_ := Aside0.mk (Kd.R_below (by (with_reducible repeat (first | apply Kd.R_alloc | apply Kd.R_drewN | apply Kd.R_drew)); exact HO537.out) hb); have n2_ := Aside0.mk (below_step (by repeat (first | (with_reducible first | exact HB.out | apply below_alloc | apply pw_below_drewN | apply below_drew1) | exact HB.out)) hb); clear HO529; clear HO537; clear HB; have HO529 := n0_; have HO537 := n1_; have HB := n2_; clear n0_ n1_ n2_; (try clear hb); (try clear hb2); (try clear hk); (try clear hi)))
                    go_ret
                    exact ⟨by first | rfl | (simp [errW_none, errW_some] <;> rfl) | (simp [*, errW_none, errW_some] <;> rfl), by repeat (first | (with_reducible first | exact HB.out | apply below_alloc | apply pw_below_drewN | apply below_drew1) | exact HB.out)⟩
                  · rw [if_neg c42] at H
                    exact absurd H (by simp)
              · replace c28 := Bool.eq_false_iff.mpr c28
                subst c28
                have H1 : (none) = some r := by rw [if_neg (show ¬ (false = true) by decide)] at H; exact H
                clear H
                have H := H1
                clear H1
                exact absurd H (by simp)
end Go.Proofs.Ytkhkppehdgkboaa.P
end P18_MerkleOnce_
section PureMerkleOnce_
namespace Go.Proofs.Ytkhkppehdgkboaa.Pure
open Go.RowKit Go.Proofs.Ytkhkppehdgkboaa.P Go.Proofs.Ytkhkppehdgkboaa.Mk Go.Proofs.YtkhkppehdgkboaaW.PrintWords Go.Proofs.YtkhkppehdgkboaaW.PrintLast Go.Proofs.YtkhkppehdgkboaaW.PrintMore
set_option linter.unusedVariables false
theorem once_out1 (i n : Int) (x : ByteArray) (p : List ByteArray) (y : ByteArray) (q : List ByteArray) (k : Nat) (hk : 1 ≤ k) : agoralaw08_MerkleOnce.j1 k i n x p y q true true = some true := by
  obtain ⟨k, rfl⟩ : ∃ k', k = k' + 1 := ⟨k - 1, by omega⟩
  rw [agoralaw08_MerkleOnce.j1, if_pos rfl]
theorem once_out0 (i n : Int) (root x : ByteArray) (p : List ByteArray) (y : ByteArray) (q : List ByteArray) (k : Nat) (hk : 1 ≤ k) : agoralaw08_MerkleOnce.j0 k i n root x p y q true true = some true := by
  obtain ⟨k, rfl⟩ : ∃ k', k = k' + 1 := ⟨k - 1, by omega⟩
  rw [agoralaw08_MerkleOnce.j0, if_pos rfl]
theorem once_j1 (i n : Int) (root x : ByteArray) (p : List ByteArray) (y : ByteArray) (q : List ByteArray) (hn : n < 9223372036854775808) (hp : p.length ≤ 100) (hq : q.length ≤ 100) (h1 : incB x i n root p = true) (h2 : incB y i n root q = true) (k : Nat) (hk : 1100010 ≤ k) :
    agoralaw08_MerkleOnce.j1 k i n x p y q true false = some true := by
  obtain ⟨k, rfl⟩ : ∃ k', k = k' + 1 := ⟨k - 1, by omega⟩
  obtain ⟨i0, i1, hx, p32, wx, ux⟩ := incB_parts h1
  obtain ⟨_, _, hy, q32, wy, uy⟩ := incB_parts h2
  obtain ⟨i, rfl⟩ := Int.eq_ofNat_of_zero_le i0
  obtain ⟨n, rfl⟩ := Int.eq_ofNat_of_zero_le (show 0 ≤ n by omega)
  rw [Int.toNat_natCast, Int.toNat_natCast] at wx ux wy uy
  have pr : ∀ z ∈ p.reverse, z.size = 32 := fun z hz => p32 z (List.mem_reverse.1 hz)
  have qr : ∀ z ∈ q.reverse, z.size = 32 := fun z hz => q32 z (List.mem_reverse.1 hz)
  have lp : p.reverse.length = (way i n).length := by rw [List.length_reverse]; exact wx.symm
  have lq : q.reverse.length = (way i n).length := by rw [List.length_reverse]; exact wy.symm
  have cx := climb_ref x hx k i n p.reverse (by omega) (by omega) (by omega) pr lp.symm (by rw [List.length_reverse]; omega) (by rw [List.length_reverse]; omega)
  have cy := climb_ref y hy k i n q.reverse (by omega) (by omega) (by omega) qr lq.symm (by rw [List.length_reverse]; omega) (by rw [List.length_reverse]; omega)
  rw [List.reverse_reverse] at cx cy
  have b1 := ins_length x (way i n) p.reverse
  have b2 := ins_length y (way i n) q.reverse
  have hb := once (way i n) x y root p.reverse q.reverse hx hy pr qr lp lq ux uy
  have hcl : HasClash (ins x (way i n) p.reverse ++ ins y (way i n) q.reverse) → agoraref08_Clash.f k (ins x (way i n) p.reverse ++ ins y (way i n) q.reverse) = some true := fun hh => by
    refine clash_at _ (by rw [List.length_append]; omega) (fun z hz => ?_) hh k (by omega)
    rcases List.mem_append.1 hz with hz | hz
    · exact ins65 x hx _ _ pr z hz
    · exact ins65 y hy _ _ qr z hz
  rw [agoralaw08_MerkleOnce.j1, if_neg (by decide), cx, Option.bind_some, cy, Option.bind_some]
  dsimp only
  rw [if_pos rfl]
  by_cases e : x.toList = y.toList
  · rw [if_pos e, same_at _ _ (by omega) k (by omega), Option.bind_some]
    by_cases e2 : p = q
    · rw [decide_eq_true e2, if_pos rfl]
    · rw [decide_eq_false e2, if_neg (by decide), if_pos (by omega)]
      rcases hb with ⟨_, h3⟩ | h3
      · exact absurd (List.reverse_inj.1 h3) e2
      · rw [hcl h3]; rfl
  · rw [if_neg e, if_pos (by omega)]
    rcases hb with ⟨h3, _⟩ | h3
    · exact absurd (by rw [h3]) e
    · rw [hcl h3]; rfl
theorem once_j0 (i n : Int) (root x : ByteArray) (p : List ByteArray) (y : ByteArray) (q : List ByteArray) (hn : n < 9223372036854775808) (hp : p.length ≤ 100) (hq : q.length ≤ 100) (k : Nat) (hk : 1100020 ≤ k) :
    agoralaw08_MerkleOnce.j0 k i n root x p y q true false = some true := by
  obtain ⟨k, rfl⟩ : ∃ k', k = k' + 1 := ⟨k - 1, by omega⟩
  rw [agoralaw08_MerkleOnce.j0, if_neg (by decide), includes_at x i n root p hn (by omega) k (by omega), Option.bind_some]
  cases h1 : incB x i n root p
  · rw [if_neg (by decide), once_out1 _ _ _ _ _ _ _ (by omega)]
  · rw [if_pos rfl, includes_at y i n root q hn (by omega) k (by omega), Option.bind_some]
    cases h2 : incB y i n root q
    · exact once_out1 _ _ _ _ _ _ _ (by omega)
    · exact once_j1 i n root x p y q hn hp hq h1 h2 k (by omega)
theorem MerkleOnce (i n : Int) (root x : ByteArray) (p : List ByteArray) (y : ByteArray) (q : List ByteArray) (hw : (Lit.int .i64 n).wf = true) : agoralaw08_MerkleOnce.f 1200000 i n root x p y q = some true := by
  have hn := bd64 hw
  rw [agoralaw08_MerkleOnce.f, small_at _ (by decide), Option.bind_some, short_at _ _ (by decide), Option.bind_some]
  by_cases h : (decide (p.length ≤ 100) && ok200 p) = true
  · rw [if_pos h, short_at _ _ (by decide), Option.bind_some]
    by_cases h' : (decide (q.length ≤ 100) && ok200 q) = true
    · rw [if_pos h']
      rw [Bool.and_eq_true, decide_eq_true_eq] at h h'
      by_cases c1 : (x.size : Int) > 200
      · rw [if_pos c1, once_out0 _ _ _ _ _ _ _ _ (by decide)]
      rw [if_neg c1]
      by_cases c2 : (y.size : Int) > 200
      · rw [if_pos c2, once_out0 _ _ _ _ _ _ _ _ (by decide)]
      rw [if_neg c2]
      by_cases c3 : (root.size : Int) > 200
      · rw [decide_eq_true c3, once_out0 _ _ _ _ _ _ _ _ (by decide)]
      rw [decide_eq_false c3]
      exact once_j0 i n root x p y q (by omega) h.1 h'.1 _ (by decide)
    · rw [if_neg h', once_out0 _ _ _ _ _ _ _ _ (by decide)]
  · rw [if_neg h, once_out0 _ _ _ _ _ _ _ _ (by decide)]
end Go.Proofs.Ytkhkppehdgkboaa.Pure
end PureMerkleOnce_
