/- Texts of this claim, merged: what the functions that the law reaches compute, and what that says. -/
import Derived.Test.YtggmjfonhcinhaaKB5
import Derived.Test.YtggmjfonhcinhaaKB6
import Derived.Test.YtggmjfonhcinhaaKB13
import Derived.Test.YtggmjfonhcinhaaKB18
import Derived.Test.YtggmjfonhcinhaaKB19
section P16_ShareJoins_
namespace Go.Proofs.Ytggmjfonhcinhaa.P
open Go.RowKit Go.Proofs.YtggmjfonhcinhaaW.PrintWords Go.Proofs.YtggmjfonhcinhaaW.PrintLast Go.Proofs.YtggmjfonhcinhaaW.PrintMore
attribute [local go_sem] max2_int min2_int max_two min_two max_three min_three max_four min_four   -- for this text's walks alone
set_option linter.unusedVariables false
set_option linter.unusedSimpArgs false
mutual
def agoralaw07_ShareJoins.j0 : Nat → Int → Int → Int → ByteArray → List Int → List (S38) → Bool → Bool → Option (Bool)
  | 0, _, _, _, _, _, _, _, _ => none
  | k + 1, x0, x1, x2, x3, x4, x5, x13, x29 => if x29 = true then (some x13) else ((share_Split.f k x0 x1 x2 x3).bind fun bt365 => (if x1 ≥ 1 then (if x1 ≤ x2 then (if x2 ≤ 64 then (if x0 ≥ 0 then (agoralaw07_ShareJoins.j1 k x0 x1 x2 x4 x5 x13 bt365.1 bt365.2 (bt365.2 != (decide (x0 < 2305843009213693951)))) else (agoralaw07_ShareJoins.j1 k x0 x1 x2 x4 x5 x13 bt365.1 bt365.2 (bt365.2 != false))) else (agoralaw07_ShareJoins.j1 k x0 x1 x2 x4 x5 x13 bt365.1 bt365.2 (bt365.2 != false))) else (agoralaw07_ShareJoins.j1 k x0 x1 x2 x4 x5 x13 bt365.1 bt365.2 (bt365.2 != false))) else (agoralaw07_ShareJoins.j1 k x0 x1 x2 x4 x5 x13 bt365.1 bt365.2 (bt365.2 != false))))
def agoralaw07_ShareJoins.j1 : Nat → Int → Int → Int → List Int → List (S38) → Bool → List (S38) → Bool → Bool → Option (Bool)
  | 0, _, _, _, _, _, _, _, _, _ => none
  | k + 1, x0, x1, x2, x4, x5, x13, x14, x15, x59 => if x59 = true then (none) else (if x15 = true then (if (x14.length : Int) = x2 then ((agoralaw07_chosen.f k x14 x4).bind fun t369 => ((share_Fits.f k t369 x1).bind fun t372 => (if t372 = true then ((share_Join.f k t369 x1).bind fun bt373 => (if (t369.length : Int) < x1 then (if x13 = true then (if bt373.2 = true then (none) else (some (bt373.1 == 0))) else (none)) else ((some (([] : List (S38)) : List (S38))).bind fun y375 => (if 0 ≤ x1 then (if x1 ≤ (t369.length : Int) then ((some (t369.take (x1 : Int).toNat : List (S38))).bind fun y378 => (if y375.length + y378.length < 8796093022208 then ((some (y375 ++ y378 : List (S38))).bind fun y382 => (if y382.length + x5.length < 8796093022208 then ((share_Join.f k (y382 ++ x5) x1).bind fun bt388 => (if x13 = true then (if bt373.2 = true then (if bt373.1 = x0 then (if bt388.2 = true then (some (bt388.1 == x0)) else (none)) else (none)) else (none)) else (none))) else (none))) else (none))) else (none)) else (none))))) else (none)))) else (none)) else (if x13 = true then (some ((x14.length : Int) == 0)) else (none)))
end
def agoralaw07_ShareJoins.f (k : Nat) (a0 : Int) (a1 : Int) (a2 : Int) (a3 : ByteArray) (l4 : List Int) (l5 : List (S38)) : Option (Bool) := (agoralaw07_small.f k).bind fun t364 => (if (a3.size : Int) > 1000 then (agoralaw07_ShareJoins.j0 k a0 a1 a2 a3 l4 l5 t364 true) else (agoralaw07_ShareJoins.j0 k a0 a1 a2 a3 l4 l5 t364 (decide ((l5.length : Int) > 24))))
set_option maxHeartbeats 8000000 in
set_option maxRecDepth 100000 in
theorem agoralaw07_ShareJoins.calls (k : Nat) (a0 : Int) (a1 : Int) (a2 : Int) (a3 : ByteArray) (A4 : Option Addr) (c4 : Nat) (l4 : List Int) (A5 : Option Addr) (c5 : Nat) (l5 : List (S38)) (r : Bool) (w : World) (hr4 : Kd.C (Kd.int .i64) w A4 l4.length l4) (hc4 : l4.length ≤ c4) (hr5 : Kd.C k38 w A5 l5.length l5) (hc5 : l5.length ≤ c5) (h : agoralaw07_ShareJoins.f k a0 a1 a2 a3 l4 l5 = some r) :
    Calls Try.prog 4 #[.int .i64 a0, .int .i64 a1, .int .i64 a2, .string a3, .slice A4 l4.length c4, .slice A5 l5.length c5] w fun e w' => e = .returned (.bool r) ∧ Below w.heap.size w w' := by
  have HR4 := Aside0.mk hr4
  have HC4 := Aside0.mk hc4
  clear hr4 hc4
  have HR5 := Aside0.mk hr5
  have HC5 := Aside0.mk hc5
  clear hr5 hc5
  have HB := Aside0.mk (Below.refl w.heap.size w)
  have H : ((agoralaw07_small.f k).bind fun t364 => (if (a3.size : Int) > 1000 then (agoralaw07_ShareJoins.j0 k a0 a1 a2 a3 l4 l5 t364 true) else (agoralaw07_ShareJoins.j0 k a0 a1 a2 a3 l4 l5 t364 (decide ((l5.length : Int) > 24))))) = some r := h
  clear h
  replace H := Option.bind_eq_some_iff.mp H
  obtain ⟨t364, A70, H⟩ := H
  replace H : (if (a3.size : Int) > 1000 then (agoralaw07_ShareJoins.j0 k a0 a1 a2 a3 l4 l5 t364 true) else (agoralaw07_ShareJoins.j0 k a0 a1 a2 a3 l4 l5 t364 (decide ((l5.length : Int) > 24)))) = some r := H
  have A7 := Aside0.mk A70
  clear A70
  have HC8 := Aside0.mk H
  clear H
  go_enter Try.func4, Try.ntmps4
  go_upto_region 2 with (first | ((with_reducible refine gate_callee (f := 8) rfl ?_); refine goesL_ (some 21) rfl rfl Try.func8 (by kernel_rfl) rfl #[] rfl (by (try simp only [List.map_toArray, List.map_cons, List.map_nil]); first | done | rfl | (simp only [List.length_drop, List.length_take]; rfl)) ?_; (with_reducible refine (agoralaw07_small.calls k  t364 _ A7.out).mono ?_); rintro e w9 ⟨rfl, hb⟩; refine ⟨_, rfl, ?_⟩; have n0_ := Aside0.mk (below_step (by repeat (first | (with_reducible first | exact HB.out | apply below_alloc | apply pw_below_drewN | apply below_drew1) | exact HB.out)) hb); clear HB; have HB := n0_; clear n0_; (try clear hb); (try clear hb2); (try clear hk); (try clear hi)))
  (try simp only [Act.put, List.setIfInBounds_toArray, List.set_cons_zero, List.set_cons_succ])
  go_cut [29] (fun v29 wc => ∃ (kq : Nat) (x29_7 : Bool), v29 = .bool x29_7 ∧ Aside0 (agoralaw07_ShareJoins.j0 kq a0 a1 a2 a3 l4 l5 t364 x29_7 = some r) ∧ Aside0 (kq ≤ k) ∧ Aside0 (Below w.heap.size w wc))
  case first =>
    have H := HC8.out
    clear HC8
    by_cases c10 : (a3.size : Int) > 1000
    · rw [if_pos c10] at H
      have c10b0 : decide (1000 < (a3.size : Int)) = true := decide_eq_true c10
      have c10b1 : decide (1000 < a3.size) = true := decide_eq_true (by omega)
      clear c10
      (first | rw [c10b0] | (simp only [i64_w, i32_w]; rw [c10b0]) | skip)
      have H' := Aside0.mk H
      clear H
      go_wp2
      go_meet
      case rel => exact ⟨_, (true), (by first | rfl | (simp; done) | (simp [*]; done)), H', ⟨by first | omega | exact Nat.le_refl _⟩, ⟨by repeat (first | (with_reducible first | exact HB.out | apply below_alloc | apply pw_below_drewN | apply below_drew1) | exact HB.out)⟩⟩
    · rw [if_neg c10] at H
      have c10b0 : decide (1000 < (a3.size : Int)) = false := decide_eq_false c10
      have c10b1 : decide (1000 < a3.size) = false := decide_eq_false (by omega)
      clear c10
      (first | rw [c10b0] | (simp only [i64_w, i32_w]; rw [c10b0]) | skip)
      have H' := Aside0.mk H
      clear H
      go_wp2
      go_meet
      case rel => exact ⟨_, (decide ((l5.length : Int) > 24)), (by first | rfl | (simp; done) | (simp [*]; done)), H', ⟨by first | omega | exact Nat.le_refl _⟩, ⟨by repeat (first | (with_reducible first | exact HB.out | apply below_alloc | apply pw_below_drewN | apply below_drew1) | exact HB.out)⟩⟩
  case rest =>
    clear HC8
    try clear c1
    try clear p2
    try clear c4
    try clear c5
    try clear c8
    try clear c10
    try clear c10b0
    try clear c10b1
    obtain ⟨kq, x29_7, rfl, HA, HJ7, HB⟩ := hcut
    cases kq with
    | zero => exact absurd HA.out (by simp [agoralaw07_ShareJoins.j0])
    | succ kj7 =>
      have H := HA.out
      clear HA
      simp only [agoralaw07_ShareJoins.j0] at H
      by_cases c11 : x29_7 = true
      · subst c11
        have H1 : (some t364) = some r := by rw [if_pos rfl] at H; exact H
        clear H
        have H := H1
        clear H1
        obtain rfl := Option.some.inj H
        go_wp2
        go_ret
        exact ⟨by first | rfl | (simp [errW_none, errW_some] <;> rfl) | (simp [*, errW_none, errW_some] <;> rfl), by repeat (first | (with_reducible first | exact HB.out | apply below_alloc | apply pw_below_drewN | apply below_drew1) | exact HB.out)⟩
      · replace c11 := Bool.eq_false_iff.mpr c11
        subst c11
        have H1 : ((share_Split.f kj7 a0 a1 a2 a3).bind fun bt365 => (if a1 ≥ 1 then (if a1 ≤ a2 then (if a2 ≤ 64 then (if a0 ≥ 0 then (agoralaw07_ShareJoins.j1 kj7 a0 a1 a2 l4 l5 t364 bt365.1 bt365.2 (bt365.2 != (decide (a0 < 2305843009213693951)))) else (agoralaw07_ShareJoins.j1 kj7 a0 a1 a2 l4 l5 t364 bt365.1 bt365.2 (bt365.2 != false))) else (agoralaw07_ShareJoins.j1 kj7 a0 a1 a2 l4 l5 t364 bt365.1 bt365.2 (bt365.2 != false))) else (agoralaw07_ShareJoins.j1 kj7 a0 a1 a2 l4 l5 t364 bt365.1 bt365.2 (bt365.2 != false))) else (agoralaw07_ShareJoins.j1 kj7 a0 a1 a2 l4 l5 t364 bt365.1 bt365.2 (bt365.2 != false)))) = some r := by rw [if_neg (show ¬ (false = true) by decide)] at H; exact H
        clear H
        have H := H1
        clear H1
        replace H := Option.bind_eq_some_iff.mp H
        obtain ⟨⟨t365, t366⟩, A120, H⟩ := H
        replace H : (if a1 ≥ 1 then (if a1 ≤ a2 then (if a2 ≤ 64 then (if a0 ≥ 0 then (agoralaw07_ShareJoins.j1 kj7 a0 a1 a2 l4 l5 t364 t365 t366 (t366 != (decide (a0 < 2305843009213693951)))) else (agoralaw07_ShareJoins.j1 kj7 a0 a1 a2 l4 l5 t364 t365 t366 (t366 != false))) else (agoralaw07_ShareJoins.j1 kj7 a0 a1 a2 l4 l5 t364 t365 t366 (t366 != false))) else (agoralaw07_ShareJoins.j1 kj7 a0 a1 a2 l4 l5 t364 t365 t366 (t366 != false))) else (agoralaw07_ShareJoins.j1 kj7 a0 a1 a2 l4 l5 t364 t365 t366 (t366 != false))) = some r := H
        have A12 := Aside0.mk A120
        clear A120
        have HC13 := Aside0.mk H
        clear H
        go_upto_region 5 with (first | ((with_reducible refine gate_callee (f := 9) rfl ?_); refine goesL_ (some 36) rfl rfl Try.func9 (by kernel_rfl) rfl #[.int .i64 a0, .int .i64 a1, .int .i64 a2, .string a3] rfl (by (try simp only [List.map_toArray, List.map_cons, List.map_nil]); first | done | rfl | (simp only [List.length_drop, List.length_take]; rfl)) ?_; (with_reducible refine (share_Split.calls kj7 a0 a1 a2 a3 t365 t366 _ A12.out).mono ?_); rintro e w14 ⟨v367, rfl, ho0, hb⟩; refine ⟨_, rfl, ?_⟩; have n0_ := Aside0.mk (Kd.R_lower ho0 (below_size (by repeat (first | (with_reducible first | exact HB.out | apply below_alloc | apply pw_below_drewN | apply below_drew1) | exact HB.out)))); have n1_ := Aside0.mk (below_step (by repeat (first | (with_reducible first | exact HB.out | apply below_alloc | apply pw_below_drewN | apply below_drew1) | exact HB.out)) hb); clear HB; have HO368 := n0_; have HB := n1_; clear n0_ n1_; (try clear hb); (try clear hb2); (try clear hk); (try clear hi); (try clear ho0)))
        (try simp only [Act.put, List.setIfInBounds_toArray, List.set_cons_zero, List.set_cons_succ])
        go_cut [59] (fun v59 wc => ∃ (kq : Nat) (x59_12 : Bool), v59 = .bool x59_12 ∧ Aside0 (agoralaw07_ShareJoins.j1 kq a0 a1 a2 l4 l5 t364 t365 t366 x59_12 = some r) ∧ Aside0 (kq ≤ kj7) ∧ Aside0 (Kd.R k38 38 wc w.heap.size (fun _ => True) v367 t365) ∧ Aside0 (Below w.heap.size w wc))
        case first =>
          have H := HC13.out
          clear HC13
          by_cases c15 : a1 ≥ 1
          · rw [if_pos c15] at H
            have c15b0 : decide (1 ≤ a1) = true := decide_eq_true c15
            clear c15
            (first | rw [c15b0] | (simp only [i64_w, i32_w]; rw [c15b0]) | skip)
            by_cases c16 : a1 ≤ a2
            · rw [if_pos c16] at H
              have c16b0 : decide (a1 ≤ a2) = true := decide_eq_true c16
              clear c16
              by_cases c17 : a2 ≤ 64
              · rw [if_pos c17] at H
                have c17b0 : decide (a2 ≤ 64) = true := decide_eq_true c17
                clear c17
                by_cases c18 : a0 ≥ 0
                · rw [if_pos c18] at H
                  have c18b0 : decide (0 ≤ a0) = true := decide_eq_true c18
                  clear c18
                  have H' := Aside0.mk H
                  clear H
                  go_wp2
                  go_meet
                  case rel => exact ⟨_, ((t366 != (decide (a0 < 2305843009213693951)))), (by first | rfl | (simp; done) | (simp [*]; done)), H', ⟨by have := HJ7.out; first | omega | exact Nat.le_refl _⟩, ⟨by (with_reducible repeat (first | apply Kd.R_alloc | apply Kd.R_drewN | apply Kd.R_drew)); exact HO368.out⟩, ⟨by repeat (first | (with_reducible first | exact HB.out | apply below_alloc | apply pw_below_drewN | apply below_drew1) | exact HB.out)⟩⟩
                · rw [if_neg c18] at H
                  have c18b0 : decide (0 ≤ a0) = false := decide_eq_false c18
                  clear c18
                  have H' := Aside0.mk H
                  clear H
                  go_wp2
                  go_meet
                  case rel => exact ⟨_, ((t366 != false)), (by first | rfl | (simp; done) | (simp [*]; done)), H', ⟨by have := HJ7.out; first | omega | exact Nat.le_refl _⟩, ⟨by (with_reducible repeat (first | apply Kd.R_alloc | apply Kd.R_drewN | apply Kd.R_drew)); exact HO368.out⟩, ⟨by repeat (first | (with_reducible first | exact HB.out | apply below_alloc | apply pw_below_drewN | apply below_drew1) | exact HB.out)⟩⟩
              · rw [if_neg c17] at H
                have c17b0 : decide (a2 ≤ 64) = false := decide_eq_false c17
                clear c17
                have H' := Aside0.mk H
                clear H
                go_wp2
                go_meet
                case rel => exact ⟨_, ((t366 != false)), (by first | rfl | (simp; done) | (simp [*]; done)), H', ⟨by have := HJ7.out; first | omega | exact Nat.le_refl _⟩, ⟨by (with_reducible repeat (first | apply Kd.R_alloc | apply Kd.R_drewN | apply Kd.R_drew)); exact HO368.out⟩, ⟨by repeat (first | (with_reducible first | exact HB.out | apply below_alloc | apply pw_below_drewN | apply below_drew1) | exact HB.out)⟩⟩
            · rw [if_neg c16] at H
              have c16b0 : decide (a1 ≤ a2) = false := decide_eq_false c16
              clear c16
              have H' := Aside0.mk H
              clear H
              go_wp2
              go_meet
              case rel => exact ⟨_, ((t366 != false)), (by first | rfl | (simp; done) | (simp [*]; done)), H', ⟨by have := HJ7.out; first | omega | exact Nat.le_refl _⟩, ⟨by (with_reducible repeat (first | apply Kd.R_alloc | apply Kd.R_drewN | apply Kd.R_drew)); exact HO368.out⟩, ⟨by repeat (first | (with_reducible first | exact HB.out | apply below_alloc | apply pw_below_drewN | apply below_drew1) | exact HB.out)⟩⟩
          · rw [if_neg c15] at H
            have c15b0 : decide (1 ≤ a1) = false := decide_eq_false c15
            clear c15
            (first | rw [c15b0] | (simp only [i64_w, i32_w]; rw [c15b0]) | skip)
            have H' := Aside0.mk H
            clear H
            go_wp2
            go_meet
            case rel => exact ⟨_, ((t366 != false)), (by first | rfl | (simp; done) | (simp [*]; done)), H', ⟨by have := HJ7.out; first | omega | exact Nat.le_refl _⟩, ⟨by (with_reducible repeat (first | apply Kd.R_alloc | apply Kd.R_drewN | apply Kd.R_drew)); exact HO368.out⟩, ⟨by repeat (first | (with_reducible first | exact HB.out | apply below_alloc | apply pw_below_drewN | apply below_drew1) | exact HB.out)⟩⟩
        case rest =>
          clear HC13
          try clear c1
          try clear p2
          try clear c4
          try clear c5
          try clear c8
          try clear c9
          try clear c10
          try clear c10b0
          try clear c10b1
          try clear c11
          try clear c15
          try clear c15b0
          try clear c16
          try clear c16b0
          try clear c17
          try clear c17b0
          try clear c18
          try clear c18b0
          try clear p2
          obtain ⟨kq, x59_12, rfl, HA, HJ12, HO_14, HB⟩ := hcut
          cases kq with
          | zero => exact absurd HA.out (by simp [agoralaw07_ShareJoins.j1])
          | succ kj12 =>
            have H := HA.out
            clear HA
            simp only [agoralaw07_ShareJoins.j1] at H
            by_cases c19 : x59_12 = true
            · subst c19
              have H1 : (none) = some r := by rw [if_pos rfl] at H; exact H
              clear H
              have H := H1
              clear H1
              exact absurd H (by simp)
            · replace c19 := Bool.eq_false_iff.mpr c19
              subst c19
              have H1 : (if t366 = true then (if (t365.length : Int) = a2 then ((agoralaw07_chosen.f kj12 t365 l4).bind fun t369 => ((share_Fits.f kj12 t369 a1).bind fun t372 => (if t372 = true then ((share_Join.f kj12 t369 a1).bind fun bt373 => (if (t369.length : Int) < a1 then (if t364 = true then (if bt373.2 = true then (none) else (some (bt373.1 == 0))) else (none)) else ((some (([] : List (S38)) : List (S38))).bind fun y375 => (if 0 ≤ a1 then (if a1 ≤ (t369.length : Int) then ((some (t369.take (a1 : Int).toNat : List (S38))).bind fun y378 => (if y375.length + y378.length < 8796093022208 then ((some (y375 ++ y378 : List (S38))).bind fun y382 => (if y382.length + l5.length < 8796093022208 then ((share_Join.f kj12 (y382 ++ l5) a1).bind fun bt388 => (if t364 = true then (if bt373.2 = true then (if bt373.1 = a0 then (if bt388.2 = true then (some (bt388.1 == a0)) else (none)) else (none)) else (none)) else (none))) else (none))) else (none))) else (none)) else (none))))) else (none)))) else (none)) else (if t364 = true then (some ((t365.length : Int) == 0)) else (none))) = some r := by rw [if_neg (show ¬ (false = true) by decide)] at H; exact H
              clear H
              have H := H1
              clear H1
              by_cases c20 : t366 = true
              · subst c20
                have H1 : (if (t365.length : Int) = a2 then ((agoralaw07_chosen.f kj12 t365 l4).bind fun t369 => ((share_Fits.f kj12 t369 a1).bind fun t372 => (if t372 = true then ((share_Join.f kj12 t369 a1).bind fun bt373 => (if (t369.length : Int) < a1 then (if t364 = true then (if bt373.2 = true then (none) else (some (bt373.1 == 0))) else (none)) else ((some (([] : List (S38)) : List (S38))).bind fun y375 => (if 0 ≤ a1 then (if a1 ≤ (t369.length : Int) then ((some (t369.take (a1 : Int).toNat : List (S38))).bind fun y378 => (if y375.length + y378.length < 8796093022208 then ((some (y375 ++ y378 : List (S38))).bind fun y382 => (if y382.length + l5.length < 8796093022208 then ((share_Join.f kj12 (y382 ++ l5) a1).bind fun bt388 => (if t364 = true then (if bt373.2 = true then (if bt373.1 = a0 then (if bt388.2 = true then (some (bt388.1 == a0)) else (none)) else (none)) else (none)) else (none))) else (none))) else (none))) else (none)) else (none))))) else (none)))) else (none)) = some r := by rw [if_pos rfl] at H; exact H
                clear H
                have H := H1
                clear H1
                by_cases c21 : (t365.length : Int) = a2
                · rw [if_pos c21] at H
                  have c21b0 : ((t365.length : Int) == a2) = true := beq_iff_eq.mpr c21
                  have c21b1 : ((t365.length : Int) != a2) = false := bne_eq_false_iff_eq.mpr c21
                  clear c21
                  replace H := Option.bind_eq_some_iff.mp H
                  obtain ⟨t369, A220, H⟩ := H
                  replace H : ((share_Fits.f kj12 t369 a1).bind fun t372 => (if t372 = true then ((share_Join.f kj12 t369 a1).bind fun bt373 => (if (t369.length : Int) < a1 then (if t364 = true then (if bt373.2 = true then (none) else (some (bt373.1 == 0))) else (none)) else ((some (([] : List (S38)) : List (S38))).bind fun y375 => (if 0 ≤ a1 then (if a1 ≤ (t369.length : Int) then ((some (t369.take (a1 : Int).toNat : List (S38))).bind fun y378 => (if y375.length + y378.length < 8796093022208 then ((some (y375 ++ y378 : List (S38))).bind fun y382 => (if y382.length + l5.length < 8796093022208 then ((share_Join.f kj12 (y382 ++ l5) a1).bind fun bt388 => (if t364 = true then (if bt373.2 = true then (if bt373.1 = a0 then (if bt388.2 = true then (some (bt388.1 == a0)) else (none)) else (none)) else (none)) else (none))) else (none))) else (none))) else (none)) else (none))))) else (none))) = some r := H
                  have A22 := Aside0.mk A220
                  clear A220
                  replace H := Option.bind_eq_some_iff.mp H
                  obtain ⟨t372, A230, H⟩ := H
                  replace H : (if t372 = true then ((share_Join.f kj12 t369 a1).bind fun bt373 => (if (t369.length : Int) < a1 then (if t364 = true then (if bt373.2 = true then (none) else (some (bt373.1 == 0))) else (none)) else ((some (([] : List (S38)) : List (S38))).bind fun y375 => (if 0 ≤ a1 then (if a1 ≤ (t369.length : Int) then ((some (t369.take (a1 : Int).toNat : List (S38))).bind fun y378 => (if y375.length + y378.length < 8796093022208 then ((some (y375 ++ y378 : List (S38))).bind fun y382 => (if y382.length + l5.length < 8796093022208 then ((share_Join.f kj12 (y382 ++ l5) a1).bind fun bt388 => (if t364 = true then (if bt373.2 = true then (if bt373.1 = a0 then (if bt388.2 = true then (some (bt388.1 == a0)) else (none)) else (none)) else (none)) else (none))) else (none))) else (none))) else (none)) else (none))))) else (none)) = some r := H
                  have A23 := Aside0.mk A230
                  clear A230
                  by_cases c24 : t372 = true
                  · subst c24
                    have H1 : ((share_Join.f kj12 t369 a1).bind fun bt373 => (if (t369.length : Int) < a1 then (if t364 = true then (if bt373.2 = true then (none) else (some (bt373.1 == 0))) else (none)) else ((some (([] : List (S38)) : List (S38))).bind fun y375 => (if 0 ≤ a1 then (if a1 ≤ (t369.length : Int) then ((some (t369.take (a1 : Int).toNat : List (S38))).bind fun y378 => (if y375.length + y378.length < 8796093022208 then ((some (y375 ++ y378 : List (S38))).bind fun y382 => (if y382.length + l5.length < 8796093022208 then ((share_Join.f kj12 (y382 ++ l5) a1).bind fun bt388 => (if t364 = true then (if bt373.2 = true then (if bt373.1 = a0 then (if bt388.2 = true then (some (bt388.1 == a0)) else (none)) else (none)) else (none)) else (none))) else (none))) else (none))) else (none)) else (none))))) = some r := by rw [if_pos rfl] at H; exact H
                    clear H
                    have H := H1
                    clear H1
                    replace H := Option.bind_eq_some_iff.mp H
                    obtain ⟨⟨t373, t374⟩, A250, H⟩ := H
                    replace H : (if (t369.length : Int) < a1 then (if t364 = true then (if t374 = true then (none) else (some (t373 == 0))) else (none)) else ((some (([] : List (S38)) : List (S38))).bind fun y375 => (if 0 ≤ a1 then (if a1 ≤ (t369.length : Int) then ((some (t369.take (a1 : Int).toNat : List (S38))).bind fun y378 => (if y375.length + y378.length < 8796093022208 then ((some (y375 ++ y378 : List (S38))).bind fun y382 => (if y382.length + l5.length < 8796093022208 then ((share_Join.f kj12 (y382 ++ l5) a1).bind fun bt388 => (if t364 = true then (if t374 = true then (if t373 = a0 then (if bt388.2 = true then (some (bt388.1 == a0)) else (none)) else (none)) else (none)) else (none))) else (none))) else (none))) else (none)) else (none)))) = some r := H
                    have A25 := Aside0.mk A250
                    clear A250
                    by_cases c26 : (t369.length : Int) < a1
                    · rw [if_pos c26] at H
                      have c26b0 : decide ((t369.length : Int) < a1) = true := decide_eq_true c26
                      clear c26
                      by_cases c27 : t364 = true
                      · subst c27
                        have H1 : (if t374 = true then (none) else (some (t373 == 0))) = some r := by rw [if_pos rfl] at H; exact H
                        clear H
                        have H := H1
                        clear H1
                        by_cases c28 : t374 = true
                        · subst c28
                          have H1 : (none) = some r := by rw [if_pos rfl] at H; exact H
                          clear H
                          have H := H1
                          clear H1
                          exact absurd H (by simp)
                        · replace c28 := Bool.eq_false_iff.mpr c28
                          subst c28
                          have H1 : (some (t373 == 0)) = some r := by rw [if_neg (show ¬ (false = true) by decide)] at H; exact H
                          clear H
                          have H := H1
                          clear H1
                          obtain rfl := Option.some.inj H
                          obtain ⟨Ao29, co29, eo29⟩ := Kd.R_slice HO_14.out
                          subst eo29
                          go_wp2_with (first | ((with_reducible refine gate_callee (f := 16) rfl ?_); refine goesL_ (some 74) rfl rfl Try.func16 (by kernel_rfl) rfl #[.slice Ao29 t365.length co29, .slice A4 l4.length c4] rfl (by (try simp only [List.map_toArray, List.map_cons, List.map_nil]); first | done | rfl | (simp only [List.length_drop, List.length_take]; rfl)) ?_; (with_reducible refine (agoralaw07_chosen.calls kj12 _ _ t365 _ _ l4 t369 _ ?side1 ?side2 ?side3 ?side4 A22.out).mono ?_); (case side1 => repeat (first | exact (Kd.R_reads' HO_14.out).2.2 | (with_reducible refine Kd.C_alloc ?_ _) | (with_reducible refine Kd.C_drewN ?_ _) | (with_reducible refine Kd.C_drew ?_))); (case side2 => exact (Kd.R_reads' HO_14.out).2.1); (case side3 => repeat (first | exact (Kd.C_below HR4.out HB.out) | (with_reducible refine Kd.C_alloc ?_ _) | (with_reducible refine Kd.C_drewN ?_ _) | (with_reducible refine Kd.C_drew ?_))); (case side4 => exact HC4.out); rintro e w30 ⟨v370, rfl, ho0, hb⟩; refine ⟨_, rfl, ?_⟩; have n0_ := Aside0.mk (Kd.R_elder' (by (with_reducible repeat (first | apply Kd.R_alloc | apply Kd.R_drewN | apply Kd.R_drew)); exact HO_14.out) (Kd.R_base ho0) hb); have n1_ := Aside0.mk (Kd.R_lower (Kd.R_new' ho0 (Kd.R_lt (by (with_reducible repeat (first | apply Kd.R_alloc | apply Kd.R_drewN | apply Kd.R_drew)); exact HO_14.out))) (below_size (by repeat (first | (with_reducible first | exact HB.out | apply below_alloc | apply pw_below_drewN | apply below_drew1) | exact HB.out)))); have n2_ := Aside0.mk (below_step (by repeat (first | (with_reducible first | exact HB.out | apply below_alloc | apply pw_below_drewN | apply below_drew1) | exact HB.out)) hb); clear HO_14; clear HB; have HO_14 := n0_; have HO371 := n1_; have HB := n2_; clear n0_ n1_ n2_; (try clear hb); (try clear hb2); (try clear hk); (try clear hi); (try clear ho0); obtain ⟨Ao31, co31, eo31⟩ := Kd.R_slice HO371.out; subst eo31) | ((with_reducible refine gate_callee (f := 14) rfl ?_); refine goesL_ (some 77) rfl rfl Try.func14 (by kernel_rfl) rfl #[.slice Ao31 t369.length co31, .int .i64 a1] rfl (by (try simp only [List.map_toArray, List.map_cons, List.map_nil]); first | done | rfl | (simp only [List.length_drop, List.length_take]; rfl)) ?_; (with_reducible refine (share_Fits.calls kj12 _ _ t369 a1 true _ ?side1 ?side2 A23.out).mono ?_); (case side1 => repeat (first | exact (Kd.R_reads' HO371.out).2.2 | (with_reducible refine Kd.C_alloc ?_ _) | (with_reducible refine Kd.C_drewN ?_ _) | (with_reducible refine Kd.C_drew ?_))); (case side2 => exact (Kd.R_reads' HO371.out).2.1); rintro e w32 ⟨rfl, hb⟩; refine ⟨_, rfl, ?_⟩; have n0_ := Aside0.mk (Kd.R_below (by (with_reducible repeat (first | apply Kd.R_alloc | apply Kd.R_drewN | apply Kd.R_drew)); exact HO_14.out) hb); have n1_ := Aside0.mk (Kd.R_below (by (with_reducible repeat (first | apply Kd.R_alloc | apply Kd.R_drewN | apply Kd.R_drew)); exact HO371.out) hb); have n2_ := Aside0.mk (below_step (by repeat (first | (with_reducible first | exact HB.out | apply below_alloc | apply pw_below_drewN | apply below_drew1) | exact HB.out)) hb); clear HO_14; clear HO371; clear HB; have HO_14 := n0_; have HO371 := n1_; have HB := n2_; clear n0_ n1_ n2_; (try clear hb); (try clear hb2); (try clear hk); (try clear hi)) | ((with_reducible refine gate_callee (f := 12) rfl ?_); refine goesL_ (some 82) rfl rfl Try.func12 (by kernel_rfl) rfl #[.slice Ao31 t369.length co31, .int .i64 a1] rfl (by (try simp only [List.map_toArray, List.map_cons, List.map_nil]); first | done | rfl | (simp only [List.length_drop, List.length_take]; rfl)) ?_; (with_reducible refine (share_Join.calls kj12 _ _ t369 a1 t373 false _ ?side1 ?side2 A25.out).mono ?_); (case side1 => repeat (first | exact (Kd.R_reads' HO371.out).2.2 | (with_reducible refine Kd.C_alloc ?_ _) | (with_reducible refine Kd.C_drewN ?_ _) | (with_reducible refine Kd.C_drew ?_))); (case side2 => exact (Kd.R_reads' HO371.out).2.1); rintro e w33 ⟨rfl, hb⟩; refine ⟨_, rfl, ?_⟩; have n0_ := Aside0.mk (Kd.R_below (by (with_reducible repeat (first | apply Kd.R_alloc | apply Kd.R_drewN | apply Kd.R_drew)); exact HO_14.out) hb); have n1_ := Aside0.mk (Kd.R_below (by (with_reducible repeat (first | apply Kd.R_alloc | apply Kd.R_drewN | apply Kd.R_drew)); exact HO371.out) hb); have n2_ := Aside0.mk (below_step (by repeat (first | (with_reducible first | exact HB.out | apply below_alloc | apply pw_below_drewN | apply below_drew1) | exact HB.out)) hb); clear HO_14; clear HO371; clear HB; have HO_14 := n0_; have HO371 := n1_; have HB := n2_; clear n0_ n1_ n2_; (try clear hb); (try clear hb2); (try clear hk); (try clear hi)))
                          go_ret
                          exact ⟨by first | rfl | (simp [errW_none, errW_some] <;> rfl) | (simp [*, errW_none, errW_some] <;> rfl), by repeat (first | (with_reducible first | exact HB.out | apply below_alloc | apply pw_below_drewN | apply below_drew1) | exact HB.out)⟩
                      · replace c27 := Bool.eq_false_iff.mpr c27
                        subst c27
                        have H1 : (none) = some r := by rw [if_neg (show ¬ (false = true) by decide)] at H; exact H
                        clear H
                        have H := H1
                        clear H1
                        exact absurd H (by simp)
                    · rw [if_neg c26] at H
                      have c26b0 : decide ((t369.length : Int) < a1) = false := decide_eq_false c26
                      clear c26
                      obtain ⟨y375, hy375⟩ : ∃ y_ : List (S38), y_ = (([] : List (S38))) := ⟨_, rfl⟩
                      replace H : (if 0 ≤ a1 then (if a1 ≤ (t369.length : Int) then ((some (t369.take (a1 : Int).toNat : List (S38))).bind fun y378 => (if y375.length + y378.length < 8796093022208 then ((some (y375 ++ y378 : List (S38))).bind fun y382 => (if y382.length + l5.length < 8796093022208 then ((share_Join.f kj12 (y382 ++ l5) a1).bind fun bt388 => (if t364 = true then (if t374 = true then (if t373 = a0 then (if bt388.2 = true then (some (bt388.1 == a0)) else (none)) else (none)) else (none)) else (none))) else (none))) else (none))) else (none)) else (none)) = some r := by first | (rw [hy375]; with_reducible exact H) | (have H2_ := (Option.bind_some _ _).symm.trans H; rw [hy375]; with_reducible exact H2_) | (have H2_ := (Option.bind_some _ _).symm.trans H; with_reducible exact H2_) | with_reducible exact H | (rw [hy375]; exact H) | exact H
                      have Ny375 := Aside0.mk hy375
                      clear hy375
                      by_cases c34 : 0 ≤ a1
                      · rw [if_pos c34] at H
                        have c34b0 := eq_true c34
                        have c34b1 : decide (0 ≤ a1) = true := decide_eq_true c34
                        clear c34
                        by_cases c35 : a1 ≤ (t369.length : Int)
                        · rw [if_pos c35] at H
                          have c35b0 := eq_true c35
                          have c35b1 : decide (a1 ≤ (t369.length : Int)) = true := decide_eq_true c35
                          clear c35
                          obtain ⟨y378, hy378⟩ : ∃ y_ : List (S38), y_ = (t369.take (a1 : Int).toNat) := ⟨_, rfl⟩
                          replace H : (if y375.length + y378.length < 8796093022208 then ((some (y375 ++ y378 : List (S38))).bind fun y382 => (if y382.length + l5.length < 8796093022208 then ((share_Join.f kj12 (y382 ++ l5) a1).bind fun bt388 => (if t364 = true then (if t374 = true then (if t373 = a0 then (if bt388.2 = true then (some (bt388.1 == a0)) else (none)) else (none)) else (none)) else (none))) else (none))) else (none)) = some r := by first | (rw [hy378]; with_reducible exact H) | (have H2_ := (Option.bind_some _ _).symm.trans H; rw [hy378]; with_reducible exact H2_) | (have H2_ := (Option.bind_some _ _).symm.trans H; with_reducible exact H2_) | with_reducible exact H | (rw [hy378]; exact H) | exact H
                          have Ny378 := Aside0.mk hy378
                          clear hy378
                          by_cases c36 : y375.length + y378.length < 8796093022208
                          · rw [if_pos c36] at H
                            have LMc36 := Aside0.mk c36
                            clear c36
                            obtain ⟨y382, hy382⟩ : ∃ y_ : List (S38), y_ = (y375 ++ y378) := ⟨_, rfl⟩
                            replace H : (if y382.length + l5.length < 8796093022208 then ((share_Join.f kj12 (y382 ++ l5) a1).bind fun bt388 => (if t364 = true then (if t374 = true then (if t373 = a0 then (if bt388.2 = true then (some (bt388.1 == a0)) else (none)) else (none)) else (none)) else (none))) else (none)) = some r := by first | (rw [hy382]; with_reducible exact H) | (have H2_ := (Option.bind_some _ _).symm.trans H; rw [hy382]; with_reducible exact H2_) | (have H2_ := (Option.bind_some _ _).symm.trans H; with_reducible exact H2_) | with_reducible exact H | (rw [hy382]; exact H) | exact H
                            have Ny382 := Aside0.mk hy382
                            clear hy382
                            by_cases c37 : y382.length + l5.length < 8796093022208
                            · rw [if_pos c37] at H
                              have LMc37 := Aside0.mk c37
                              clear c37
                              obtain ⟨y385, hy385⟩ : ∃ y_ : List (S38), y_ = (y382 ++ l5) := ⟨_, rfl⟩
                              replace H : ((share_Join.f kj12 y385 a1).bind fun bt388 => (if t364 = true then (if t374 = true then (if t373 = a0 then (if bt388.2 = true then (some (bt388.1 == a0)) else (none)) else (none)) else (none)) else (none))) = some r := by first | (rw [hy385]; with_reducible exact H) | (have H2_ := (Option.bind_some _ _).symm.trans H; rw [hy385]; with_reducible exact H2_) | (have H2_ := (Option.bind_some _ _).symm.trans H; with_reducible exact H2_) | with_reducible exact H | (rw [hy385]; exact H) | exact H
                              have Ny385 := Aside0.mk hy385
                              clear hy385
                              replace H := Option.bind_eq_some_iff.mp H
                              obtain ⟨⟨t388, t389⟩, A380, H⟩ := H
                              replace H : (if t364 = true then (if t374 = true then (if t373 = a0 then (if t389 = true then (some (t388 == a0)) else (none)) else (none)) else (none)) else (none)) = some r := H
                              have A38 := Aside0.mk A380
                              clear A380
                              by_cases c39 : t364 = true
                              · subst c39
                                have H1 : (if t374 = true then (if t373 = a0 then (if t389 = true then (some (t388 == a0)) else (none)) else (none)) else (none)) = some r := by rw [if_pos rfl] at H; exact H
                                clear H
                                have H := H1
                                clear H1
                                by_cases c40 : t374 = true
                                · subst c40
                                  have H1 : (if t373 = a0 then (if t389 = true then (some (t388 == a0)) else (none)) else (none)) = some r := by rw [if_pos rfl] at H; exact H
                                  clear H
                                  have H := H1
                                  clear H1
                                  by_cases c41 : t373 = a0
                                  · rw [if_pos c41] at H
                                    have c41b0 : (t373 == a0) = true := beq_iff_eq.mpr c41
                                    have c41b1 : (t373 != a0) = false := bne_eq_false_iff_eq.mpr c41
                                    clear c41
                                    by_cases c42 : t389 = true
                                    · subst c42
                                      have H1 : (some (t388 == a0)) = some r := by rw [if_pos rfl] at H; exact H
                                      clear H
                                      have H := H1
                                      clear H1
                                      obtain rfl := Option.some.inj H
                                      obtain ⟨Ao43, co43, eo43⟩ := Kd.R_slice HO_14.out
                                      subst eo43
                                      go_wp2_with (first | ((with_reducible refine gate_callee (f := 16) rfl ?_); refine goesL_ (some 74) rfl rfl Try.func16 (by kernel_rfl) rfl #[.slice Ao43 t365.length co43, .slice A4 l4.length c4] rfl (by (try simp only [List.map_toArray, List.map_cons, List.map_nil]); first | done | rfl | (simp only [List.length_drop, List.length_take]; rfl)) ?_; (with_reducible refine (agoralaw07_chosen.calls kj12 _ _ t365 _ _ l4 t369 _ ?side1 ?side2 ?side3 ?side4 A22.out).mono ?_); (case side1 => repeat (first | exact (Kd.R_reads' HO_14.out).2.2 | (with_reducible refine Kd.C_alloc ?_ _) | (with_reducible refine Kd.C_drewN ?_ _) | (with_reducible refine Kd.C_drew ?_))); (case side2 => exact (Kd.R_reads' HO_14.out).2.1); (case side3 => repeat (first | exact (Kd.C_below HR4.out HB.out) | (with_reducible refine Kd.C_alloc ?_ _) | (with_reducible refine Kd.C_drewN ?_ _) | (with_reducible refine Kd.C_drew ?_))); (case side4 => exact HC4.out); rintro e w44 ⟨v370, rfl, ho0, hb⟩; refine ⟨_, rfl, ?_⟩; have n0_ := Aside0.mk (Kd.R_elder' (by (with_reducible repeat (first | apply Kd.R_alloc | apply Kd.R_drewN | apply Kd.R_drew)); exact HO_14.out) (Kd.R_base ho0) hb); have n1_ := Aside0.mk (Kd.R_lower (Kd.R_new' ho0 (Kd.R_lt (by (with_reducible repeat (first | apply Kd.R_alloc | apply Kd.R_drewN | apply Kd.R_drew)); exact HO_14.out))) (below_size (by repeat (first | (with_reducible first | exact HB.out | apply below_alloc | apply pw_below_drewN | apply below_drew1) | exact HB.out)))); have n2_ := Aside0.mk (below_step (by repeat (first | (with_reducible first | exact HB.out | apply below_alloc | apply pw_below_drewN | apply below_drew1) | exact HB.out)) hb); clear HO_14; clear HB; have HO_14 := n0_; have HO371 := n1_; have HB := n2_; clear n0_ n1_ n2_; (try clear hb); (try clear hb2); (try clear hk); (try clear hi); (try clear ho0); obtain ⟨Ao45, co45, eo45⟩ := Kd.R_slice HO371.out; subst eo45) | ((with_reducible refine gate_callee (f := 14) rfl ?_); refine goesL_ (some 77) rfl rfl Try.func14 (by kernel_rfl) rfl #[.slice Ao45 t369.length co45, .int .i64 a1] rfl (by (try simp only [List.map_toArray, List.map_cons, List.map_nil]); first | done | rfl | (simp only [List.length_drop, List.length_take]; rfl)) ?_; (with_reducible refine (share_Fits.calls kj12 _ _ t369 a1 true _ ?side1 ?side2 A23.out).mono ?_); (case side1 => repeat (first | exact (Kd.R_reads' HO371.out).2.2 | (with_reducible refine Kd.C_alloc ?_ _) | (with_reducible refine Kd.C_drewN ?_ _) | (with_reducible refine Kd.C_drew ?_))); (case side2 => exact (Kd.R_reads' HO371.out).2.1); rintro e w46 ⟨rfl, hb⟩; refine ⟨_, rfl, ?_⟩; have n0_ := Aside0.mk (Kd.R_below (by (with_reducible repeat (first | apply Kd.R_alloc | apply Kd.R_drewN | apply Kd.R_drew)); exact HO_14.out) hb); have n1_ := Aside0.mk (Kd.R_below (by (with_reducible repeat (first | apply Kd.R_alloc | apply Kd.R_drewN | apply Kd.R_drew)); exact HO371.out) hb); have n2_ := Aside0.mk (below_step (by repeat (first | (with_reducible first | exact HB.out | apply below_alloc | apply pw_below_drewN | apply below_drew1) | exact HB.out)) hb); clear HO_14; clear HO371; clear HB; have HO_14 := n0_; have HO371 := n1_; have HB := n2_; clear n0_ n1_ n2_; (try clear hb); (try clear hb2); (try clear hk); (try clear hi)) | ((with_reducible refine gate_callee (f := 12) rfl ?_); refine goesL_ (some 82) rfl rfl Try.func12 (by kernel_rfl) rfl #[.slice Ao45 t369.length co45, .int .i64 a1] rfl (by (try simp only [List.map_toArray, List.map_cons, List.map_nil]); first | done | rfl | (simp only [List.length_drop, List.length_take]; rfl)) ?_; (with_reducible refine (share_Join.calls kj12 _ _ t369 a1 t373 true _ ?side1 ?side2 A25.out).mono ?_); (case side1 => repeat (first | exact (Kd.R_reads' HO371.out).2.2 | (with_reducible refine Kd.C_alloc ?_ _) | (with_reducible refine Kd.C_drewN ?_ _) | (with_reducible refine Kd.C_drew ?_))); (case side2 => exact (Kd.R_reads' HO371.out).2.1); rintro e w47 ⟨rfl, hb⟩; refine ⟨_, rfl, ?_⟩; have n0_ := Aside0.mk (Kd.R_below (by (with_reducible repeat (first | apply Kd.R_alloc | apply Kd.R_drewN | apply Kd.R_drew)); exact HO_14.out) hb); have n1_ := Aside0.mk (Kd.R_below (by (with_reducible repeat (first | apply Kd.R_alloc | apply Kd.R_drewN | apply Kd.R_drew)); exact HO371.out) hb); have n2_ := Aside0.mk (below_step (by repeat (first | (with_reducible first | exact HB.out | apply below_alloc | apply pw_below_drewN | apply below_drew1) | exact HB.out)) hb); clear HO_14; clear HO371; clear HB; have HO_14 := n0_; have HO371 := n1_; have HB := n2_; clear n0_ n1_ n2_; (try clear hb); (try clear hb2); (try clear hk); (try clear hi)) | ((with_reducible refine gate_dst (N := 99) rfl ?_); (try (refine gate_guard (by rfl) ?_; dsimp only)); refine Kd.R_lit k38 _ 38 ?hg (N := 99) ?hd (xs := ([] : List (S38))) (inner := []) (ok := fun _ => True) (okp := fun _ => True) ?hr ?hp (fun _ hk => hk) trivial (Below.refl _ _) (Nat.le_refl _) (by simp) ?_; (case hd => rfl); (case hg => rfl); (case hr => first | (go_simp; done) | (go_simp; rfl) | (go_simp; simp only [IntKind.wrap_u32', Int.emod_add_emod, Int.add_emod_emod])); (case hp => exact (Reps.none _ _)); intro v376 w48 ho49 hb hg_ hnew_; clear hg_ hnew_; (first | rw [← Ny375.out] at ho49 | (simp only [Int.reduceToNat] at ho49; rw [← Ny375.out] at ho49)); have n0_ := Aside0.mk (Kd.R_elder' (by (with_reducible repeat (first | apply Kd.R_alloc | apply Kd.R_drewN | apply Kd.R_drew)); exact HO_14.out) (Kd.R_base ho49) hb); have n1_ := Aside0.mk (Kd.R_elder' (by (with_reducible repeat (first | apply Kd.R_alloc | apply Kd.R_drewN | apply Kd.R_drew)); exact HO371.out) (Kd.R_base ho49) hb); have n2_ := Aside0.mk (Kd.R_lower (Kd.R_new' (Kd.R_new' ho49 (Kd.R_lt (by (with_reducible repeat (first | apply Kd.R_alloc | apply Kd.R_drewN | apply Kd.R_drew)); exact HO_14.out))) (Kd.R_lt (by (with_reducible repeat (first | apply Kd.R_alloc | apply Kd.R_drewN | apply Kd.R_drew)); exact HO371.out))) (below_size (by repeat (first | (with_reducible first | exact HB.out | apply below_alloc | apply pw_below_drewN | apply below_drew1) | exact HB.out)))); have n3_ := Aside0.mk (below_step (by repeat (first | (with_reducible first | exact HB.out | apply below_alloc | apply pw_below_drewN | apply below_drew1) | exact HB.out)) hb); clear HO_14; clear HO371; clear HB; have HO_14 := n0_; have HO371 := n1_; have HO377 := n2_; have HB := n3_; clear n0_ n1_ n2_ n3_; clear hb ho49; have q50 : (a1 : Int) ≤ ((t369.length : Int) : Int) := of_decide_eq_true (by first | (with_reducible assumption) | assumption); obtain ⟨i050, hi050, _, hsz50, _⟩ := info_parts info38; have hroom50 : t369.length ≤ co45 := (Kd.R_reads' HO371.out).2.1; have hC50 : Kd.C k38 _ Ao45 t369.length t369 := (Kd.R_reads' HO371.out).2.2; have hcut50 := cut_to (P := Try.prog) 22 38 .i64 Try.underlying22 hi050 Ao45 t369.length co45 a1 (of_decide_eq_true (by first | (with_reducible assumption) | assumption)) q50 hroom50; have hr50 := Kd.C_take (m := (a1 : Int).toNat) hC50 (by omega); have hy50 : y378.length = (a1 : Int).toNat := (by rw [Ny378.out, List.length_take]; omega); rw [← Ny378.out] at hr50; rw [← hy50] at hcut50; have HR381 := Aside0.mk hr50; have HC381 := Aside0.mk (show y378.length ≤ co45 from by omega); clear hr50 hC50 hroom50 hi050 hsz50; have KY50 := Aside0.mk hy50; clear hy50; have KL50 := Aside0.mk (show (a1 : Int).toNat ≤ t369.length from by omega); replace q50 := eq_true q50) | ((with_reducible refine gate_builtin (b := .append) (xs := #[.tmp 99, .tmp 102]) rfl ?_); (try (refine gate_guard (by rfl) ?_; dsimp only)); at_builtin; refine Kd.R_append_rows k38 (w0 := w) w.heap.size rfl (.tmp 99) (.tmp 102) 22 38 (.agg #[(.int .i64 0), (.int .i64 0)]) 16 rfl Try.underlying22 info38 rfl (by decide) (by omega) v376 y375 y378 _ _ _ (fun k_ => some k_ ≠ (.slice Ao43 t365.length co43 : Value).ownBlock ∧ some k_ ≠ (.slice Ao45 t369.length co45 : Value).ownBlock) (fun _ => False) rfl rfl ?aO ?aR (fun _ _ h => h) (fun _ h => h.elim) ?aF ?aB ?aS ?aL ?_; (case aR => repeat (first | exact (by repeat (first | (with_reducible exact HR381.out) | (with_reducible refine Kd.C_alloc ?_ _) | (with_reducible refine Kd.C_drewN ?_ _) | (with_reducible refine Kd.C_drew ?_) | exact HR381.out)) | (with_reducible refine Kd.C_alloc ?_ _) | (with_reducible refine Kd.C_drewN ?_ _) | (with_reducible refine Kd.C_drew ?_))); (case aB => exact (by repeat (first | (with_reducible first | exact HB.out | apply below_alloc | apply pw_below_drewN | apply below_drew1) | exact HB.out))); (case aF => exact (fun k_ hk => ⟨Kd.fresh' (Kd.R_lt (by (with_reducible repeat (first | apply Kd.R_alloc | apply Kd.R_drewN | apply Kd.R_drew)); exact HO_14.out)) k_ hk, Kd.fresh' (Kd.R_lt (by (with_reducible repeat (first | apply Kd.R_alloc | apply Kd.R_drewN | apply Kd.R_drew)); exact HO371.out)) k_ hk⟩)); (case aO => exact (by (with_reducible repeat (first | apply Kd.R_alloc | apply Kd.R_drewN | apply Kd.R_drew)); exact Kd.R_mono HO377.out (fun _ hk => ⟨hk.1.2, hk.2⟩))); (case aS => exact (below_size (by repeat (first | (with_reducible first | exact HB.out | apply below_alloc | apply pw_below_drewN | apply below_drew1) | exact HB.out)))); (case aL => have := LMc36.out; omega); intro v383 w51 ho hb hg hat; rw [← Ny382.out] at ho; have n0_ := Aside0.mk (Kd.R_after (ok := (fun k_ => some k_ ≠ (.slice Ao45 t369.length co45 : Value).ownBlock)) (by (with_reducible repeat (first | apply Kd.R_alloc | apply Kd.R_drewN | apply Kd.R_drew)); exact Kd.R_mono HO_14.out (fun _ hk => ⟨hk.1.2, hk.2⟩)) hg hat); have n1_ := Aside0.mk (Kd.R_after (ok := (fun k_ => some k_ ≠ (.slice Ao43 t365.length co43 : Value).ownBlock)) (by (with_reducible repeat (first | apply Kd.R_alloc | apply Kd.R_drewN | apply Kd.R_drew)); exact Kd.R_mono HO371.out (fun _ hk => ⟨hk.1.2, hk.2⟩)) hg hat); have n2_ := Aside0.mk (hb); have n3_ := Aside0.mk ((show Kd.C k38 w51 Ao45 y378.length y378 from by rw [Ny378.out]; exact Kd.C_take (m := (a1 : Int).toNat) ((Kd.R_reads' (Kd.R_after (ok := (fun k_ => some k_ ≠ (.slice Ao43 t365.length co43 : Value).ownBlock)) (by (with_reducible repeat (first | apply Kd.R_alloc | apply Kd.R_drewN | apply Kd.R_drew)); exact Kd.R_mono HO371.out (fun _ hk => ⟨hk.1.2, hk.2⟩)) hg hat)).2.2) KL50.out)); have n4_ := Aside0.mk (ho); clear HO_14; clear HO371; clear HB; clear HR381; clear HO377; have HO_14 := n0_; have HO371 := n1_; have HB := n2_; have HR381 := n3_; have HO384 := n4_; clear n0_ n1_ n2_ n3_ n4_; clear ho hb hg hat) | ((with_reducible refine gate_builtin (b := .append) (xs := #[.tmp 103, .tmp 104]) rfl ?_); (try (refine gate_guard (by rfl) ?_; dsimp only)); at_builtin; refine Kd.R_append_rows k38 (w0 := w) w.heap.size rfl (.tmp 103) (.tmp 104) 22 38 (.agg #[(.int .i64 0), (.int .i64 0)]) 16 rfl Try.underlying22 info38 rfl (by decide) (by omega) v383 y382 l5 _ _ _ (fun k_ => some k_ ≠ (.slice Ao43 t365.length co43 : Value).ownBlock ∧ some k_ ≠ (.slice Ao45 t369.length co45 : Value).ownBlock) (fun _ => False) rfl rfl ?aO ?aR (fun _ _ h => h) (fun _ h => h.elim) ?aF ?aB ?aS ?aL ?_; (case aR => repeat (first | exact (Kd.C_below HR5.out HB.out) | (with_reducible refine Kd.C_alloc ?_ _) | (with_reducible refine Kd.C_drewN ?_ _) | (with_reducible refine Kd.C_drew ?_))); (case aB => exact (by repeat (first | (with_reducible first | exact HB.out | apply below_alloc | apply pw_below_drewN | apply below_drew1) | exact HB.out))); (case aF => exact (fun k_ hk => ⟨Kd.fresh' (Kd.R_lt (by (with_reducible repeat (first | apply Kd.R_alloc | apply Kd.R_drewN | apply Kd.R_drew)); exact HO_14.out)) k_ hk, Kd.fresh' (Kd.R_lt (by (with_reducible repeat (first | apply Kd.R_alloc | apply Kd.R_drewN | apply Kd.R_drew)); exact HO371.out)) k_ hk⟩)); (case aO => exact (by (with_reducible repeat (first | apply Kd.R_alloc | apply Kd.R_drewN | apply Kd.R_drew)); exact HO384.out)); (case aS => exact (below_size (by repeat (first | (with_reducible first | exact HB.out | apply below_alloc | apply pw_below_drewN | apply below_drew1) | exact HB.out)))); (case aL => have := LMc37.out; omega); intro v386 w52 ho hb hg hat; rw [← Ny385.out] at ho; have n0_ := Aside0.mk (Kd.R_after (ok := (fun k_ => some k_ ≠ (.slice Ao45 t369.length co45 : Value).ownBlock)) (by (with_reducible repeat (first | apply Kd.R_alloc | apply Kd.R_drewN | apply Kd.R_drew)); exact HO_14.out) hg hat); have n1_ := Aside0.mk (Kd.R_after (ok := (fun k_ => some k_ ≠ (.slice Ao43 t365.length co43 : Value).ownBlock)) (by (with_reducible repeat (first | apply Kd.R_alloc | apply Kd.R_drewN | apply Kd.R_drew)); exact HO371.out) hg hat); have n2_ := Aside0.mk (hb); have n3_ := Aside0.mk ((show Kd.C k38 w52 Ao45 y378.length y378 from by rw [Ny378.out]; exact Kd.C_take (m := (a1 : Int).toNat) ((Kd.R_reads' (Kd.R_after (ok := (fun k_ => some k_ ≠ (.slice Ao43 t365.length co43 : Value).ownBlock)) (by (with_reducible repeat (first | apply Kd.R_alloc | apply Kd.R_drewN | apply Kd.R_drew)); exact HO371.out) hg hat)).2.2) KL50.out)); have n4_ := Aside0.mk (ho); clear HO_14; clear HO371; clear HB; clear HR381; clear HO384; have HO_14 := n0_; have HO371 := n1_; have HB := n2_; have HR381 := n3_; have HO387 := n4_; clear n0_ n1_ n2_ n3_ n4_; clear ho hb hg hat; obtain ⟨Ao53, co53, eo53⟩ := Kd.R_slice HO387.out; subst eo53) | ((with_reducible refine gate_callee (f := 12) rfl ?_); refine goesL_ (some 107) rfl rfl Try.func12 (by kernel_rfl) rfl #[.slice Ao53 y385.length co53, .int .i64 a1] rfl (by (try simp only [List.map_toArray, List.map_cons, List.map_nil]); first | done | rfl | (simp only [List.length_drop, List.length_take]; rfl)) ?_; (with_reducible refine (share_Join.calls kj12 _ _ y385 a1 t388 true _ ?side1 ?side2 A38.out).mono ?_); (case side1 => repeat (first | exact (Kd.R_reads' HO387.out).2.2 | (with_reducible refine Kd.C_alloc ?_ _) | (with_reducible refine Kd.C_drewN ?_ _) | (with_reducible refine Kd.C_drew ?_))); (case side2 => exact (Kd.R_reads' HO387.out).2.1); rintro e w54 ⟨rfl, hb⟩; refine ⟨_, rfl, ?_⟩; have n0_ := Aside0.mk (Kd.R_below (by (with_reducible repeat (first | apply Kd.R_alloc | apply Kd.R_drewN | apply Kd.R_drew)); exact HO_14.out) hb); have n1_ := Aside0.mk (Kd.R_below (by (with_reducible repeat (first | apply Kd.R_alloc | apply Kd.R_drewN | apply Kd.R_drew)); exact HO371.out) hb); have n2_ := Aside0.mk (Kd.R_below (by (with_reducible repeat (first | apply Kd.R_alloc | apply Kd.R_drewN | apply Kd.R_drew)); exact HO387.out) hb); have n3_ := Aside0.mk (Kd.C_below (by repeat (first | (with_reducible exact HR381.out) | (with_reducible refine Kd.C_alloc ?_ _) | (with_reducible refine Kd.C_drewN ?_ _) | (with_reducible refine Kd.C_drew ?_) | exact HR381.out)) hb); have n4_ := Aside0.mk (below_step (by repeat (first | (with_reducible first | exact HB.out | apply below_alloc | apply pw_below_drewN | apply below_drew1) | exact HB.out)) hb); clear HO_14; clear HO371; clear HO387; clear HR381; clear HB; have HO_14 := n0_; have HO371 := n1_; have HO387 := n2_; have HR381 := n3_; have HB := n4_; clear n0_ n1_ n2_ n3_ n4_; (try clear hb); (try clear hb2); (try clear hk); (try clear hi)))
                                      go_ret
                                      exact ⟨by first | rfl | (simp [errW_none, errW_some] <;> rfl) | (simp [*, errW_none, errW_some] <;> rfl), by repeat (first | (with_reducible first | exact HB.out | apply below_alloc | apply pw_below_drewN | apply below_drew1) | exact HB.out)⟩
                                    · replace c42 := Bool.eq_false_iff.mpr c42
                                      subst c42
                                      have H1 : (none) = some r := by rw [if_neg (show ¬ (false = true) by decide)] at H; exact H
                                      clear H
                                      have H := H1
                                      clear H1
                                      exact absurd H (by simp)
                                  · rw [if_neg c41] at H
                                    exact absurd H (by simp)
                                · replace c40 := Bool.eq_false_iff.mpr c40
                                  subst c40
                                  have H1 : (none) = some r := by rw [if_neg (show ¬ (false = true) by decide)] at H; exact H
                                  clear H
                                  have H := H1
                                  clear H1
                                  exact absurd H (by simp)
                              · replace c39 := Bool.eq_false_iff.mpr c39
                                subst c39
                                have H1 : (none) = some r := by rw [if_neg (show ¬ (false = true) by decide)] at H; exact H
                                clear H
                                have H := H1
                                clear H1
                                exact absurd H (by simp)
                            · rw [if_neg c37] at H
                              exact absurd H (by simp)
                          · rw [if_neg c36] at H
                            exact absurd H (by simp)
                        · rw [if_neg c35] at H
                          exact absurd H (by simp)
                      · rw [if_neg c34] at H
                        exact absurd H (by simp)
                  · replace c24 := Bool.eq_false_iff.mpr c24
                    subst c24
                    have H1 : (none) = some r := by rw [if_neg (show ¬ (false = true) by decide)] at H; exact H
                    clear H
                    have H := H1
                    clear H1
                    exact absurd H (by simp)
                · rw [if_neg c21] at H
                  exact absurd H (by simp)
              · replace c20 := Bool.eq_false_iff.mpr c20
                subst c20
                have H1 : (if t364 = true then (some ((t365.length : Int) == 0)) else (none)) = some r := by rw [if_neg (show ¬ (false = true) by decide)] at H; exact H
                clear H
                have H := H1
                clear H1
                by_cases c55 : t364 = true
                · subst c55
                  have H1 : (some ((t365.length : Int) == 0)) = some r := by rw [if_pos rfl] at H; exact H
                  clear H
                  have H := H1
                  clear H1
                  obtain rfl := Option.some.inj H
                  obtain ⟨Ao56, co56, eo56⟩ := Kd.R_slice HO_14.out
                  subst eo56
                  go_wp2
                  go_ret
                  exact ⟨by first | rfl | (simp [errW_none, errW_some] <;> rfl) | (simp [*, errW_none, errW_some] <;> rfl), by repeat (first | (with_reducible first | exact HB.out | apply below_alloc | apply pw_below_drewN | apply below_drew1) | exact HB.out)⟩
                · replace c55 := Bool.eq_false_iff.mpr c55
                  subst c55
                  have H1 : (none) = some r := by rw [if_neg (show ¬ (false = true) by decide)] at H; exact H
                  clear H
                  have H := H1
                  clear H1
                  exact absurd H (by simp)
end Go.Proofs.Ytggmjfonhcinhaa.P
end P16_ShareJoins_
