/- Texts of this claim, merged: what the functions that the law reaches compute, and what that says. -/
import Derived.Test.YtggmjfonhcinhaaKA5
import Derived.Test.YtggmjfonhcinhaaKA6
import Derived.Test.YtggmjfonhcinhaaKA18
import Derived.Test.YtggmjfonhcinhaaKA19
section P20_ShareDetects_
namespace Go.Proofs.Ytggmjfonhcinhaa.P
open Go.RowKit Go.Proofs.YtggmjfonhcinhaaW.PrintWords Go.Proofs.YtggmjfonhcinhaaW.PrintLast Go.Proofs.YtggmjfonhcinhaaW.PrintMore
attribute [local go_sem] max2_int min2_int max_two min_two max_three min_three max_four min_four   -- for this text's walks alone
set_option linter.unusedVariables false
set_option linter.unusedSimpArgs false
def agoralaw07_ShareDetects.j0 : Nat → Int → Int → Int → ByteArray → Int → Int → Bool → Bool → Option (Bool)
  | 0, _, _, _, _, _, _, _, _ => none
  | k + 1, x0, x1, x2, x3, x4, x5, x13, x47 => if x47 = true then (some x13) else ((share_Split.f k x0 x1 x2 x3).bind fun bt452 => (if bt452.2 = true then (if (bt452.1.length : Int) = x2 then (if 0 ≤ x4 then (if x4 < (bt452.1.length : Int) then ((some (([] : List (S38)) : List (S38))).bind fun y457 => (if x4 ≤ (bt452.1.length : Int) then ((some (bt452.1.take (x4 : Int).toNat : List (S38))).bind fun y460 => (if y457.length + y460.length < 8796093022208 then ((some (y457 ++ y460 : List (S38))).bind fun y464 => (if 0 ≤ (wrap64 (x4 + 1)) then (if (wrap64 (x4 + 1)) ≤ (bt452.1.length : Int) then ((some (bt452.1.drop ((wrap64 (x4 + 1)) : Int).toNat : List (S38))).bind fun y467 => (if y464.length + y467.length < 8796093022208 then (if x13 = true then ((share_Fits.f k (bt452.1.set (x4 : Int).toNat (⟨(rd_T38 bt452.1 x4).f0, x5⟩ : S38)) x1).bind fun t475 => (if (t475 == (((rd_T38 bt452.1 x4).f1) == x5)) = true then ((share_Fits.f k (y464 ++ y467) x1).bind fun t476 => (some t476)) else (none))) else (none)) else (none))) else (none)) else (none))) else (none))) else (none))) else (none)) else (none)) else (none)) else (some x13)))
def agoralaw07_ShareDetects.f (k : Nat) (a0 : Int) (a1 : Int) (a2 : Int) (a3 : ByteArray) (a4 : Int) (a5 : Int) : Option (Bool) := (agoralaw07_small.f k).bind fun t451 => (if (a3.size : Int) > 1000 then (agoralaw07_ShareDetects.j0 k a0 a1 a2 a3 a4 a5 t451 true) else (if a2 > 24 then (agoralaw07_ShareDetects.j0 k a0 a1 a2 a3 a4 a5 t451 true) else (if a1 ≥ a2 then (agoralaw07_ShareDetects.j0 k a0 a1 a2 a3 a4 a5 t451 true) else (if a4 < 0 then (agoralaw07_ShareDetects.j0 k a0 a1 a2 a3 a4 a5 t451 true) else (if a4 ≥ a2 then (agoralaw07_ShareDetects.j0 k a0 a1 a2 a3 a4 a5 t451 true) else (if a5 < 0 then (agoralaw07_ShareDetects.j0 k a0 a1 a2 a3 a4 a5 t451 true) else (agoralaw07_ShareDetects.j0 k a0 a1 a2 a3 a4 a5 t451 (decide (a5 ≥ 2305843009213693951)))))))))
def agoralaw07_ShareDetects.T10 : Bool × List (List Nat × List Nat) := (true, [([], []), ([], []), ([], []), ([1, 2], [1, 2]), ([0, 3], [0, 3]), ([], []), ([], []), ([6], [6]), ([5, 7], [5, 7]), ([4, 8, 4], [4, 8]), ([9, 9, 0, 1, 2, 3, 4, 5, 6, 7, 8, 9], [9])])
def agoralaw07_ShareDetects.B10 : List Nat := [0, 0, 0, 6, 15, 0, 0, 64, 224, 511, 1023]
theorem agoralaw07_ShareDetects.tab10 : rtab .any (opsOf Try.f7 10) = agoralaw07_ShareDetects.T10 := by kernel_rfl
theorem agoralaw07_ShareDetects.bits10 : waitsOk agoralaw07_ShareDetects.T10.2 agoralaw07_ShareDetects.B10 = true := by kernel_rfl
set_option maxHeartbeats 8000000 in
set_option maxRecDepth 100000 in
theorem agoralaw07_ShareDetects.calls (k : Nat) (a0 : Int) (a1 : Int) (a2 : Int) (a3 : ByteArray) (a4 : Int) (a5 : Int) (r : Bool) (w : World) (h : agoralaw07_ShareDetects.f k a0 a1 a2 a3 a4 a5 = some r) :
    Calls Try.prog 7 #[.int .i64 a0, .int .i64 a1, .int .i64 a2, .string a3, .int .i64 a4, .int .i64 a5] w fun e w' => e = .returned (.bool r) ∧ Below w.heap.size w w' := by
  have HB := Aside0.mk (Below.refl w.heap.size w)
  have H : ((agoralaw07_small.f k).bind fun t451 => (if (a3.size : Int) > 1000 then (agoralaw07_ShareDetects.j0 k a0 a1 a2 a3 a4 a5 t451 true) else (if a2 > 24 then (agoralaw07_ShareDetects.j0 k a0 a1 a2 a3 a4 a5 t451 true) else (if a1 ≥ a2 then (agoralaw07_ShareDetects.j0 k a0 a1 a2 a3 a4 a5 t451 true) else (if a4 < 0 then (agoralaw07_ShareDetects.j0 k a0 a1 a2 a3 a4 a5 t451 true) else (if a4 ≥ a2 then (agoralaw07_ShareDetects.j0 k a0 a1 a2 a3 a4 a5 t451 true) else (if a5 < 0 then (agoralaw07_ShareDetects.j0 k a0 a1 a2 a3 a4 a5 t451 true) else (agoralaw07_ShareDetects.j0 k a0 a1 a2 a3 a4 a5 t451 (decide (a5 ≥ 2305843009213693951)))))))))) = some r := h
  clear h
  replace H := Option.bind_eq_some_iff.mp H
  obtain ⟨t451, A70, H⟩ := H
  replace H : (if (a3.size : Int) > 1000 then (agoralaw07_ShareDetects.j0 k a0 a1 a2 a3 a4 a5 t451 true) else (if a2 > 24 then (agoralaw07_ShareDetects.j0 k a0 a1 a2 a3 a4 a5 t451 true) else (if a1 ≥ a2 then (agoralaw07_ShareDetects.j0 k a0 a1 a2 a3 a4 a5 t451 true) else (if a4 < 0 then (agoralaw07_ShareDetects.j0 k a0 a1 a2 a3 a4 a5 t451 true) else (if a4 ≥ a2 then (agoralaw07_ShareDetects.j0 k a0 a1 a2 a3 a4 a5 t451 true) else (if a5 < 0 then (agoralaw07_ShareDetects.j0 k a0 a1 a2 a3 a4 a5 t451 true) else (agoralaw07_ShareDetects.j0 k a0 a1 a2 a3 a4 a5 t451 (decide (a5 ≥ 2305843009213693951))))))))) = some r := H
  have A7 := Aside0.mk A70
  clear A70
  have HC8 := Aside0.mk H
  clear H
  go_enter Try.func7, Try.ntmps7
  go_upto_region 2 with (first | ((with_reducible refine gate_callee (f := 8) rfl ?_); refine goesL_ (some 18) rfl rfl Try.func8 (by kernel_rfl) rfl #[] rfl (by (try simp only [List.map_toArray, List.map_cons, List.map_nil]); first | done | rfl | (simp only [List.length_drop, List.length_take]; rfl)) ?_; (with_reducible refine (agoralaw07_small.calls k  t451 _ A7.out).mono ?_); rintro e w9 ⟨rfl, hb⟩; refine ⟨_, rfl, ?_⟩; have n0_ := Aside0.mk (below_step (by repeat (first | (with_reducible first | exact HB.out | apply below_alloc | apply pw_below_drewN | apply below_drew1) | exact HB.out)) hb); clear HB; have HB := n0_; clear n0_; (try clear hb); (try clear hb2); (try clear hk); (try clear hi)))
  (try simp only [Act.put, List.setIfInBounds_toArray, List.set_cons_zero, List.set_cons_succ])
  go_cut [47] (fun v47 wc => ∃ (kq : Nat) (x47_7 : Bool), v47 = .bool x47_7 ∧ Aside0 (agoralaw07_ShareDetects.j0 kq a0 a1 a2 a3 a4 a5 t451 x47_7 = some r) ∧ Aside0 (kq ≤ k) ∧ Aside0 (Below w.heap.size w wc))
  case first =>
    have H := HC8.out
    clear HC8
    by_cases c10 : (a3.size : Int) > 1000
    · rw [if_pos c10] at H
      have c10b0 : decide (1000 < (a3.size : Int)) = true := decide_eq_true c10
      have c10b1 : decide (1000 < a3.size) = true := decide_eq_true (by omega)
      clear c10
      (first | rw [c10b0] | (simp only [i64_w, i32_w]; rw [c10b0]) | skip)
      have H' := Aside0.mk H
      clear H
      go_wp2
      go_meet
      case rel => exact ⟨_, (true), (by first | rfl | (simp; done) | (simp [*]; done)), H', ⟨by first | omega | exact Nat.le_refl _⟩, ⟨by repeat (first | (with_reducible first | exact HB.out | apply below_alloc | apply pw_below_drewN | apply below_drew1) | exact HB.out)⟩⟩
    · rw [if_neg c10] at H
      have c10b0 : decide (1000 < (a3.size : Int)) = false := decide_eq_false c10
      have c10b1 : decide (1000 < a3.size) = false := decide_eq_false (by omega)
      clear c10
      (first | rw [c10b0] | (simp only [i64_w, i32_w]; rw [c10b0]) | skip)
      by_cases c11 : a2 > 24
      · rw [if_pos c11] at H
        have c11b0 : decide (24 < a2) = true := decide_eq_true c11
        clear c11
        have H' := Aside0.mk H
        clear H
        go_wp2
        go_meet
        case rel => exact ⟨_, (true), (by first | rfl | (simp; done) | (simp [*]; done)), H', ⟨by first | omega | exact Nat.le_refl _⟩, ⟨by repeat (first | (with_reducible first | exact HB.out | apply below_alloc | apply pw_below_drewN | apply below_drew1) | exact HB.out)⟩⟩
      · rw [if_neg c11] at H
        have c11b0 : decide (24 < a2) = false := decide_eq_false c11
        clear c11
        by_cases c12 : a1 ≥ a2
        · rw [if_pos c12] at H
          have c12b0 : decide (a2 ≤ a1) = true := decide_eq_true c12
          clear c12
          have H' := Aside0.mk H
          clear H
          go_wp2
          go_meet
          case rel => exact ⟨_, (true), (by first | rfl | (simp; done) | (simp [*]; done)), H', ⟨by first | omega | exact Nat.le_refl _⟩, ⟨by repeat (first | (with_reducible first | exact HB.out | apply below_alloc | apply pw_below_drewN | apply below_drew1) | exact HB.out)⟩⟩
        · rw [if_neg c12] at H
          have c12b0 : decide (a2 ≤ a1) = false := decide_eq_false c12
          clear c12
          by_cases c13 : a4 < 0
          · rw [if_pos c13] at H
            have c13b0 : decide (a4 < 0) = true := decide_eq_true c13
            clear c13
            have H' := Aside0.mk H
            clear H
            go_wp2
            go_meet
            case rel => exact ⟨_, (true), (by first | rfl | (simp; done) | (simp [*]; done)), H', ⟨by first | omega | exact Nat.le_refl _⟩, ⟨by repeat (first | (with_reducible first | exact HB.out | apply below_alloc | apply pw_below_drewN | apply below_drew1) | exact HB.out)⟩⟩
          · rw [if_neg c13] at H
            have c13b0 : decide (a4 < 0) = false := decide_eq_false c13
            clear c13
            by_cases c14 : a4 ≥ a2
            · rw [if_pos c14] at H
              have c14b0 : decide (a2 ≤ a4) = true := decide_eq_true c14
              clear c14
              have H' := Aside0.mk H
              clear H
              go_wp2
              go_meet
              case rel => exact ⟨_, (true), (by first | rfl | (simp; done) | (simp [*]; done)), H', ⟨by first | omega | exact Nat.le_refl _⟩, ⟨by repeat (first | (with_reducible first | exact HB.out | apply below_alloc | apply pw_below_drewN | apply below_drew1) | exact HB.out)⟩⟩
            · rw [if_neg c14] at H
              have c14b0 : decide (a2 ≤ a4) = false := decide_eq_false c14
              clear c14
              by_cases c15 : a5 < 0
              · rw [if_pos c15] at H
                have c15b0 : decide (a5 < 0) = true := decide_eq_true c15
                clear c15
                have H' := Aside0.mk H
                clear H
                go_wp2
                go_meet
                case rel => exact ⟨_, (true), (by first | rfl | (simp; done) | (simp [*]; done)), H', ⟨by first | omega | exact Nat.le_refl _⟩, ⟨by repeat (first | (with_reducible first | exact HB.out | apply below_alloc | apply pw_below_drewN | apply below_drew1) | exact HB.out)⟩⟩
              · rw [if_neg c15] at H
                have c15b0 : decide (a5 < 0) = false := decide_eq_false c15
                clear c15
                have H' := Aside0.mk H
                clear H
                go_wp2
                go_meet
                case rel => exact ⟨_, (decide (a5 ≥ 2305843009213693951)), (by first | rfl | (simp; done) | (simp [*]; done)), H', ⟨by first | omega | exact Nat.le_refl _⟩, ⟨by repeat (first | (with_reducible first | exact HB.out | apply below_alloc | apply pw_below_drewN | apply below_drew1) | exact HB.out)⟩⟩
  case rest =>
    clear HC8
    try clear c1
    try clear p2
    try clear c7
    try clear c8
    try clear c10
    try clear c10b0
    try clear c10b1
    try clear c11
    try clear c11b0
    try clear c12
    try clear c12b0
    try clear c13
    try clear c13b0
    try clear c14
    try clear c14b0
    try clear c15
    try clear c15b0
    obtain ⟨kq, x47_7, rfl, HA, HJ7, HB⟩ := hcut
    cases kq with
    | zero => exact absurd HA.out (by simp [agoralaw07_ShareDetects.j0])
    | succ kj7 =>
      have H := HA.out
      clear HA
      simp only [agoralaw07_ShareDetects.j0] at H
      by_cases c16 : x47_7 = true
      · subst c16
        have H1 : (some t451) = some r := by rw [if_pos rfl] at H; exact H
        clear H
        have H := H1
        clear H1
        obtain rfl := Option.some.inj H
        go_wp2
        go_ret
        exact ⟨by first | rfl | (simp [errW_none, errW_some] <;> rfl) | (simp [*, errW_none, errW_some] <;> rfl), by repeat (first | (with_reducible first | exact HB.out | apply below_alloc | apply pw_below_drewN | apply below_drew1) | exact HB.out)⟩
      · replace c16 := Bool.eq_false_iff.mpr c16
        subst c16
        have H1 : ((share_Split.f kj7 a0 a1 a2 a3).bind fun bt452 => (if bt452.2 = true then (if (bt452.1.length : Int) = a2 then (if 0 ≤ a4 then (if a4 < (bt452.1.length : Int) then ((some (([] : List (S38)) : List (S38))).bind fun y457 => (if a4 ≤ (bt452.1.length : Int) then ((some (bt452.1.take (a4 : Int).toNat : List (S38))).bind fun y460 => (if y457.length + y460.length < 8796093022208 then ((some (y457 ++ y460 : List (S38))).bind fun y464 => (if 0 ≤ (wrap64 (a4 + 1)) then (if (wrap64 (a4 + 1)) ≤ (bt452.1.length : Int) then ((some (bt452.1.drop ((wrap64 (a4 + 1)) : Int).toNat : List (S38))).bind fun y467 => (if y464.length + y467.length < 8796093022208 then (if t451 = true then ((share_Fits.f kj7 (bt452.1.set (a4 : Int).toNat (⟨(rd_T38 bt452.1 a4).f0, a5⟩ : S38)) a1).bind fun t475 => (if (t475 == (((rd_T38 bt452.1 a4).f1) == a5)) = true then ((share_Fits.f kj7 (y464 ++ y467) a1).bind fun t476 => (some t476)) else (none))) else (none)) else (none))) else (none)) else (none))) else (none))) else (none))) else (none)) else (none)) else (none)) else (some t451))) = some r := by rw [if_neg (show ¬ (false = true) by decide)] at H; exact H
        clear H
        have H := H1
        clear H1
        replace H := Option.bind_eq_some_iff.mp H
        obtain ⟨⟨t452, t453⟩, A170, H⟩ := H
        replace H : (if t453 = true then (if (t452.length : Int) = a2 then (if 0 ≤ a4 then (if a4 < (t452.length : Int) then ((some (([] : List (S38)) : List (S38))).bind fun y457 => (if a4 ≤ (t452.length : Int) then ((some (t452.take (a4 : Int).toNat : List (S38))).bind fun y460 => (if y457.length + y460.length < 8796093022208 then ((some (y457 ++ y460 : List (S38))).bind fun y464 => (if 0 ≤ (wrap64 (a4 + 1)) then (if (wrap64 (a4 + 1)) ≤ (t452.length : Int) then ((some (t452.drop ((wrap64 (a4 + 1)) : Int).toNat : List (S38))).bind fun y467 => (if y464.length + y467.length < 8796093022208 then (if t451 = true then ((share_Fits.f kj7 (t452.set (a4 : Int).toNat (⟨(rd_T38 t452 a4).f0, a5⟩ : S38)) a1).bind fun t475 => (if (t475 == (((rd_T38 t452 a4).f1) == a5)) = true then ((share_Fits.f kj7 (y464 ++ y467) a1).bind fun t476 => (some t476)) else (none))) else (none)) else (none))) else (none)) else (none))) else (none))) else (none))) else (none)) else (none)) else (none)) else (some t451)) = some r := H
        have A17 := Aside0.mk A170
        clear A170
        by_cases c18 : t453 = true
        · subst c18
          have H1 : (if (t452.length : Int) = a2 then (if 0 ≤ a4 then (if a4 < (t452.length : Int) then ((some (([] : List (S38)) : List (S38))).bind fun y457 => (if a4 ≤ (t452.length : Int) then ((some (t452.take (a4 : Int).toNat : List (S38))).bind fun y460 => (if y457.length + y460.length < 8796093022208 then ((some (y457 ++ y460 : List (S38))).bind fun y464 => (if 0 ≤ (wrap64 (a4 + 1)) then (if (wrap64 (a4 + 1)) ≤ (t452.length : Int) then ((some (t452.drop ((wrap64 (a4 + 1)) : Int).toNat : List (S38))).bind fun y467 => (if y464.length + y467.length < 8796093022208 then (if t451 = true then ((share_Fits.f kj7 (t452.set (a4 : Int).toNat (⟨(rd_T38 t452 a4).f0, a5⟩ : S38)) a1).bind fun t475 => (if (t475 == (((rd_T38 t452 a4).f1) == a5)) = true then ((share_Fits.f kj7 (y464 ++ y467) a1).bind fun t476 => (some t476)) else (none))) else (none)) else (none))) else (none)) else (none))) else (none))) else (none))) else (none)) else (none)) else (none)) = some r := by rw [if_pos rfl] at H; exact H
          clear H
          have H := H1
          clear H1
          by_cases c19 : (t452.length : Int) = a2
          · rw [if_pos c19] at H
            have c19b0 : ((t452.length : Int) == a2) = true := beq_iff_eq.mpr c19
            have c19b1 : ((t452.length : Int) != a2) = false := bne_eq_false_iff_eq.mpr c19
            clear c19
            by_cases c20 : 0 ≤ a4
            · rw [if_pos c20] at H
              have c20b0 : decide (0 ≤ a4) = true := decide_eq_true c20
              clear c20
              by_cases c21 : a4 < (t452.length : Int)
              · rw [if_pos c21] at H
                have c21b0 : decide (a4 < (t452.length : Int)) = true := decide_eq_true c21
                clear c21
                obtain ⟨y457, hy457⟩ : ∃ y_ : List (S38), y_ = (([] : List (S38))) := ⟨_, rfl⟩
                replace H : (if a4 ≤ (t452.length : Int) then ((some (t452.take (a4 : Int).toNat : List (S38))).bind fun y460 => (if y457.length + y460.length < 8796093022208 then ((some (y457 ++ y460 : List (S38))).bind fun y464 => (if 0 ≤ (wrap64 (a4 + 1)) then (if (wrap64 (a4 + 1)) ≤ (t452.length : Int) then ((some (t452.drop ((wrap64 (a4 + 1)) : Int).toNat : List (S38))).bind fun y467 => (if y464.length + y467.length < 8796093022208 then (if t451 = true then ((share_Fits.f kj7 (t452.set (a4 : Int).toNat (⟨(rd_T38 t452 a4).f0, a5⟩ : S38)) a1).bind fun t475 => (if (t475 == (((rd_T38 t452 a4).f1) == a5)) = true then ((share_Fits.f kj7 (y464 ++ y467) a1).bind fun t476 => (some t476)) else (none))) else (none)) else (none))) else (none)) else (none))) else (none))) else (none)) = some r := by first | (rw [hy457]; with_reducible exact H) | (have H2_ := (Option.bind_some _ _).symm.trans H; rw [hy457]; with_reducible exact H2_) | (have H2_ := (Option.bind_some _ _).symm.trans H; with_reducible exact H2_) | with_reducible exact H | (rw [hy457]; exact H) | exact H
                have Ny457 := Aside0.mk hy457
                clear hy457
                have c22b0 := eq_true (of_decide_eq_true (by first | (with_reducible assumption) | assumption) : 0 ≤ a4)
                by_cases c23 : a4 ≤ (t452.length : Int)
                · rw [if_pos c23] at H
                  have c23b0 := eq_true c23
                  have c23b1 : decide (a4 ≤ (t452.length : Int)) = true := decide_eq_true c23
                  clear c23
                  obtain ⟨y460, hy460⟩ : ∃ y_ : List (S38), y_ = (t452.take (a4 : Int).toNat) := ⟨_, rfl⟩
                  replace H : (if y457.length + y460.length < 8796093022208 then ((some (y457 ++ y460 : List (S38))).bind fun y464 => (if 0 ≤ (wrap64 (a4 + 1)) then (if (wrap64 (a4 + 1)) ≤ (t452.length : Int) then ((some (t452.drop ((wrap64 (a4 + 1)) : Int).toNat : List (S38))).bind fun y467 => (if y464.length + y467.length < 8796093022208 then (if t451 = true then ((share_Fits.f kj7 (t452.set (a4 : Int).toNat (⟨(rd_T38 t452 a4).f0, a5⟩ : S38)) a1).bind fun t475 => (if (t475 == (((rd_T38 t452 a4).f1) == a5)) = true then ((share_Fits.f kj7 (y464 ++ y467) a1).bind fun t476 => (some t476)) else (none))) else (none)) else (none))) else (none)) else (none))) else (none)) = some r := by first | (rw [hy460]; with_reducible exact H) | (have H2_ := (Option.bind_some _ _).symm.trans H; rw [hy460]; with_reducible exact H2_) | (have H2_ := (Option.bind_some _ _).symm.trans H; with_reducible exact H2_) | with_reducible exact H | (rw [hy460]; exact H) | exact H
                  have Ny460 := Aside0.mk hy460
                  clear hy460
                  by_cases c24 : y457.length + y460.length < 8796093022208
                  · rw [if_pos c24] at H
                    have LMc24 := Aside0.mk c24
                    clear c24
                    obtain ⟨y464, hy464⟩ : ∃ y_ : List (S38), y_ = (y457 ++ y460) := ⟨_, rfl⟩
                    replace H : (if 0 ≤ (wrap64 (a4 + 1)) then (if (wrap64 (a4 + 1)) ≤ (t452.length : Int) then ((some (t452.drop ((wrap64 (a4 + 1)) : Int).toNat : List (S38))).bind fun y467 => (if y464.length + y467.length < 8796093022208 then (if t451 = true then ((share_Fits.f kj7 (t452.set (a4 : Int).toNat (⟨(rd_T38 t452 a4).f0, a5⟩ : S38)) a1).bind fun t475 => (if (t475 == (((rd_T38 t452 a4).f1) == a5)) = true then ((share_Fits.f kj7 (y464 ++ y467) a1).bind fun t476 => (some t476)) else (none))) else (none)) else (none))) else (none)) else (none)) = some r := by first | (rw [hy464]; with_reducible exact H) | (have H2_ := (Option.bind_some _ _).symm.trans H; rw [hy464]; with_reducible exact H2_) | (have H2_ := (Option.bind_some _ _).symm.trans H; with_reducible exact H2_) | with_reducible exact H | (rw [hy464]; exact H) | exact H
                    have Ny464 := Aside0.mk hy464
                    clear hy464
                    obtain ⟨ji25, hji25⟩ : ∃ j_ : Int, (wrap64 (a4 + 1)) = j_ := ⟨_, rfl⟩
                    replace H : (if 0 ≤ (ji25) then (if (ji25) ≤ (t452.length : Int) then ((some (t452.drop ((ji25) : Int).toNat : List (S38))).bind fun y467 => (if y464.length + y467.length < 8796093022208 then (if t451 = true then ((share_Fits.f kj7 (t452.set (a4 : Int).toNat (⟨(rd_T38 t452 a4).f0, a5⟩ : S38)) a1).bind fun t475 => (if (t475 == (((rd_T38 t452 a4).f1) == a5)) = true then ((share_Fits.f kj7 (y464 ++ y467) a1).bind fun t476 => (some t476)) else (none))) else (none)) else (none))) else (none)) else (none)) = some r := by first | (rw [hji25] at H; exact H) | (simp only [hji25] at H ⊢; exact H)
                    (try rw [hji25] at A17)
                    have hji25w : (IntKind.i64.wrap (a4 + 1)) = ji25 := (i64_w _).trans hji25
                    by_cases c26 : 0 ≤ (ji25)
                    · rw [if_pos c26] at H
                      have c26b0 := eq_true c26
                      have c26b1 : decide (0 ≤ (ji25)) = true := decide_eq_true c26
                      clear c26
                      by_cases c27 : (ji25) ≤ (t452.length : Int)
                      · rw [if_pos c27] at H
                        have c27b0 := eq_true c27
                        have c27b1 : decide ((ji25) ≤ (t452.length : Int)) = true := decide_eq_true c27
                        clear c27
                        obtain ⟨y467, hy467⟩ : ∃ y_ : List (S38), y_ = (t452.drop ((ji25) : Int).toNat) := ⟨_, rfl⟩
                        replace H : (if y464.length + y467.length < 8796093022208 then (if t451 = true then ((share_Fits.f kj7 (t452.set (a4 : Int).toNat (⟨(rd_T38 t452 a4).f0, a5⟩ : S38)) a1).bind fun t475 => (if (t475 == (((rd_T38 t452 a4).f1) == a5)) = true then ((share_Fits.f kj7 (y464 ++ y467) a1).bind fun t476 => (some t476)) else (none))) else (none)) else (none)) = some r := by first | (rw [hy467]; with_reducible exact H) | (have H2_ := (Option.bind_some _ _).symm.trans H; rw [hy467]; with_reducible exact H2_) | (have H2_ := (Option.bind_some _ _).symm.trans H; with_reducible exact H2_) | with_reducible exact H | (rw [hy467]; exact H) | exact H
                        have Ny467 := Aside0.mk hy467
                        clear hy467
                        by_cases c28 : y464.length + y467.length < 8796093022208
                        · rw [if_pos c28] at H
                          have LMc28 := Aside0.mk c28
                          clear c28
                          obtain ⟨y471, hy471⟩ : ∃ y_ : List (S38), y_ = (y464 ++ y467) := ⟨_, rfl⟩
                          replace H : (if t451 = true then ((share_Fits.f kj7 (t452.set (a4 : Int).toNat (⟨(rd_T38 t452 a4).f0, a5⟩ : S38)) a1).bind fun t475 => (if (t475 == (((rd_T38 t452 a4).f1) == a5)) = true then ((share_Fits.f kj7 y471 a1).bind fun t476 => (some t476)) else (none))) else (none)) = some r := by first | (rw [hy471]; with_reducible exact H) | (have H2_ := (Option.bind_some _ _).symm.trans H; rw [hy471]; with_reducible exact H2_) | (have H2_ := (Option.bind_some _ _).symm.trans H; with_reducible exact H2_) | with_reducible exact H | (rw [hy471]; exact H) | exact H
                          have Ny471 := Aside0.mk hy471
                          clear hy471
                          obtain ⟨y474, hy474⟩ : ∃ y_ : List (S38), y_ = (t452.set (a4 : Int).toNat (⟨(rd_T38 t452 a4).f0, a5⟩ : S38)) := ⟨_, rfl⟩
                          replace H : (if t451 = true then ((share_Fits.f kj7 y474 a1).bind fun t475 => (if (t475 == (((rd_T38 t452 a4).f1) == a5)) = true then ((share_Fits.f kj7 y471 a1).bind fun t476 => (some t476)) else (none))) else (none)) = some r := by first | (rw [hy474]; with_reducible exact H) | (have H2_ := (Option.bind_some _ _).symm.trans H; rw [hy474]; with_reducible exact H2_) | (have H2_ := (Option.bind_some _ _).symm.trans H; with_reducible exact H2_) | with_reducible exact H | (rw [hy474]; exact H) | exact H
                          have Ny474 := Aside0.mk hy474
                          clear hy474
                          by_cases c30 : t451 = true
                          · subst c30
                            have H1 : ((share_Fits.f kj7 y474 a1).bind fun t475 => (if (t475 == (((rd_T38 t452 a4).f1) == a5)) = true then ((share_Fits.f kj7 y471 a1).bind fun t476 => (some t476)) else (none))) = some r := by rw [if_pos rfl] at H; exact H
                            clear H
                            have H := H1
                            clear H1
                            replace H := Option.bind_eq_some_iff.mp H
                            obtain ⟨t475, A310, H⟩ := H
                            replace H : (if (t475 == (((rd_T38 t452 a4).f1) == a5)) = true then ((share_Fits.f kj7 y471 a1).bind fun t476 => (some t476)) else (none)) = some r := H
                            have A31 := Aside0.mk A310
                            clear A310
                            by_cases c32 : (t475 == (((rd_T38 t452 a4).f1) == a5)) = true
                            · rw [if_pos c32] at H
                              have c32b0 : (t475 == (((rd_T38 t452 a4).f1) == a5)) = true := c32
                              (try (have c32b1 : decide (t475 = (((rd_T38 t452 a4).f1) == a5)) = true := by simpa using c32))
                              (try (have c32b2 : (t475 == (((rd_T38 t452 a4).f1) == a5)) = true := by simpa using c32))
                              clear c32
                              replace H := Option.bind_eq_some_iff.mp H
                              obtain ⟨t476, A330, H⟩ := H
                              replace H : (some t476) = some r := H
                              have A33 := Aside0.mk A330
                              clear A330
                              obtain rfl := Option.some.inj H
                              try go_wp2_with (first | ((with_reducible refine gate_callee (f := 9) rfl ?_); refine goesL_ (some 54) rfl rfl Try.func9 (by kernel_rfl) rfl #[.int .i64 a0, .int .i64 a1, .int .i64 a2, .string a3] rfl (by (try simp only [List.map_toArray, List.map_cons, List.map_nil]); first | done | rfl | (simp only [List.length_drop, List.length_take]; rfl)) ?_; (with_reducible refine (share_Split.calls kj7 a0 a1 a2 a3 t452 true _ A17.out).mono ?_); rintro e w34 ⟨v454, rfl, ho0, hb⟩; refine ⟨_, rfl, ?_⟩; have n0_ := Aside0.mk (Kd.R_lower ho0 (below_size (by repeat (first | (with_reducible first | exact HB.out | apply below_alloc | apply pw_below_drewN | apply below_drew1) | exact HB.out)))); have n1_ := Aside0.mk (below_step (by repeat (first | (with_reducible first | exact HB.out | apply below_alloc | apply pw_below_drewN | apply below_drew1) | exact HB.out)) hb); clear HB; have HO455 := n0_; have HB := n1_; clear n0_ n1_; (try clear hb); (try clear hb2); (try clear hk); (try clear hi); (try clear ho0); obtain ⟨Ao35, co35, eo35⟩ := Kd.R_slice HO455.out; subst eo35; have p456 : 0 ≤ (a4 : Int) := of_decide_eq_true (by first | (with_reducible assumption) | assumption); have q456 : a4 < (t452.length : Int) := of_decide_eq_true (by first | (with_reducible assumption) | assumption); obtain ⟨ad456, e456, hx456_0, hx456_1⟩ := at_T38 (Kd.R_reads' HO455.out).2.2 a4 p456 q456; cases e456; replace p456 := eq_true p456; replace q456 := eq_true q456))
                              have n0_ := Aside0.mk (Kd.R_drew HO455.out)
                              have n1_ := Aside0.mk (below_drew1 HB.out)
                              clear HO455
                              clear HB
                              have HO455 := n0_
                              have HB := n1_
                              clear n0_ n1_
                              have q37 : (a4 : Int) ≤ ((t452.length : Int) : Int) := of_decide_eq_true (by first | (with_reducible assumption) | assumption)
                              obtain ⟨i037, hi037, _, hsz37, _⟩ := info_parts info38
                              have hroom37 : t452.length ≤ co35 := (Kd.R_reads' HO455.out).2.1
                              have hC37 : Kd.C k38 _ (some ad456) t452.length t452 := (Kd.R_reads' HO455.out).2.2
                              have hcut37 := cut_to (P := Try.prog) 22 38 .i64 Try.underlying22 hi037 (some ad456) t452.length co35 a4 (of_decide_eq_true (by first | (with_reducible assumption) | assumption)) q37 hroom37
                              have hr37 := Kd.C_take (m := (a4 : Int).toNat) hC37 (by omega)
                              have hy37 : y460.length = (a4 : Int).toNat := (by rw [Ny460.out, List.length_take]; omega)
                              rw [← Ny460.out] at hr37
                              rw [← hy37] at hcut37
                              have HR463 := Aside0.mk hr37
                              have HC463 := Aside0.mk (show y460.length ≤ co35 from by omega)
                              clear hr37 hC37 hroom37 hi037 hsz37
                              have KY37 := Aside0.mk hy37
                              clear hy37
                              have KL37 := Aside0.mk (show (a4 : Int).toNat ≤ t452.length from by omega)
                              replace q37 := eq_true q37
                              have q38 : ((ji25) : Int) ≤ ((t452.length : Int) : Int) := of_decide_eq_true (by first | (with_reducible assumption) | assumption)
                              obtain ⟨i038, hi038, _, hsz38, _⟩ := info_parts info38
                              have hroom38 : t452.length ≤ co35 := (Kd.R_reads' HO455.out).2.1
                              have hC38 : Kd.C k38 _ (some ad456) t452.length t452 := (Kd.R_reads' HO455.out).2.2
                              have q038 : (0 : Int) ≤ ((ji25) : Int) := of_decide_eq_true (by first | (with_reducible assumption) | assumption)
                              have hcut38 := cut_from (P := Try.prog) 22 38 .i64 Try.underlying22 hi038 2 hsz38 (some ad456) t452.length co35 (ji25) q038 q38
                              have hr38 := Kd.C_drop (m := ((ji25) : Int).toNat) (c := co35) hC38 (by omega) hroom38
                              obtain ⟨A38, hA38⟩ : ∃ A1, A1 = (if co35 = ((ji25) : Int).toNat then (some ad456) else ((some ad456) : Option Addr).map (·.add (((ji25) : Int).toNat * 2))) := ⟨_, rfl⟩
                              obtain ⟨c38, hc38⟩ : ∃ c1, c1 = co35 - ((ji25) : Int).toNat := ⟨_, rfl⟩
                              have hy38 : y467.length = t452.length - ((ji25) : Int).toNat := (by rw [Ny467.out, List.length_drop] <;> omega)
                              rw [show (t452).drop ((ji25) : Int).toNat = y467 from Ny467.out.symm] at hr38
                              replace hr38 : Kd.C k38 _ A38 y467.length y467 := (by rw [hA38]; exact hr38)
                              rw [← hy38, ← hA38, ← hc38] at hcut38
                              have HR470 := Aside0.mk hr38
                              have HC470 := Aside0.mk (show y467.length ≤ c38 from by rw [hy38, hc38]; exact Nat.sub_le_sub_right hroom38 _)
                              clear hr38 hC38 hroom38 hi038 hsz38 hc38
                              have KY38 := Aside0.mk hy38
                              have KA38 := Aside0.mk hA38
                              clear hy38 hA38
                              have KL38 := Aside0.mk (show ((ji25) : Int).toNat ≤ t452.length from by omega)
                              replace q38 := eq_true q38
                              refine start_ (n := 11) (S := fun w' => True) (ds := []) #[false, false, false, false, false, false, false, false, false, false, false] (by kernel_rfl) rfl rfl trivial (fun hHeld => ?_); refine with_tabW agoralaw07_ShareDetects.tab10 agoralaw07_ShareDetects.bits10 (fun HT_ HW_ => ?_)
                              generalize w34.drew = w36 at HO455 HB HR463 HR470 hHeld ⊢
                              refine pure_ (i := 1) (N := some 72) (v := ?_) (a' := ?_) #[false, true, false, false, false, false, false, false, false, false, false] rfl rfl (any_of HT_.out (by kernel_rfl)) (fun _ _ _ h => h) (Or.inl ⟨by rfl, ?_⟩) ?_ ?_
                              rotate_left
                              · intro w'
                                go_simp
                                with_reducible rfl
                              rotate_left
                              · simp only [Act.put, List.setIfInBounds_toArray, List.set_cons_zero, List.set_cons_succ, i64_w, i32_w]
                                rfl
                              refine pure_ (i := 2) (N := some 73) (v := ?_) (a' := ?_) #[false, true, true, false, false, false, false, false, false, false, false] rfl rfl (any_of HT_.out (by kernel_rfl)) (fun _ _ _ h => h) (Or.inl ⟨by rfl, ?_⟩) ?_ ?_
                              rotate_left
                              · intro w'
                                go_simp
                                with_reducible rfl
                              rotate_left
                              · simp only [Act.put, List.setIfInBounds_toArray, List.set_cons_zero, List.set_cons_succ, i64_w, i32_w]
                                rfl
                              refine pure_ (i := 3) (N := some 74) (v := ?_) (a' := ?_) #[false, true, true, true, false, false, false, false, false, false, false] rfl rfl (any_of HT_.out (by kernel_rfl)) (fun _ _ _ h => h) (Or.inl ⟨by rfl, ?_⟩) ?_ ?_
                              rotate_left
                              · intro w'
                                go_simp
                                with_reducible rfl
                              rotate_left
                              · simp only [Act.put, List.setIfInBounds_toArray, List.set_cons_zero, List.set_cons_succ, i64_w, i32_w]
                                rfl
                              refine pure_ (i := 5) (N := some 76) (v := ?_) (a' := ?_) #[false, true, true, true, false, true, false, false, false, false, false] rfl rfl (any_of HT_.out (by kernel_rfl)) (fun _ _ _ h => h) (Or.inl ⟨by rfl, ?_⟩) ?_ ?_
                              rotate_left
                              · intro w'
                                go_simp
                                with_reducible rfl
                              rotate_left
                              · simp only [Act.put, List.setIfInBounds_toArray, List.set_cons_zero, List.set_cons_succ, i64_w, i32_w]
                                rfl
                              refine pure_ (i := 6) (N := some 77) (v := ?_) (a' := ?_) #[false, true, true, true, false, true, true, false, false, false, false] rfl rfl (any_of HT_.out (by kernel_rfl)) (fun _ _ _ h => h) (Or.inl ⟨by rfl, ?_⟩) ?_ ?_
                              rotate_left
                              · intro w'
                                go_simp
                                with_reducible rfl
                              rotate_left
                              · simp only [Act.put, List.setIfInBounds_toArray, List.set_cons_zero, List.set_cons_succ, i64_w, i32_w]
                                rfl
                              refine pure_ (i := 7) (N := some 78) (v := ?_) (a' := ?_) #[false, true, true, true, false, true, true, true, false, false, false] rfl rfl (any_of HT_.out (by kernel_rfl)) (fun _ _ _ h => h) (Or.inl ⟨by rfl, ?_⟩) ?_ ?_
                              rotate_left
                              · intro w'
                                go_simp
                                with_reducible rfl
                              rotate_left
                              · simp only [Act.put, List.setIfInBounds_toArray, List.set_cons_zero, List.set_cons_succ, i64_w, i32_w]
                                rfl
                              refine pure_ (i := 8) (N := some 79) (v := ?_) (a' := ?_) #[false, true, true, true, false, true, true, true, true, false, false] rfl rfl (any_of HT_.out (by kernel_rfl)) (fun _ _ _ h => h) (Or.inl ⟨by rfl, ?_⟩) ?_ ?_
                              rotate_left
                              · intro w'
                                go_simp
                                with_reducible rfl
                              rotate_left
                              · simp only [Act.put, List.setIfInBounds_toArray, List.set_cons_zero, List.set_cons_succ, i64_w, i32_w]
                                rfl
                              refine one_ (i := 0) (N := some 71) #[true, true, true, true, false, true, true, true, true, false, false] rfl rfl (one_of HT_.out (by kernel_rfl)) (by decide) (fun K hK => ?_)
                              refine Kd.R_lit_step k38 _ 38 ?hg (N := 71) ?hd (xs := ([] : List (S38))) (inner := []) (ok := fun _ => True) (okp := fun _ => True) ?hr ?hp (fun _ hk => hk) trivial (Below.refl _ _) (Nat.le_refl _) (by simp) ?_; (case hd => rfl); (case hg => rfl); (case hr => first | (go_simp; done) | (go_simp; rfl) | (go_simp; simp only [IntKind.wrap_u32', Int.emod_add_emod, Int.add_emod_emod])); (case hp => exact (Reps.none _ _))
                              intro v458 w39 ho40 hb hg_ hnew_
                              clear hg_ hnew_
                              (first | rw [← Ny457.out] at ho40 | (simp only [Int.reduceToNat] at ho40; rw [← Ny457.out] at ho40))
                              have n0_ := Aside0.mk (Kd.R_elder' (by (with_reducible repeat (first | apply Kd.R_alloc | apply Kd.R_drewN | apply Kd.R_drew)); exact HO455.out) (Kd.R_base ho40) hb)
                              have n1_ := Aside0.mk (Kd.R_lower (Kd.R_new' ho40 (Kd.R_lt (by (with_reducible repeat (first | apply Kd.R_alloc | apply Kd.R_drewN | apply Kd.R_drew)); exact HO455.out))) (below_size (by repeat (first | (with_reducible first | exact HB.out | apply below_alloc | apply pw_below_drewN | apply below_drew1) | exact HB.out))))
                              have n2_ := Aside0.mk (Kd.C_below (by repeat (first | (with_reducible exact HR463.out) | (with_reducible refine Kd.C_alloc ?_ _) | (with_reducible refine Kd.C_drewN ?_ _) | (with_reducible refine Kd.C_drew ?_) | exact HR463.out)) hb)
                              have n3_ := Aside0.mk (Kd.C_below (by repeat (first | (with_reducible exact HR470.out) | (with_reducible refine Kd.C_alloc ?_ _) | (with_reducible refine Kd.C_drewN ?_ _) | (with_reducible refine Kd.C_drew ?_) | exact HR470.out)) hb)
                              have n4_ := Aside0.mk (below_step (by repeat (first | (with_reducible first | exact HB.out | apply below_alloc | apply pw_below_drewN | apply below_drew1) | exact HB.out)) hb)
                              clear HO455
                              clear HR463
                              clear HR470
                              clear HB
                              have HO455 := n0_
                              have HO459 := n1_
                              have HR463 := n2_
                              have HR470 := n3_
                              have HB := n4_
                              clear n0_ n1_ n2_ n3_ n4_
                              clear hb ho40
                              refine hK.out _ _ trivial (fun hHeld => ?_)
                              clear hK K
                              refine norm_ (a' := ?_) ?_ ?_
                              rotate_left
                              · show Act.put _ (some 71) _ = _
                                simp only [Act.put, List.setIfInBounds_toArray, List.set_cons_zero, List.set_cons_succ, i64_w, i32_w]
                                rfl
                              refine one_ (i := 4) (N := some 75) #[true, true, true, true, true, true, true, true, true, false, false] rfl rfl (one_of HT_.out (by kernel_rfl)) (by decide) (fun K hK => ?_)
                              refine Kd.R_append_rows_step k38 (w0 := w) w.heap.size (by rfl) (.tmp 71) (.tmp 74) 22 38 (.agg #[(.int .i64 0), (.int .i64 0)]) 16 rfl Try.underlying22 info38 rfl (by decide) (by omega) v458 y457 y460 _ _ _ (fun k_ => some k_ ≠ (.slice (some ad456) t452.length co35 : Value).ownBlock) (fun _ => False) rfl rfl ?aO ?aR (fun _ _ h => h) (fun _ h => h.elim) ?aF ?aB ?aS ?aL ?_
                              (case aR => repeat (first | exact (by repeat (first | (with_reducible exact HR463.out) | (with_reducible refine Kd.C_alloc ?_ _) | (with_reducible refine Kd.C_drewN ?_ _) | (with_reducible refine Kd.C_drew ?_) | exact HR463.out)) | (with_reducible refine Kd.C_alloc ?_ _) | (with_reducible refine Kd.C_drewN ?_ _) | (with_reducible refine Kd.C_drew ?_)))
                              (case aB => exact (by repeat (first | (with_reducible first | exact HB.out | apply below_alloc | apply pw_below_drewN | apply below_drew1) | exact HB.out)))
                              (case aF => exact (fun k_ hk => Kd.fresh' (Kd.R_lt (by (with_reducible repeat (first | apply Kd.R_alloc | apply Kd.R_drewN | apply Kd.R_drew)); exact HO455.out)) k_ hk))
                              (case aO => exact (by (with_reducible repeat (first | apply Kd.R_alloc | apply Kd.R_drewN | apply Kd.R_drew)); exact Kd.R_mono HO459.out (fun _ hk => hk.2)))
                              (case aS => exact (below_size (by repeat (first | (with_reducible first | exact HB.out | apply below_alloc | apply pw_below_drewN | apply below_drew1) | exact HB.out))))
                              (case aL => have := LMc24.out; omega)
                              intro v465 w41 ho hb hg hat
                              rw [← Ny464.out] at ho
                              have n0_ := Aside0.mk (Kd.R_after (ok := (fun _ => True)) (by (with_reducible repeat (first | apply Kd.R_alloc | apply Kd.R_drewN | apply Kd.R_drew)); exact HO455.out) hg hat)
                              have n1_ := Aside0.mk (hb)
                              have n2_ := Aside0.mk ((show Kd.C k38 w41 (some ad456) y460.length y460 from by rw [Ny460.out]; exact Kd.C_take (m := (a4 : Int).toNat) ((Kd.R_reads' (Kd.R_after (ok := (fun _ => True)) (by (with_reducible repeat (first | apply Kd.R_alloc | apply Kd.R_drewN | apply Kd.R_drew)); exact HO455.out) hg hat)).2.2) KL37.out))
                              have n3_ := Aside0.mk ((show Kd.C k38 w41 A38 y467.length y467 from by rw [Ny467.out, KA38.out]; exact Kd.C_drop (m := ((ji25) : Int).toNat) (c := co35) ((Kd.R_reads' (Kd.R_after (ok := (fun _ => True)) (by (with_reducible repeat (first | apply Kd.R_alloc | apply Kd.R_drewN | apply Kd.R_drew)); exact HO455.out) hg hat)).2.2) KL38.out ((Kd.R_reads' (Kd.R_after (ok := (fun _ => True)) (by (with_reducible repeat (first | apply Kd.R_alloc | apply Kd.R_drewN | apply Kd.R_drew)); exact HO455.out) hg hat)).2.1)))
                              have n4_ := Aside0.mk (ho)
                              clear HO455
                              clear HB
                              clear HR463
                              clear HR470
                              clear HO459
                              have HO455 := n0_
                              have HB := n1_
                              have HR463 := n2_
                              have HR470 := n3_
                              have HO466 := n4_
                              clear n0_ n1_ n2_ n3_ n4_
                              clear ho hb hg hat
                              refine hK.out _ _ trivial (fun hHeld => ?_)
                              clear hK K
                              refine norm_ (a' := ?_) ?_ ?_
                              rotate_left
                              · show Act.put _ (some 75) _ = _
                                simp only [Act.put, List.setIfInBounds_toArray, List.set_cons_zero, List.set_cons_succ, i64_w, i32_w]
                                rfl
                              refine one_ (i := 9) (N := some 80) #[true, true, true, true, true, true, true, true, true, true, false] rfl rfl (one_of HT_.out (by kernel_rfl)) (by decide) (fun K hK => ?_)
                              refine Kd.R_append_rows_step k38 (w0 := w) w.heap.size (by rfl) (.tmp 75) (.tmp 79) 22 38 (.agg #[(.int .i64 0), (.int .i64 0)]) 16 rfl Try.underlying22 info38 rfl (by decide) (by omega) v465 y464 y467 _ _ _ (fun k_ => some k_ ≠ (.slice (some ad456) t452.length co35 : Value).ownBlock) (fun _ => False) rfl rfl ?aO ?aR (fun _ _ h => h) (fun _ h => h.elim) ?aF ?aB ?aS ?aL ?_
                              (case aR => repeat (first | exact (by repeat (first | (with_reducible exact HR470.out) | (with_reducible refine Kd.C_alloc ?_ _) | (with_reducible refine Kd.C_drewN ?_ _) | (with_reducible refine Kd.C_drew ?_) | exact HR470.out)) | (with_reducible refine Kd.C_alloc ?_ _) | (with_reducible refine Kd.C_drewN ?_ _) | (with_reducible refine Kd.C_drew ?_)))
                              (case aB => exact (by repeat (first | (with_reducible first | exact HB.out | apply below_alloc | apply pw_below_drewN | apply below_drew1) | exact HB.out)))
                              (case aF => exact (fun k_ hk => Kd.fresh' (Kd.R_lt (by (with_reducible repeat (first | apply Kd.R_alloc | apply Kd.R_drewN | apply Kd.R_drew)); exact HO455.out)) k_ hk))
                              (case aO => exact (by (with_reducible repeat (first | apply Kd.R_alloc | apply Kd.R_drewN | apply Kd.R_drew)); exact HO466.out))
                              (case aS => exact (below_size (by repeat (first | (with_reducible first | exact HB.out | apply below_alloc | apply pw_below_drewN | apply below_drew1) | exact HB.out))))
                              (case aL => have := LMc28.out; omega)
                              intro v472 w42 ho hb hg hat
                              rw [← Ny471.out] at ho
                              have n0_ := Aside0.mk (Kd.R_after (ok := (fun _ => True)) (by (with_reducible repeat (first | apply Kd.R_alloc | apply Kd.R_drewN | apply Kd.R_drew)); exact HO455.out) hg hat)
                              have n1_ := Aside0.mk (hb)
                              have n2_ := Aside0.mk ((show Kd.C k38 w42 (some ad456) y460.length y460 from by rw [Ny460.out]; exact Kd.C_take (m := (a4 : Int).toNat) ((Kd.R_reads' (Kd.R_after (ok := (fun _ => True)) (by (with_reducible repeat (first | apply Kd.R_alloc | apply Kd.R_drewN | apply Kd.R_drew)); exact HO455.out) hg hat)).2.2) KL37.out))
                              have n3_ := Aside0.mk ((show Kd.C k38 w42 A38 y467.length y467 from by rw [Ny467.out, KA38.out]; exact Kd.C_drop (m := ((ji25) : Int).toNat) (c := co35) ((Kd.R_reads' (Kd.R_after (ok := (fun _ => True)) (by (with_reducible repeat (first | apply Kd.R_alloc | apply Kd.R_drewN | apply Kd.R_drew)); exact HO455.out) hg hat)).2.2) KL38.out ((Kd.R_reads' (Kd.R_after (ok := (fun _ => True)) (by (with_reducible repeat (first | apply Kd.R_alloc | apply Kd.R_drewN | apply Kd.R_drew)); exact HO455.out) hg hat)).2.1)))
                              have n4_ := Aside0.mk (ho)
                              clear HO455
                              clear HB
                              clear HR463
                              clear HR470
                              clear HO466
                              have HO455 := n0_
                              have HB := n1_
                              have HR463 := n2_
                              have HR470 := n3_
                              have HO473 := n4_
                              clear n0_ n1_ n2_ n3_ n4_
                              clear ho hb hg hat
                              refine hK.out _ _ trivial (fun hHeld => ?_)
                              clear hK K
                              refine norm_ (a' := ?_) ?_ ?_
                              rotate_left
                              · show Act.put _ (some 80) _ = _
                                simp only [Act.put, List.setIfInBounds_toArray, List.set_cons_zero, List.set_cons_succ, i64_w, i32_w]
                                rfl
                              refine pure_ (i := 10) (N := some 17) (v := ?_) (a' := ?_) #[true, true, true, true, true, true, true, true, true, true, true] rfl rfl (any_of HT_.out (by kernel_rfl)) (fun _ _ _ h => h) (Or.inl ⟨by rfl, ?_⟩) ?_ ?_
                              rotate_left
                              · intro w'
                                go_simp
                                with_reducible rfl
                              rotate_left
                              · simp only [Act.put, List.setIfInBounds_toArray, List.set_cons_zero, List.set_cons_succ, i64_w, i32_w]
                                rfl
                              refine done_ (done_of HT_.out (by kernel_rfl)) ?_
                              have p29 : 0 ≤ (a4 : Int) := of_decide_eq_true (by first | (with_reducible assumption) | assumption)
                              have q29 : (a4 : Int) < ((t452.length : Int) : Int) := of_decide_eq_true (by first | (with_reducible assumption) | assumption)
                              obtain ⟨go29, co29, eo29, gb29, gl29, cl29, HG29⟩ := Kd.R_form HO455.out (by omega)
                              (first | cases eo29 | (injection eo29 with ea_ en_ ec_; (first | subst ea_ | (injection ea_ with ea_; subst ea_)); subst ec_; clear en_))
                              have GB29 := Aside0.mk gb29
                              have GG29 := Aside0.mk HG29
                              clear gb29 gl29 HG29
                              (first | simp only [add_plain] at hx456_0 | skip)
                              (first | simp only [add_plain] at hx456_1 | skip)
                              obtain ⟨ce29, hcl29, hM29, hcc29, hfr29⟩ := Kd.R_elem HO455.out z38 (a4 : Int) p29 q29
                              obtain rfl := k38_openM hM29
                              have hx29_0 : w42.cell? ⟨go29, (a4 : Int).toNat * 2, none⟩ = some (.int .i64 ((rd_T38 t452 a4).f0)) := hcc29 0 _ rfl
                              have hx29_1 : w42.cell? ⟨go29, (a4 : Int).toNat * 2 + 1, none⟩ = some (.int .i64 ((rd_T38 t452 a4).f1)) := hcc29 1 _ rfl
                              have hf29_0 : w42.frozen? ⟨go29, (a4 : Int).toNat * 2, none⟩ = false := hfr29 0
                              have hf29_1 : w42.frozen? ⟨go29, (a4 : Int).toNat * 2 + 1, none⟩ = false := hfr29 1
                              clear hcl29 hcc29 hfr29 hM29
                              replace p29 := eq_true p29
                              replace q29 := eq_true q29
                              have n_ := Aside0.mk (Kd.R_mono (ok' := (fun k_ => some k_ ≠ (v472 : Value).ownBlock)) HO455.out (fun k_ hk => hk.2))
                              clear HO455
                              have HO455 := n_
                              clear n_
                              have HX43 := Aside0.mk (show Kd.R k38 38 w42 w.heap.size (fun k_ => some k_ ≠ (v472 : Value).ownBlock) (.slice (some ⟨go29, 0, none⟩) t452.length co35) t452 from (by (with_reducible repeat (first | apply Kd.R_alloc | apply Kd.R_drewN | apply Kd.R_drew)); exact HO455.out))
                              obtain ⟨ce43, hcl43, hM43, hcc43, hfr43⟩ := Kd.R_elem HX43.out z38 (a4 : Int) (of_decide_eq_true (by first | (with_reducible assumption) | assumption)) (by have h_ : (a4 : Int) < ((t452.length : Int) : Int) := of_decide_eq_true (by first | (with_reducible assumption) | assumption); first | exact h_ | (have e_ := (Kd.R_reads' HO455.out).1; omega) | simpa using h_)
                              obtain rfl := k38_openM hM43
                              have HP43 := Kd.R_seg HX43.out (a4 : Int) (of_decide_eq_true (by first | (with_reducible assumption) | assumption)) (by have h_ : (a4 : Int) < ((t452.length : Int) : Int) := of_decide_eq_true (by first | (with_reducible assumption) | assumption); first | exact h_ | (have e_ := (Kd.R_reads' HO455.out).1; omega) | simpa using h_) (seg := [.int .i64 a5]) (j := 1) hcl43 hcc43 (show 2 ≤ 2 from by decide) (x' := (⟨(rd_T38 t452 a4).f0, a5⟩ : S38)) (k38_mkM _ _ _ (⟨(rd_T38 t452 a4).f0, a5⟩ : S38) ) (fun _ hk => hk)
                              have hx43_1 := hcc43 1 _ rfl
                              (try simp only [show (k38).sz = 2 from rfl, Nat.mul_one, Nat.add_zero] at hx43_1)
                              have hf43_1 := hfr43 1
                              (try simp only [show (k38).sz = 2 from rfl, Nat.mul_one, Nat.add_zero] at hf43_1)
                              clear hcl43 hcc43 hfr43 hM43
                              try go_wp2_with (first | ((with_reducible refine gate_store (t := 3) (p := 85) rfl ?_); refine store_event (t := 3) (p := 85) (v := ?vo_w44) (w1 := (w42.setCell ⟨go29, (a4 : Int).toNat * 2 + 1, none⟩ (.int .i64 a5))) ?hg ?ho ?hn ?hr ?_; (case ho => rfl); (case hg => rfl); (case hn => rfl); (case hr => first | (go_simp; done) | (go_simp; rfl) | (go_simp; simp only [IntKind.wrap_u32', Int.emod_add_emod, Int.add_emod_emod])); intro w44 hw; have hg : w42.grownBy w44 (some go29) := (by rw [hw]; exact HP43.2); have hp_ : Kd.R k38 38 w44 w.heap.size (fun k_ => some k_ ≠ (v472 : Value).ownBlock) (.slice (some ⟨go29, 0, none⟩) t452.length co35) y474 := (by rw [hw, Ny474.out]; exact HP43.1); clear HP43; have n0_ := Aside0.mk (hp_); have n1_ := Aside0.mk (Kd.R_after (v := (.slice (some ⟨go29, 0, none⟩) t452.length co35)) (v1 := (.slice (some ⟨go29, 0, none⟩) t452.length co35)) (ok := (fun _ => True)) (by (with_reducible repeat (first | apply Kd.R_alloc | apply Kd.R_drewN | apply Kd.R_drew)); exact Kd.R_mono HO473.out (fun _ hk => ⟨trivial, hk⟩)) hg (.inl rfl)); have n2_ := Aside0.mk ((by rw [hw]; exact below_set (HB.out) GB29.out : Below w.heap.size w w44)); clear HO455; clear HO473; clear HB; have HO455 := n0_; have HO473 := n1_; have HB := n2_; clear n0_ n1_ n2_; clear hg hw hp_) | (go_at_call 14; refine calls_of_args (args' := #[.slice (some ⟨go29, 0, none⟩) y474.length co35, .int .i64 a1]) (by first | (rw [show y474.length = t452.length from (Kd.R_reads' HO455.out).1.symm] <;> rfl) | rfl) ?_; (with_reducible refine (share_Fits.calls kj7 _ _ y474 a1 t475 _ ?side1 ?side2 A31.out).mono ?_); (case side1 => repeat (first | exact (Kd.R_reads' HO455.out).2.2 | (with_reducible refine Kd.C_alloc ?_ _) | (with_reducible refine Kd.C_drewN ?_ _) | (with_reducible refine Kd.C_drew ?_))); (case side2 => rw [show y474.length = t452.length from (Kd.R_reads' HO455.out).1.symm]; exact (Kd.R_reads' HO455.out).2.1); rintro e w45 ⟨rfl, hb⟩; have n0_ := Aside0.mk (Kd.R_below (by (with_reducible repeat (first | apply Kd.R_alloc | apply Kd.R_drewN | apply Kd.R_drew)); exact HO455.out) hb); have n1_ := Aside0.mk (Kd.R_below (by (with_reducible repeat (first | apply Kd.R_alloc | apply Kd.R_drewN | apply Kd.R_drew)); exact HO473.out) hb); have n2_ := Aside0.mk (below_step (by repeat (first | (with_reducible first | exact HB.out | apply below_alloc | apply pw_below_drewN | apply below_drew1) | exact HB.out)) hb); clear HO455; clear HO473; clear HB; have HO455 := n0_; have HO473 := n1_; have HB := n2_; clear n0_ n1_ n2_; (try clear hb); (try clear hb2); (try clear hk); (try clear hi); obtain ⟨Ao46, co46, eo46⟩ := Kd.R_slice HO473.out; subst eo46) | (go_at_call 14; (with_reducible refine (share_Fits.calls kj7 _ _ y471 a1 t476 _ ?side1 ?side2 A33.out).mono ?_); (case side1 => repeat (first | exact (Kd.R_reads' HO473.out).2.2 | (with_reducible refine Kd.C_alloc ?_ _) | (with_reducible refine Kd.C_drewN ?_ _) | (with_reducible refine Kd.C_drew ?_))); (case side2 => exact (Kd.R_reads' HO473.out).2.1); rintro e w47 ⟨rfl, hb⟩; have n0_ := Aside0.mk (Kd.R_below (by (with_reducible repeat (first | apply Kd.R_alloc | apply Kd.R_drewN | apply Kd.R_drew)); exact HO455.out) hb); have n1_ := Aside0.mk (Kd.R_below (by (with_reducible repeat (first | apply Kd.R_alloc | apply Kd.R_drewN | apply Kd.R_drew)); exact HO473.out) hb); have n2_ := Aside0.mk (below_step (by repeat (first | (with_reducible first | exact HB.out | apply below_alloc | apply pw_below_drewN | apply below_drew1) | exact HB.out)) hb); clear HO455; clear HO473; clear HB; have HO455 := n0_; have HO473 := n1_; have HB := n2_; clear n0_ n1_ n2_; (try clear hb); (try clear hb2); (try clear hk); (try clear hi)))
                              go_ret
                              exact ⟨by first | rfl | (simp [errW_none, errW_some] <;> rfl) | (simp only [← hji25]; first | rfl | (simp [errW_none, errW_some] <;> rfl)) | (simp [*, errW_none, errW_some] <;> rfl), by repeat (first | (with_reducible first | exact HB.out | apply below_alloc | apply pw_below_drewN | apply below_drew1) | exact HB.out)⟩
                            · rw [if_neg c32] at H
                              exact absurd H (by simp)
                          · replace c30 := Bool.eq_false_iff.mpr c30
                            subst c30
                            have H1 : (none) = some r := by rw [if_neg (show ¬ (false = true) by decide)] at H; exact H
                            clear H
                            have H := H1
                            clear H1
                            exact absurd H (by simp)
                        · rw [if_neg c28] at H
                          exact absurd H (by simp)
                      · rw [if_neg c27] at H
                        exact absurd H (by simp)
                    · rw [if_neg c26] at H
                      exact absurd H (by simp)
                  · rw [if_neg c24] at H
                    exact absurd H (by simp)
                · rw [if_neg c23] at H
                  exact absurd H (by simp)
              · rw [if_neg c21] at H
                exact absurd H (by simp)
            · rw [if_neg c20] at H
              exact absurd H (by simp)
          · rw [if_neg c19] at H
            exact absurd H (by simp)
        · replace c18 := Bool.eq_false_iff.mpr c18
          subst c18
          have H1 : (some t451) = some r := by rw [if_neg (show ¬ (false = true) by decide)] at H; exact H
          clear H
          have H := H1
          clear H1
          obtain rfl := Option.some.inj H
          go_wp2_with (first | ((with_reducible refine gate_callee (f := 9) rfl ?_); refine goesL_ (some 54) rfl rfl Try.func9 (by kernel_rfl) rfl #[.int .i64 a0, .int .i64 a1, .int .i64 a2, .string a3] rfl (by (try simp only [List.map_toArray, List.map_cons, List.map_nil]); first | done | rfl | (simp only [List.length_drop, List.length_take]; rfl)) ?_; (with_reducible refine (share_Split.calls kj7 a0 a1 a2 a3 t452 false _ A17.out).mono ?_); rintro e w48 ⟨v454, rfl, ho0, hb⟩; refine ⟨_, rfl, ?_⟩; have n0_ := Aside0.mk (Kd.R_lower ho0 (below_size (by repeat (first | (with_reducible first | exact HB.out | apply below_alloc | apply pw_below_drewN | apply below_drew1) | exact HB.out)))); have n1_ := Aside0.mk (below_step (by repeat (first | (with_reducible first | exact HB.out | apply below_alloc | apply pw_below_drewN | apply below_drew1) | exact HB.out)) hb); clear HB; have HO455 := n0_; have HB := n1_; clear n0_ n1_; (try clear hb); (try clear hb2); (try clear hk); (try clear hi); (try clear ho0)))
          go_ret
          exact ⟨by first | rfl | (simp [errW_none, errW_some] <;> rfl) | (simp [*, errW_none, errW_some] <;> rfl), by repeat (first | (with_reducible first | exact HB.out | apply below_alloc | apply pw_below_drewN | apply below_drew1) | exact HB.out)⟩
end Go.Proofs.Ytggmjfonhcinhaa.P
end P20_ShareDetects_
