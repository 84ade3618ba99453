/- Texts of this claim, merged: what the functions that the law reaches compute, and what that says. -/
import Derived.Test.YtkhkppehdgkboaaKA4
import Derived.Test.YtkhkppehdgkboaaKA14
import Derived.Test.YtkhkppehdgkboaaKA15
import Derived.Test.YtkhkppehdgkboaaKA18
section P15_MerkleProves_
namespace Go.Proofs.Ytkhkppehdgkboaa.P
open Go.RowKit Go.Proofs.YtkhkppehdgkboaaW.PrintWords Go.Proofs.YtkhkppehdgkboaaW.PrintLast Go.Proofs.YtkhkppehdgkboaaW.PrintMore
attribute [local go_sem] max2_int min2_int max_two min_two max_three min_three max_four min_four   -- for this text's walks alone
set_option linter.unusedVariables false
set_option linter.unusedSimpArgs false
mutual
def agoralaw08_MerkleProves.j0 : Nat → Int → Int → Bool → List ByteArray → Bool → Option (Bool)
  | 0, _, _, _, _, _ => none
  | k + 1, x1, x2, x7, x8, x42 => if x42 = true then (some x7) else ((merkle_Root.f x8).bind fun t348 => ((merkle_Path.f x8 x1).bind fun bt349 => ((merkle_Link.f x8 x2).bind fun bt353 => (if bt349.2 = true then (if bt353.2 = true then (if 0 ≤ x1 then (if x1 < (x8.length : Int) then ((merkle_Includes.f k (rdOf ByteArray.empty x8 x1) x1 (x8.length : Int) t348 bt349.1).bind fun t358 => (agoralaw08_MerkleProves.j1 k x1 x2 x7 x8 t348 bt349.1 bt353.1 (!t358))) else (none)) else (none)) else (agoralaw08_MerkleProves.j1 k x1 x2 x7 x8 t348 bt349.1 bt353.1 true)) else (agoralaw08_MerkleProves.j1 k x1 x2 x7 x8 t348 bt349.1 bt353.1 true)))))
def agoralaw08_MerkleProves.j1 : Nat → Int → Int → Bool → List ByteArray → ByteArray → List ByteArray → List ByteArray → Bool → Option (Bool)
  | 0, _, _, _, _, _, _, _, _ => none
  | k + 1, x1, x2, x7, x8, x10, x11, x13, x76 => if x76 = true then (none) else (if x7 = true then (if 0 ≤ x1 then (if x1 < (x8.length : Int) then ((merkle_Includes.f k (rdOf ByteArray.empty x8 x1) (-1) (x8.length : Int) x10 x11).bind fun t360 => (if t360 = true then (none) else ((merkle_Includes.f k (rdOf ByteArray.empty x8 x1) (x8.length : Int) (x8.length : Int) x10 x11).bind fun t362 => (if t362 = true then (none) else (if 0 ≤ x2 then (if x2 ≤ (x8.length : Int) then ((merkle_Root.f (x8.take (x2 : Int).toNat)).bind fun t367 => ((merkle_Extends.f k x2 (x8.length : Int) t367 x10 x13).bind fun t368 => (some t368))) else (none)) else (none)))))) else (none)) else (none)) else (none))
end
def agoralaw08_MerkleProves.f (k : Nat) (l0 : List ByteArray) (a1 : Int) (a2 : Int) : Option (Bool) := (agoralaw08_small.f k).bind fun t343 => ((agoralaw08_leaves.f k l0).bind fun bt344 => (if bt344.2 = true then (if a1 < 0 then (agoralaw08_MerkleProves.j0 k a1 a2 t343 bt344.1 true) else (if a1 ≥ (bt344.1.length : Int) then (agoralaw08_MerkleProves.j0 k a1 a2 t343 bt344.1 true) else (if a2 < 0 then (agoralaw08_MerkleProves.j0 k a1 a2 t343 bt344.1 true) else (agoralaw08_MerkleProves.j0 k a1 a2 t343 bt344.1 (decide (a2 > (bt344.1.length : Int))))))) else (agoralaw08_MerkleProves.j0 k a1 a2 t343 bt344.1 true)))
set_option maxHeartbeats 8000000 in
set_option maxRecDepth 100000 in
theorem agoralaw08_MerkleProves.calls (k : Nat) (A0 : Option Addr) (c0 : Nat) (l0 : List ByteArray) (a1 : Int) (a2 : Int) (r : Bool) (w : World) (hr0 : Kd.C Kd.string w A0 l0.length l0) (hc0 : l0.length ≤ c0) (h : agoralaw08_MerkleProves.f k l0 a1 a2 = some r) :
    Calls Try.prog 4 #[.slice A0 l0.length c0, .int .i64 a1, .int .i64 a2] w fun e w' => e = .returned (.bool r) ∧ Below w.heap.size w w' := by
  have HR0 := Aside0.mk hr0
  have HC0 := Aside0.mk hc0
  clear hr0 hc0
  have HB := Aside0.mk (Below.refl w.heap.size w)
  have H : ((agoralaw08_small.f k).bind fun t343 => ((agoralaw08_leaves.f k l0).bind fun bt344 => (if bt344.2 = true then (if a1 < 0 then (agoralaw08_MerkleProves.j0 k a1 a2 t343 bt344.1 true) else (if a1 ≥ (bt344.1.length : Int) then (agoralaw08_MerkleProves.j0 k a1 a2 t343 bt344.1 true) else (if a2 < 0 then (agoralaw08_MerkleProves.j0 k a1 a2 t343 bt344.1 true) else (agoralaw08_MerkleProves.j0 k a1 a2 t343 bt344.1 (decide (a2 > (bt344.1.length : Int))))))) else (agoralaw08_MerkleProves.j0 k a1 a2 t343 bt344.1 true)))) = some r := h
  clear h
  replace H := Option.bind_eq_some_iff.mp H
  obtain ⟨t343, A40, H⟩ := H
  replace H : ((agoralaw08_leaves.f k l0).bind fun bt344 => (if bt344.2 = true then (if a1 < 0 then (agoralaw08_MerkleProves.j0 k a1 a2 t343 bt344.1 true) else (if a1 ≥ (bt344.1.length : Int) then (agoralaw08_MerkleProves.j0 k a1 a2 t343 bt344.1 true) else (if a2 < 0 then (agoralaw08_MerkleProves.j0 k a1 a2 t343 bt344.1 true) else (agoralaw08_MerkleProves.j0 k a1 a2 t343 bt344.1 (decide (a2 > (bt344.1.length : Int))))))) else (agoralaw08_MerkleProves.j0 k a1 a2 t343 bt344.1 true))) = some r := H
  have A4 := Aside0.mk A40
  clear A40
  replace H := Option.bind_eq_some_iff.mp H
  obtain ⟨⟨t344, t345⟩, A50, H⟩ := H
  replace H : (if t345 = true then (if a1 < 0 then (agoralaw08_MerkleProves.j0 k a1 a2 t343 t344 true) else (if a1 ≥ (t344.length : Int) then (agoralaw08_MerkleProves.j0 k a1 a2 t343 t344 true) else (if a2 < 0 then (agoralaw08_MerkleProves.j0 k a1 a2 t343 t344 true) else (agoralaw08_MerkleProves.j0 k a1 a2 t343 t344 (decide (a2 > (t344.length : Int))))))) else (agoralaw08_MerkleProves.j0 k a1 a2 t343 t344 true)) = some r := H
  have A5 := Aside0.mk A50
  clear A50
  have HC6 := Aside0.mk H
  clear H
  go_enter Try.func4, Try.ntmps4
  go_upto_region 3 with (first | ((with_reducible refine gate_callee (f := 9) rfl ?_); refine goesL_ (some 15) rfl rfl Try.func9 (by kernel_rfl) rfl #[] rfl (by (try simp only [List.map_toArray, List.map_cons, List.map_nil]); first | done | rfl | (simp only [List.length_drop, List.length_take]; rfl)) ?_; (with_reducible refine (agoralaw08_small.calls k  t343 _ A4.out).mono ?_); rintro e w7 ⟨rfl, hb⟩; refine ⟨_, rfl, ?_⟩; have n0_ := Aside0.mk (below_step (by repeat (first | (with_reducible first | exact HB.out | apply below_alloc | apply pw_below_drewN | apply below_drew1) | exact HB.out)) hb); clear HB; have HB := n0_; clear n0_; (try clear hb); (try clear hb2); (try clear hk); (try clear hi)) | ((with_reducible refine gate_callee (f := 20) rfl ?_); refine goesL_ (some 18) rfl rfl Try.func20 (by kernel_rfl) rfl #[.slice A0 l0.length c0] rfl (by (try simp only [List.map_toArray, List.map_cons, List.map_nil]); first | done | rfl | (simp only [List.length_drop, List.length_take]; rfl)) ?_; (with_reducible refine (agoralaw08_leaves.calls k _ _ l0 t344 t345 _ ?side1 ?side2 A5.out).mono ?_); (case side1 => repeat (first | exact (Kd.C_below HR0.out HB.out) | (with_reducible refine Kd.C_alloc ?_ _) | (with_reducible refine Kd.C_drewN ?_ _) | (with_reducible refine Kd.C_drew ?_))); (case side2 => exact HC0.out); rintro e w8 ⟨v346, rfl, ho0, hb⟩; refine ⟨_, rfl, ?_⟩; have n0_ := Aside0.mk (Kd.R_lower ho0 (below_size (by repeat (first | (with_reducible first | exact HB.out | apply below_alloc | apply pw_below_drewN | apply below_drew1) | exact HB.out)))); have n1_ := Aside0.mk (below_step (by repeat (first | (with_reducible first | exact HB.out | apply below_alloc | apply pw_below_drewN | apply below_drew1) | exact HB.out)) hb); clear HB; have HO347 := n0_; have HB := n1_; clear n0_ n1_; (try clear hb); (try clear hb2); (try clear hk); (try clear hi); (try clear ho0)))
  (try simp only [Act.put, List.setIfInBounds_toArray, List.set_cons_zero, List.set_cons_succ])
  go_cut [42] (fun v42 wc => ∃ (kq : Nat) (x42_5 : Bool), v42 = .bool x42_5 ∧ Aside0 (agoralaw08_MerkleProves.j0 kq a1 a2 t343 t344 x42_5 = some r) ∧ Aside0 (kq ≤ k) ∧ Aside0 (Kd.R Kd.string 9 wc w.heap.size (fun _ => True) v346 t344) ∧ Aside0 (Below w.heap.size w wc))
  case first =>
    have H := HC6.out
    clear HC6
    by_cases c9 : t345 = true
    · subst c9
      have H1 : (if a1 < 0 then (agoralaw08_MerkleProves.j0 k a1 a2 t343 t344 true) else (if a1 ≥ (t344.length : Int) then (agoralaw08_MerkleProves.j0 k a1 a2 t343 t344 true) else (if a2 < 0 then (agoralaw08_MerkleProves.j0 k a1 a2 t343 t344 true) else (agoralaw08_MerkleProves.j0 k a1 a2 t343 t344 (decide (a2 > (t344.length : Int))))))) = some r := by rw [if_pos rfl] at H; exact H
      clear H
      have H := H1
      clear H1
      by_cases c10 : a1 < 0
      · rw [if_pos c10] at H
        have c10b0 : decide (a1 < 0) = true := decide_eq_true c10
        clear c10
        (first | rw [c10b0] | (simp only [i64_w, i32_w]; rw [c10b0]) | skip)
        have H' := Aside0.mk H
        clear H
        go_wp2
        go_meet
        case rel => exact ⟨_, (true), (by first | rfl | (simp; done) | (simp [*]; done)), H', ⟨by first | omega | exact Nat.le_refl _⟩, ⟨by (with_reducible repeat (first | apply Kd.R_alloc | apply Kd.R_drewN | apply Kd.R_drew)); exact HO347.out⟩, ⟨by repeat (first | (with_reducible first | exact HB.out | apply below_alloc | apply pw_below_drewN | apply below_drew1) | exact HB.out)⟩⟩
      · rw [if_neg c10] at H
        have c10b0 : decide (a1 < 0) = false := decide_eq_false c10
        clear c10
        (first | rw [c10b0] | (simp only [i64_w, i32_w]; rw [c10b0]) | skip)
        by_cases c11 : a1 ≥ (t344.length : Int)
        · rw [if_pos c11] at H
          have c11b0 : decide ((t344.length : Int) ≤ a1) = true := decide_eq_true c11
          clear c11
          have H' := Aside0.mk H
          clear H
          obtain ⟨Ao12, co12, eo12⟩ := Kd.R_slice HO347.out
          subst eo12
          go_wp2
          go_meet
          case rel => exact ⟨_, (true), (by first | rfl | (simp; done) | (simp [*]; done)), H', ⟨by first | omega | exact Nat.le_refl _⟩, ⟨by (with_reducible repeat (first | apply Kd.R_alloc | apply Kd.R_drewN | apply Kd.R_drew)); exact HO347.out⟩, ⟨by repeat (first | (with_reducible first | exact HB.out | apply below_alloc | apply pw_below_drewN | apply below_drew1) | exact HB.out)⟩⟩
        · rw [if_neg c11] at H
          have c11b0 : decide ((t344.length : Int) ≤ a1) = false := decide_eq_false c11
          clear c11
          by_cases c13 : a2 < 0
          · rw [if_pos c13] at H
            have c13b0 : decide (a2 < 0) = true := decide_eq_true c13
            clear c13
            have H' := Aside0.mk H
            clear H
            obtain ⟨Ao14, co14, eo14⟩ := Kd.R_slice HO347.out
            subst eo14
            go_wp2
            go_meet
            case rel => exact ⟨_, (true), (by first | rfl | (simp; done) | (simp [*]; done)), H', ⟨by first | omega | exact Nat.le_refl _⟩, ⟨by (with_reducible repeat (first | apply Kd.R_alloc | apply Kd.R_drewN | apply Kd.R_drew)); exact HO347.out⟩, ⟨by repeat (first | (with_reducible first | exact HB.out | apply below_alloc | apply pw_below_drewN | apply below_drew1) | exact HB.out)⟩⟩
          · rw [if_neg c13] at H
            have c13b0 : decide (a2 < 0) = false := decide_eq_false c13
            clear c13
            have H' := Aside0.mk H
            clear H
            obtain ⟨Ao15, co15, eo15⟩ := Kd.R_slice HO347.out
            subst eo15
            go_wp2
            go_meet
            case rel => exact ⟨_, (decide (a2 > (t344.length : Int))), (by first | rfl | (simp; done) | (simp [*]; done)), H', ⟨by first | omega | exact Nat.le_refl _⟩, ⟨by (with_reducible repeat (first | apply Kd.R_alloc | apply Kd.R_drewN | apply Kd.R_drew)); exact HO347.out⟩, ⟨by repeat (first | (with_reducible first | exact HB.out | apply below_alloc | apply pw_below_drewN | apply below_drew1) | exact HB.out)⟩⟩
    · replace c9 := Bool.eq_false_iff.mpr c9
      subst c9
      have H1 : (agoralaw08_MerkleProves.j0 k a1 a2 t343 t344 true) = some r := by rw [if_neg (show ¬ (false = true) by decide)] at H; exact H
      clear H
      have H := H1
      clear H1
      have H' := Aside0.mk H
      clear H
      go_wp2
      go_meet
      case rel => exact ⟨_, (true), (by first | rfl | (simp; done) | (simp [*]; done)), H', ⟨by first | omega | exact Nat.le_refl _⟩, ⟨by (with_reducible repeat (first | apply Kd.R_alloc | apply Kd.R_drewN | apply Kd.R_drew)); exact HO347.out⟩, ⟨by repeat (first | (with_reducible first | exact HB.out | apply below_alloc | apply pw_below_drewN | apply below_drew1) | exact HB.out)⟩⟩
  case rest =>
    clear HC6
    try clear c1
    try clear c2
    try clear p2
    try clear c4
    try clear c9
    try clear c10
    try clear c10b0
    try clear c11
    try clear c11b0
    try clear c13
    try clear c13b0
    obtain ⟨kq, x42_5, rfl, HA, HJ5, HO_8, HB⟩ := hcut
    cases kq with
    | zero => exact absurd HA.out (by simp [agoralaw08_MerkleProves.j0])
    | succ kj5 =>
      have H := HA.out
      clear HA
      simp only [agoralaw08_MerkleProves.j0] at H
      by_cases c16 : x42_5 = true
      · subst c16
        have H1 : (some t343) = some r := by rw [if_pos rfl] at H; exact H
        clear H
        have H := H1
        clear H1
        obtain rfl := Option.some.inj H
        go_wp2
        go_ret
        exact ⟨by first | rfl | (simp [errW_none, errW_some] <;> rfl) | (simp [*, errW_none, errW_some] <;> rfl), by repeat (first | (with_reducible first | exact HB.out | apply below_alloc | apply pw_below_drewN | apply below_drew1) | exact HB.out)⟩
      · replace c16 := Bool.eq_false_iff.mpr c16
        subst c16
        have H1 : ((merkle_Root.f t344).bind fun t348 => ((merkle_Path.f t344 a1).bind fun bt349 => ((merkle_Link.f t344 a2).bind fun bt353 => (if bt349.2 = true then (if bt353.2 = true then (if 0 ≤ a1 then (if a1 < (t344.length : Int) then ((merkle_Includes.f kj5 (rdOf ByteArray.empty t344 a1) a1 (t344.length : Int) t348 bt349.1).bind fun t358 => (agoralaw08_MerkleProves.j1 kj5 a1 a2 t343 t344 t348 bt349.1 bt353.1 (!t358))) else (none)) else (none)) else (agoralaw08_MerkleProves.j1 kj5 a1 a2 t343 t344 t348 bt349.1 bt353.1 true)) else (agoralaw08_MerkleProves.j1 kj5 a1 a2 t343 t344 t348 bt349.1 bt353.1 true))))) = some r := by rw [if_neg (show ¬ (false = true) by decide)] at H; exact H
        clear H
        have H := H1
        clear H1
        replace H := Option.bind_eq_some_iff.mp H
        obtain ⟨t348, A170, H⟩ := H
        replace H : ((merkle_Path.f t344 a1).bind fun bt349 => ((merkle_Link.f t344 a2).bind fun bt353 => (if bt349.2 = true then (if bt353.2 = true then (if 0 ≤ a1 then (if a1 < (t344.length : Int) then ((merkle_Includes.f kj5 (rdOf ByteArray.empty t344 a1) a1 (t344.length : Int) t348 bt349.1).bind fun t358 => (agoralaw08_MerkleProves.j1 kj5 a1 a2 t343 t344 t348 bt349.1 bt353.1 (!t358))) else (none)) else (none)) else (agoralaw08_MerkleProves.j1 kj5 a1 a2 t343 t344 t348 bt349.1 bt353.1 true)) else (agoralaw08_MerkleProves.j1 kj5 a1 a2 t343 t344 t348 bt349.1 bt353.1 true)))) = some r := H
        have A17 := Aside0.mk A170
        clear A170
        replace H := Option.bind_eq_some_iff.mp H
        obtain ⟨⟨t349, t350⟩, A180, H⟩ := H
        replace H : ((merkle_Link.f t344 a2).bind fun bt353 => (if t350 = true then (if bt353.2 = true then (if 0 ≤ a1 then (if a1 < (t344.length : Int) then ((merkle_Includes.f kj5 (rdOf ByteArray.empty t344 a1) a1 (t344.length : Int) t348 t349).bind fun t358 => (agoralaw08_MerkleProves.j1 kj5 a1 a2 t343 t344 t348 t349 bt353.1 (!t358))) else (none)) else (none)) else (agoralaw08_MerkleProves.j1 kj5 a1 a2 t343 t344 t348 t349 bt353.1 true)) else (agoralaw08_MerkleProves.j1 kj5 a1 a2 t343 t344 t348 t349 bt353.1 true))) = some r := H
        have A18 := Aside0.mk A180
        clear A180
        replace H := Option.bind_eq_some_iff.mp H
        obtain ⟨⟨t353, t354⟩, A190, H⟩ := H
        replace H : (if t350 = true then (if t354 = true then (if 0 ≤ a1 then (if a1 < (t344.length : Int) then ((merkle_Includes.f kj5 (rdOf ByteArray.empty t344 a1) a1 (t344.length : Int) t348 t349).bind fun t358 => (agoralaw08_MerkleProves.j1 kj5 a1 a2 t343 t344 t348 t349 t353 (!t358))) else (none)) else (none)) else (agoralaw08_MerkleProves.j1 kj5 a1 a2 t343 t344 t348 t349 t353 true)) else (agoralaw08_MerkleProves.j1 kj5 a1 a2 t343 t344 t348 t349 t353 true)) = some r := H
        have A19 := Aside0.mk A190
        clear A190
        have HC20 := Aside0.mk H
        clear H
        obtain ⟨Ao21, co21, eo21⟩ := Kd.R_slice HO_8.out
        subst eo21
        go_upto_region 8 with (first | ((with_reducible refine gate_callee (f := 15) rfl ?_); refine goesL_ (some 45) rfl rfl Try.func15 (by kernel_rfl) rfl #[.slice Ao21 t344.length co21] rfl (by (try simp only [List.map_toArray, List.map_cons, List.map_nil]); first | done | rfl | (simp only [List.length_drop, List.length_take]; rfl)) ?_; (with_reducible refine (merkle_Root.calls _ _ t344 t348 _ ?side1 ?side2 A17.out).mono ?_); (case side1 => repeat (first | exact (Kd.R_reads' HO_8.out).2.2 | (with_reducible refine Kd.C_alloc ?_ _) | (with_reducible refine Kd.C_drewN ?_ _) | (with_reducible refine Kd.C_drew ?_))); (case side2 => exact (Kd.R_reads' HO_8.out).2.1); rintro e w22 ⟨rfl, hb⟩; refine ⟨_, rfl, ?_⟩; have n0_ := Aside0.mk (Kd.R_below (by (with_reducible repeat (first | apply Kd.R_alloc | apply Kd.R_drewN | apply Kd.R_drew)); exact HO_8.out) hb); have n1_ := Aside0.mk (below_step (by repeat (first | (with_reducible first | exact HB.out | apply below_alloc | apply pw_below_drewN | apply below_drew1) | exact HB.out)) hb); clear HO_8; clear HB; have HO_8 := n0_; have HB := n1_; clear n0_ n1_; (try clear hb); (try clear hb2); (try clear hk); (try clear hi)) | ((with_reducible refine gate_callee (f := 13) rfl ?_); refine goesL_ (some 49) rfl rfl Try.func13 (by kernel_rfl) rfl #[.slice Ao21 t344.length co21, .int .i64 a1] rfl (by (try simp only [List.map_toArray, List.map_cons, List.map_nil]); first | done | rfl | (simp only [List.length_drop, List.length_take]; rfl)) ?_; (with_reducible refine (merkle_Path.calls _ _ t344 a1 t349 t350 _ ?side1 ?side2 A18.out).mono ?_); (case side1 => repeat (first | exact (Kd.R_reads' HO_8.out).2.2 | (with_reducible refine Kd.C_alloc ?_ _) | (with_reducible refine Kd.C_drewN ?_ _) | (with_reducible refine Kd.C_drew ?_))); (case side2 => exact (Kd.R_reads' HO_8.out).2.1); rintro e w23 ⟨v351, rfl, ho0, hb⟩; refine ⟨_, rfl, ?_⟩; have n0_ := Aside0.mk (Kd.R_elder' (by (with_reducible repeat (first | apply Kd.R_alloc | apply Kd.R_drewN | apply Kd.R_drew)); exact HO_8.out) (Kd.R_base ho0) hb); have n1_ := Aside0.mk (Kd.R_lower (Kd.R_new' ho0 (Kd.R_lt (by (with_reducible repeat (first | apply Kd.R_alloc | apply Kd.R_drewN | apply Kd.R_drew)); exact HO_8.out))) (below_size (by repeat (first | (with_reducible first | exact HB.out | apply below_alloc | apply pw_below_drewN | apply below_drew1) | exact HB.out)))); have n2_ := Aside0.mk (below_step (by repeat (first | (with_reducible first | exact HB.out | apply below_alloc | apply pw_below_drewN | apply below_drew1) | exact HB.out)) hb); clear HO_8; clear HB; have HO_8 := n0_; have HO352 := n1_; have HB := n2_; clear n0_ n1_ n2_; (try clear hb); (try clear hb2); (try clear hk); (try clear hi); (try clear ho0)) | ((with_reducible refine gate_callee (f := 14) rfl ?_); refine goesL_ (some 55) rfl rfl Try.func14 (by kernel_rfl) rfl #[.slice Ao21 t344.length co21, .int .i64 a2] rfl (by (try simp only [List.map_toArray, List.map_cons, List.map_nil]); first | done | rfl | (simp only [List.length_drop, List.length_take]; rfl)) ?_; (with_reducible refine (merkle_Link.calls _ _ t344 a2 t353 t354 _ ?side1 ?side2 A19.out).mono ?_); (case side1 => repeat (first | exact (Kd.R_reads' HO_8.out).2.2 | (with_reducible refine Kd.C_alloc ?_ _) | (with_reducible refine Kd.C_drewN ?_ _) | (with_reducible refine Kd.C_drew ?_))); (case side2 => exact (Kd.R_reads' HO_8.out).2.1); rintro e w24 ⟨v355, rfl, ho0, hb⟩; refine ⟨_, rfl, ?_⟩; have n0_ := Aside0.mk (Kd.R_elder' (by (with_reducible repeat (first | apply Kd.R_alloc | apply Kd.R_drewN | apply Kd.R_drew)); exact HO_8.out) (Kd.R_base ho0) hb); have n1_ := Aside0.mk (Kd.R_elder' (by (with_reducible repeat (first | apply Kd.R_alloc | apply Kd.R_drewN | apply Kd.R_drew)); exact HO352.out) (Kd.R_base ho0) hb); have n2_ := Aside0.mk (Kd.R_lower (Kd.R_new' (Kd.R_new' ho0 (Kd.R_lt (by (with_reducible repeat (first | apply Kd.R_alloc | apply Kd.R_drewN | apply Kd.R_drew)); exact HO_8.out))) (Kd.R_lt (by (with_reducible repeat (first | apply Kd.R_alloc | apply Kd.R_drewN | apply Kd.R_drew)); exact HO352.out))) (below_size (by repeat (first | (with_reducible first | exact HB.out | apply below_alloc | apply pw_below_drewN | apply below_drew1) | exact HB.out)))); have n3_ := Aside0.mk (below_step (by repeat (first | (with_reducible first | exact HB.out | apply below_alloc | apply pw_below_drewN | apply below_drew1) | exact HB.out)) hb); clear HO_8; clear HO352; clear HB; have HO_8 := n0_; have HO352 := n1_; have HO356 := n2_; have HB := n3_; clear n0_ n1_ n2_ n3_; (try clear hb); (try clear hb2); (try clear hk); (try clear hi); (try clear ho0)))
        (try simp only [Act.put, List.setIfInBounds_toArray, List.set_cons_zero, List.set_cons_succ])
        go_cut [76] (fun v76 wc => ∃ (kq : Nat) (x76_19 : Bool), v76 = .bool x76_19 ∧ Aside0 (agoralaw08_MerkleProves.j1 kq a1 a2 t343 t344 t348 t349 t353 x76_19 = some r) ∧ Aside0 (kq ≤ kj5) ∧ Aside0 (Kd.R Kd.string 9 wc w.heap.size (fun k_ => some k_ ≠ (v351 : Value).ownBlock ∧ some k_ ≠ (v355 : Value).ownBlock) (.slice Ao21 t344.length co21) t344) ∧ Aside0 (Kd.R Kd.string 9 wc w.heap.size (fun k_ => some k_ ≠ ((.slice Ao21 t344.length co21) : Value).ownBlock ∧ some k_ ≠ (v355 : Value).ownBlock) v351 t349) ∧ Aside0 (Kd.R Kd.string 9 wc w.heap.size (fun k_ => some k_ ≠ ((.slice Ao21 t344.length co21) : Value).ownBlock ∧ some k_ ≠ (v351 : Value).ownBlock) v355 t353) ∧ Aside0 (Below w.heap.size w wc))
        case first =>
          have H := HC20.out
          clear HC20
          by_cases c25 : t350 = true
          · subst c25
            have H1 : (if t354 = true then (if 0 ≤ a1 then (if a1 < (t344.length : Int) then ((merkle_Includes.f kj5 (rdOf ByteArray.empty t344 a1) a1 (t344.length : Int) t348 t349).bind fun t358 => (agoralaw08_MerkleProves.j1 kj5 a1 a2 t343 t344 t348 t349 t353 (!t358))) else (none)) else (none)) else (agoralaw08_MerkleProves.j1 kj5 a1 a2 t343 t344 t348 t349 t353 true)) = some r := by rw [if_pos rfl] at H; exact H
            clear H
            have H := H1
            clear H1
            by_cases c26 : t354 = true
            · subst c26
              have H1 : (if 0 ≤ a1 then (if a1 < (t344.length : Int) then ((merkle_Includes.f kj5 (rdOf ByteArray.empty t344 a1) a1 (t344.length : Int) t348 t349).bind fun t358 => (agoralaw08_MerkleProves.j1 kj5 a1 a2 t343 t344 t348 t349 t353 (!t358))) else (none)) else (none)) = some r := by rw [if_pos rfl] at H; exact H
              clear H
              have H := H1
              clear H1
              by_cases c27 : 0 ≤ a1
              · rw [if_pos c27] at H
                have c27b0 : decide (0 ≤ a1) = true := decide_eq_true c27
                clear c27
                (first | rw [c27b0] | (simp only [i64_w, i32_w]; rw [c27b0]) | skip)
                by_cases c28 : a1 < (t344.length : Int)
                · rw [if_pos c28] at H
                  have c28b0 : decide (a1 < (t344.length : Int)) = true := decide_eq_true c28
                  clear c28
                  replace H := Option.bind_eq_some_iff.mp H
                  obtain ⟨t358, A290, H⟩ := H
                  replace H : (agoralaw08_MerkleProves.j1 kj5 a1 a2 t343 t344 t348 t349 t353 (!t358)) = some r := H
                  have A29 := Aside0.mk A290
                  clear A290
                  have H' := Aside0.mk H
                  clear H
                  have p357 : 0 ≤ (a1 : Int) := of_decide_eq_true (by first | (with_reducible assumption) | assumption)
                  have q357 : a1 < (t344.length : Int) := of_decide_eq_true (by first | (with_reducible assumption) | assumption)
                  obtain ⟨ad357, e357, hx357_0⟩ := Kd.at_string (Kd.R_reads' HO_8.out).2.2 a1 p357 q357
                  cases e357
                  replace p357 := eq_true p357
                  replace q357 := eq_true q357
                  obtain ⟨Ao30, co30, eo30⟩ := Kd.R_slice HO352.out
                  subst eo30
                  go_wp2_with (first | (go_at_call 21; (with_reducible refine (merkle_Includes.calls kj5 (rdOf ByteArray.empty t344 a1) a1 (t344.length : Int) t348 _ _ t349 t358 _ ?side1 ?side2 A29.out).mono ?_); (case side1 => repeat (first | exact (Kd.R_reads' HO352.out).2.2 | (with_reducible refine Kd.C_alloc ?_ _) | (with_reducible refine Kd.C_drewN ?_ _) | (with_reducible refine Kd.C_drew ?_))); (case side2 => exact (Kd.R_reads' HO352.out).2.1); rintro e w31 ⟨rfl, hb⟩; have n0_ := Aside0.mk (Kd.R_below (by (with_reducible repeat (first | apply Kd.R_alloc | apply Kd.R_drewN | apply Kd.R_drew)); exact HO_8.out) hb); have n1_ := Aside0.mk (Kd.R_below (by (with_reducible repeat (first | apply Kd.R_alloc | apply Kd.R_drewN | apply Kd.R_drew)); exact HO352.out) hb); have n2_ := Aside0.mk (Kd.R_below (by (with_reducible repeat (first | apply Kd.R_alloc | apply Kd.R_drewN | apply Kd.R_drew)); exact HO356.out) hb); have n3_ := Aside0.mk (below_step (by repeat (first | (with_reducible first | exact HB.out | apply below_alloc | apply pw_below_drewN | apply below_drew1) | exact HB.out)) hb); clear HO_8; clear HO352; clear HO356; clear HB; have HO_8 := n0_; have HO352 := n1_; have HO356 := n2_; have HB := n3_; clear n0_ n1_ n2_ n3_; (try clear hb); (try clear hb2); (try clear hk); (try clear hi)))
                  go_meet
                  case rel => exact ⟨_, (!t358), (by first | rfl | (simp; done) | (simp [*]; done)), H', ⟨by have := HJ5.out; first | omega | exact Nat.le_refl _⟩, ⟨by (with_reducible repeat (first | apply Kd.R_alloc | apply Kd.R_drewN | apply Kd.R_drew)); exact Kd.R_mono HO_8.out (fun _ hk => ⟨hk.1.2, hk.2⟩)⟩, ⟨by (with_reducible repeat (first | apply Kd.R_alloc | apply Kd.R_drewN | apply Kd.R_drew)); exact Kd.R_mono HO352.out (fun _ hk => ⟨hk.1.2, hk.2⟩)⟩, ⟨by (with_reducible repeat (first | apply Kd.R_alloc | apply Kd.R_drewN | apply Kd.R_drew)); exact Kd.R_mono HO356.out (fun _ hk => ⟨hk.1.2, hk.2⟩)⟩, ⟨by repeat (first | (with_reducible first | exact HB.out | apply below_alloc | apply pw_below_drewN | apply below_drew1) | exact HB.out)⟩⟩
                · rw [if_neg c28] at H
                  exact absurd H (by simp)
              · rw [if_neg c27] at H
                exact absurd H (by simp)
            · replace c26 := Bool.eq_false_iff.mpr c26
              subst c26
              have H1 : (agoralaw08_MerkleProves.j1 kj5 a1 a2 t343 t344 t348 t349 t353 true) = some r := by rw [if_neg (show ¬ (false = true) by decide)] at H; exact H
              clear H
              have H := H1
              clear H1
              have H' := Aside0.mk H
              clear H
              go_wp2
              go_meet
              case rel => exact ⟨_, (true), (by first | rfl | (simp; done) | (simp [*]; done)), H', ⟨by have := HJ5.out; first | omega | exact Nat.le_refl _⟩, ⟨by (with_reducible repeat (first | apply Kd.R_alloc | apply Kd.R_drewN | apply Kd.R_drew)); exact Kd.R_mono HO_8.out (fun _ hk => ⟨hk.1.2, hk.2⟩)⟩, ⟨by (with_reducible repeat (first | apply Kd.R_alloc | apply Kd.R_drewN | apply Kd.R_drew)); exact Kd.R_mono HO352.out (fun _ hk => ⟨hk.1.2, hk.2⟩)⟩, ⟨by (with_reducible repeat (first | apply Kd.R_alloc | apply Kd.R_drewN | apply Kd.R_drew)); exact Kd.R_mono HO356.out (fun _ hk => ⟨hk.1.2, hk.2⟩)⟩, ⟨by repeat (first | (with_reducible first | exact HB.out | apply below_alloc | apply pw_below_drewN | apply below_drew1) | exact HB.out)⟩⟩
          · replace c25 := Bool.eq_false_iff.mpr c25
            subst c25
            have H1 : (agoralaw08_MerkleProves.j1 kj5 a1 a2 t343 t344 t348 t349 t353 true) = some r := by rw [if_neg (show ¬ (false = true) by decide)] at H; exact H
            clear H
            have H := H1
            clear H1
            have H' := Aside0.mk H
            clear H
            go_wp2
            go_meet
            case rel => exact ⟨_, (true), (by first | rfl | (simp; done) | (simp [*]; done)), H', ⟨by have := HJ5.out; first | omega | exact Nat.le_refl _⟩, ⟨by (with_reducible repeat (first | apply Kd.R_alloc | apply Kd.R_drewN | apply Kd.R_drew)); exact Kd.R_mono HO_8.out (fun _ hk => ⟨hk.1.2, hk.2⟩)⟩, ⟨by (with_reducible repeat (first | apply Kd.R_alloc | apply Kd.R_drewN | apply Kd.R_drew)); exact Kd.R_mono HO352.out (fun _ hk => ⟨hk.1.2, hk.2⟩)⟩, ⟨by (with_reducible repeat (first | apply Kd.R_alloc | apply Kd.R_drewN | apply Kd.R_drew)); exact Kd.R_mono HO356.out (fun _ hk => ⟨hk.1.2, hk.2⟩)⟩, ⟨by repeat (first | (with_reducible first | exact HB.out | apply below_alloc | apply pw_below_drewN | apply below_drew1) | exact HB.out)⟩⟩
        case rest =>
          clear HC20
          try clear c1
          try clear c2
          try clear p2
          try clear p3
          try clear q3
          try clear hx3
          try clear c4
          try clear c9
          try clear c10
          try clear c10b0
          try clear c11
          try clear c11b0
          try clear c13
          try clear c13b0
          try clear c14
          try clear c15
          try clear c16
          try clear c20
          try clear c25
          try clear c26
          try clear c27
          try clear c27b0
          try clear c28
          try clear c28b0
          try clear hx357_0
          try clear p2
          try clear p357
          try clear q357
          obtain ⟨kq, x76_19, rfl, HA, HJ19, HO_8, HO_11, HO_13, HB⟩ := hcut
          cases kq with
          | zero => exact absurd HA.out (by simp [agoralaw08_MerkleProves.j1])
          | succ kj19 =>
            have H := HA.out
            clear HA
            simp only [agoralaw08_MerkleProves.j1] at H
            by_cases c32 : x76_19 = true
            · subst c32
              have H1 : (none) = some r := by rw [if_pos rfl] at H; exact H
              clear H
              have H := H1
              clear H1
              exact absurd H (by simp)
            · replace c32 := Bool.eq_false_iff.mpr c32
              subst c32
              have H1 : (if t343 = true then (if 0 ≤ a1 then (if a1 < (t344.length : Int) then ((merkle_Includes.f kj19 (rdOf ByteArray.empty t344 a1) (-1) (t344.length : Int) t348 t349).bind fun t360 => (if t360 = true then (none) else ((merkle_Includes.f kj19 (rdOf ByteArray.empty t344 a1) (t344.length : Int) (t344.length : Int) t348 t349).bind fun t362 => (if t362 = true then (none) else (if 0 ≤ a2 then (if a2 ≤ (t344.length : Int) then ((merkle_Root.f (t344.take (a2 : Int).toNat)).bind fun t367 => ((merkle_Extends.f kj19 a2 (t344.length : Int) t367 t348 t353).bind fun t368 => (some t368))) else (none)) else (none)))))) else (none)) else (none)) else (none)) = some r := by rw [if_neg (show ¬ (false = true) by decide)] at H; exact H
              clear H
              have H := H1
              clear H1
              by_cases c33 : t343 = true
              · subst c33
                have H1 : (if 0 ≤ a1 then (if a1 < (t344.length : Int) then ((merkle_Includes.f kj19 (rdOf ByteArray.empty t344 a1) (-1) (t344.length : Int) t348 t349).bind fun t360 => (if t360 = true then (none) else ((merkle_Includes.f kj19 (rdOf ByteArray.empty t344 a1) (t344.length : Int) (t344.length : Int) t348 t349).bind fun t362 => (if t362 = true then (none) else (if 0 ≤ a2 then (if a2 ≤ (t344.length : Int) then ((merkle_Root.f (t344.take (a2 : Int).toNat)).bind fun t367 => ((merkle_Extends.f kj19 a2 (t344.length : Int) t367 t348 t353).bind fun t368 => (some t368))) else (none)) else (none)))))) else (none)) else (none)) = some r := by rw [if_pos rfl] at H; exact H
                clear H
                have H := H1
                clear H1
                by_cases c34 : 0 ≤ a1
                · rw [if_pos c34] at H
                  have c34b0 : decide (0 ≤ a1) = true := decide_eq_true c34
                  clear c34
                  by_cases c35 : a1 < (t344.length : Int)
                  · rw [if_pos c35] at H
                    have c35b0 : decide (a1 < (t344.length : Int)) = true := decide_eq_true c35
                    clear c35
                    replace H := Option.bind_eq_some_iff.mp H
                    obtain ⟨t360, A360, H⟩ := H
                    replace H : (if t360 = true then (none) else ((merkle_Includes.f kj19 (rdOf ByteArray.empty t344 a1) (t344.length : Int) (t344.length : Int) t348 t349).bind fun t362 => (if t362 = true then (none) else (if 0 ≤ a2 then (if a2 ≤ (t344.length : Int) then ((merkle_Root.f (t344.take (a2 : Int).toNat)).bind fun t367 => ((merkle_Extends.f kj19 a2 (t344.length : Int) t367 t348 t353).bind fun t368 => (some t368))) else (none)) else (none))))) = some r := H
                    have A36 := Aside0.mk A360
                    clear A360
                    by_cases c37 : t360 = true
                    · subst c37
                      have H1 : (none) = some r := by rw [if_pos rfl] at H; exact H
                      clear H
                      have H := H1
                      clear H1
                      exact absurd H (by simp)
                    · replace c37 := Bool.eq_false_iff.mpr c37
                      subst c37
                      have H1 : ((merkle_Includes.f kj19 (rdOf ByteArray.empty t344 a1) (t344.length : Int) (t344.length : Int) t348 t349).bind fun t362 => (if t362 = true then (none) else (if 0 ≤ a2 then (if a2 ≤ (t344.length : Int) then ((merkle_Root.f (t344.take (a2 : Int).toNat)).bind fun t367 => ((merkle_Extends.f kj19 a2 (t344.length : Int) t367 t348 t353).bind fun t368 => (some t368))) else (none)) else (none)))) = some r := by rw [if_neg (show ¬ (false = true) by decide)] at H; exact H
                      clear H
                      have H := H1
                      clear H1
                      replace H := Option.bind_eq_some_iff.mp H
                      obtain ⟨t362, A380, H⟩ := H
                      replace H : (if t362 = true then (none) else (if 0 ≤ a2 then (if a2 ≤ (t344.length : Int) then ((merkle_Root.f (t344.take (a2 : Int).toNat)).bind fun t367 => ((merkle_Extends.f kj19 a2 (t344.length : Int) t367 t348 t353).bind fun t368 => (some t368))) else (none)) else (none))) = some r := H
                      have A38 := Aside0.mk A380
                      clear A380
                      by_cases c39 : t362 = true
                      · subst c39
                        have H1 : (none) = some r := by rw [if_pos rfl] at H; exact H
                        clear H
                        have H := H1
                        clear H1
                        exact absurd H (by simp)
                      · replace c39 := Bool.eq_false_iff.mpr c39
                        subst c39
                        have H1 : (if 0 ≤ a2 then (if a2 ≤ (t344.length : Int) then ((merkle_Root.f (t344.take (a2 : Int).toNat)).bind fun t367 => ((merkle_Extends.f kj19 a2 (t344.length : Int) t367 t348 t353).bind fun t368 => (some t368))) else (none)) else (none)) = some r := by rw [if_neg (show ¬ (false = true) by decide)] at H; exact H
                        clear H
                        have H := H1
                        clear H1
                        by_cases c40 : 0 ≤ a2
                        · rw [if_pos c40] at H
                          have c40b0 := eq_true c40
                          have c40b1 : decide (0 ≤ a2) = true := decide_eq_true c40
                          clear c40
                          by_cases c41 : a2 ≤ (t344.length : Int)
                          · rw [if_pos c41] at H
                            have c41b0 := eq_true c41
                            have c41b1 : decide (a2 ≤ (t344.length : Int)) = true := decide_eq_true c41
                            clear c41
                            obtain ⟨y363, hy363⟩ : ∃ y_ : List ByteArray, y_ = (t344.take (a2 : Int).toNat) := ⟨_, rfl⟩
                            replace H : ((merkle_Root.f y363).bind fun t367 => ((merkle_Extends.f kj19 a2 (t344.length : Int) t367 t348 t353).bind fun t368 => (some t368))) = some r := by first | (rw [hy363]; with_reducible exact H) | (have H2_ := (Option.bind_some _ _).symm.trans H; rw [hy363]; with_reducible exact H2_) | (have H2_ := (Option.bind_some _ _).symm.trans H; with_reducible exact H2_) | with_reducible exact H | (rw [hy363]; exact H) | exact H
                            have Ny363 := Aside0.mk hy363
                            clear hy363
                            replace H := Option.bind_eq_some_iff.mp H
                            obtain ⟨t367, A420, H⟩ := H
                            replace H : ((merkle_Extends.f kj19 a2 (t344.length : Int) t367 t348 t353).bind fun t368 => (some t368)) = some r := H
                            have A42 := Aside0.mk A420
                            clear A420
                            replace H := Option.bind_eq_some_iff.mp H
                            obtain ⟨t368, A430, H⟩ := H
                            replace H : (some t368) = some r := H
                            have A43 := Aside0.mk A430
                            clear A430
                            obtain rfl := Option.some.inj H
                            have p359 : 0 ≤ (a1 : Int) := of_decide_eq_true (by first | (with_reducible assumption) | assumption)
                            have q359 : a1 < (t344.length : Int) := of_decide_eq_true (by first | (with_reducible assumption) | assumption)
                            obtain ⟨ad359, e359, hx359_0⟩ := Kd.at_string (Kd.R_reads' HO_8.out).2.2 a1 p359 q359
                            cases e359
                            replace p359 := eq_true p359
                            replace q359 := eq_true q359
                            obtain ⟨Ao44, co44, eo44⟩ := Kd.R_slice HO_11.out
                            subst eo44
                            go_wp2_with (first | (go_at_call 21; (with_reducible refine (merkle_Includes.calls kj19 (rdOf ByteArray.empty t344 a1) (-1) (t344.length : Int) t348 _ _ t349 false _ ?side1 ?side2 A36.out).mono ?_); (case side1 => repeat (first | exact (Kd.R_reads' HO_11.out).2.2 | (with_reducible refine Kd.C_alloc ?_ _) | (with_reducible refine Kd.C_drewN ?_ _) | (with_reducible refine Kd.C_drew ?_))); (case side2 => exact (Kd.R_reads' HO_11.out).2.1); rintro e w45 ⟨rfl, hb⟩; have n0_ := Aside0.mk (Kd.R_below (by (with_reducible repeat (first | apply Kd.R_alloc | apply Kd.R_drewN | apply Kd.R_drew)); exact HO_8.out) hb); have n1_ := Aside0.mk (Kd.R_below (by (with_reducible repeat (first | apply Kd.R_alloc | apply Kd.R_drewN | apply Kd.R_drew)); exact HO_11.out) hb); have n2_ := Aside0.mk (Kd.R_below (by (with_reducible repeat (first | apply Kd.R_alloc | apply Kd.R_drewN | apply Kd.R_drew)); exact HO_13.out) hb); have n3_ := Aside0.mk (below_step (by repeat (first | (with_reducible first | exact HB.out | apply below_alloc | apply pw_below_drewN | apply below_drew1) | exact HB.out)) hb); clear HO_8; clear HO_11; clear HO_13; clear HB; have HO_8 := n0_; have HO_11 := n1_; have HO_13 := n2_; have HB := n3_; clear n0_ n1_ n2_ n3_; (try clear hb); (try clear hb2); (try clear hk); (try clear hi); have p361 : 0 ≤ (a1 : Int) := of_decide_eq_true (by first | (with_reducible assumption) | assumption); have q361 : a1 < (t344.length : Int) := of_decide_eq_true (by first | (with_reducible assumption) | assumption); obtain ⟨ad361, e361, hx361_0⟩ := Kd.at_string (Kd.R_reads' HO_8.out).2.2 a1 p361 q361; obtain rfl : ad359 = ad361 := (by injection e361); replace p361 := eq_true p361; replace q361 := eq_true q361) | (go_at_call 21; (with_reducible refine (merkle_Includes.calls kj19 (rdOf ByteArray.empty t344 a1) (t344.length : Int) (t344.length : Int) t348 _ _ t349 false _ ?side1 ?side2 A38.out).mono ?_); (case side1 => repeat (first | exact (Kd.R_reads' HO_11.out).2.2 | (with_reducible refine Kd.C_alloc ?_ _) | (with_reducible refine Kd.C_drewN ?_ _) | (with_reducible refine Kd.C_drew ?_))); (case side2 => exact (Kd.R_reads' HO_11.out).2.1); rintro e w46 ⟨rfl, hb⟩; have n0_ := Aside0.mk (Kd.R_below (by (with_reducible repeat (first | apply Kd.R_alloc | apply Kd.R_drewN | apply Kd.R_drew)); exact HO_8.out) hb); have n1_ := Aside0.mk (Kd.R_below (by (with_reducible repeat (first | apply Kd.R_alloc | apply Kd.R_drewN | apply Kd.R_drew)); exact HO_11.out) hb); have n2_ := Aside0.mk (Kd.R_below (by (with_reducible repeat (first | apply Kd.R_alloc | apply Kd.R_drewN | apply Kd.R_drew)); exact HO_13.out) hb); have n3_ := Aside0.mk (below_step (by repeat (first | (with_reducible first | exact HB.out | apply below_alloc | apply pw_below_drewN | apply below_drew1) | exact HB.out)) hb); clear HO_8; clear HO_11; clear HO_13; clear HB; have HO_8 := n0_; have HO_11 := n1_; have HO_13 := n2_; have HB := n3_; clear n0_ n1_ n2_ n3_; (try clear hb); (try clear hb2); (try clear hk); (try clear hi); have q47 : (a2 : Int) ≤ ((t344.length : Int) : Int) := of_decide_eq_true (by first | (with_reducible assumption) | assumption); obtain ⟨i047, hi047, _, hsz47, _⟩ := info_parts info9; have hroom47 : t344.length ≤ co21 := (Kd.R_reads' HO_8.out).2.1; have hC47 : Kd.C Kd.string _ (some ad359) t344.length t344 := (Kd.R_reads' HO_8.out).2.2; have hcut47 := cut_to (P := Try.prog) 22 9 .i64 Try.underlying22 hi047 (some ad359) t344.length co21 a2 (of_decide_eq_true (by first | (with_reducible assumption) | assumption)) q47 hroom47; have hr47 := Kd.C_take (m := (a2 : Int).toNat) hC47 (by omega); have hy47 : y363.length = (a2 : Int).toNat := (by rw [Ny363.out, List.length_take]; omega); rw [← Ny363.out] at hr47; rw [← hy47] at hcut47; have HR366 := Aside0.mk hr47; have HC366 := Aside0.mk (show y363.length ≤ co21 from by omega); clear hr47 hC47 hroom47 hi047 hsz47; have KY47 := Aside0.mk hy47; clear hy47; have KL47 := Aside0.mk (show (a2 : Int).toNat ≤ t344.length from by omega); replace q47 := eq_true q47) | (go_at_call 15; (with_reducible refine (merkle_Root.calls _ _ y363 t367 _ ?side1 ?side2 A42.out).mono ?_); (case side1 => repeat (first | exact (by repeat (first | (with_reducible exact HR366.out) | (with_reducible refine Kd.C_alloc ?_ _) | (with_reducible refine Kd.C_drewN ?_ _) | (with_reducible refine Kd.C_drew ?_) | exact HR366.out)) | (with_reducible refine Kd.C_alloc ?_ _) | (with_reducible refine Kd.C_drewN ?_ _) | (with_reducible refine Kd.C_drew ?_))); (case side2 => exact HC366.out); rintro e w48 ⟨rfl, hb⟩; have n0_ := Aside0.mk (Kd.R_below (by (with_reducible repeat (first | apply Kd.R_alloc | apply Kd.R_drewN | apply Kd.R_drew)); exact HO_8.out) hb); have n1_ := Aside0.mk (Kd.R_below (by (with_reducible repeat (first | apply Kd.R_alloc | apply Kd.R_drewN | apply Kd.R_drew)); exact HO_11.out) hb); have n2_ := Aside0.mk (Kd.R_below (by (with_reducible repeat (first | apply Kd.R_alloc | apply Kd.R_drewN | apply Kd.R_drew)); exact HO_13.out) hb); have n3_ := Aside0.mk (Kd.C_below (by repeat (first | (with_reducible exact HR366.out) | (with_reducible refine Kd.C_alloc ?_ _) | (with_reducible refine Kd.C_drewN ?_ _) | (with_reducible refine Kd.C_drew ?_) | exact HR366.out)) hb); have n4_ := Aside0.mk (below_step (by repeat (first | (with_reducible first | exact HB.out | apply below_alloc | apply pw_below_drewN | apply below_drew1) | exact HB.out)) hb); clear HO_8; clear HO_11; clear HO_13; clear HR366; clear HB; have HO_8 := n0_; have HO_11 := n1_; have HO_13 := n2_; have HR366 := n3_; have HB := n4_; clear n0_ n1_ n2_ n3_ n4_; (try clear hb); (try clear hb2); (try clear hk); (try clear hi); obtain ⟨Ao49, co49, eo49⟩ := Kd.R_slice HO_13.out; subst eo49) | (go_at_call 22; (with_reducible refine (merkle_Extends.calls kj19 a2 (t344.length : Int) t367 t348 (fun k_ => some k_ = (.slice Ao49 t353.length co49 : Value).ownBlock) _ _ t353 t368 _ ?side1 A43.out).mono ?_); (case side1 => exact Kd.R_V (Kd.R_tight rfl (HO_13.out))); rintro e w50 ⟨rfl, hb⟩; have n0_ := Aside0.mk (Kd.R_below (by (with_reducible repeat (first | apply Kd.R_alloc | apply Kd.R_drewN | apply Kd.R_drew)); exact HO_8.out) hb); have n1_ := Aside0.mk (Kd.R_below (by (with_reducible repeat (first | apply Kd.R_alloc | apply Kd.R_drewN | apply Kd.R_drew)); exact HO_11.out) hb); have n2_ := Aside0.mk (Kd.R_below (by (with_reducible repeat (first | apply Kd.R_alloc | apply Kd.R_drewN | apply Kd.R_drew)); exact HO_13.out) hb); have n3_ := Aside0.mk (Kd.C_below (by repeat (first | (with_reducible exact HR366.out) | (with_reducible refine Kd.C_alloc ?_ _) | (with_reducible refine Kd.C_drewN ?_ _) | (with_reducible refine Kd.C_drew ?_) | exact HR366.out)) hb); have n4_ := Aside0.mk (below_step (by repeat (first | (with_reducible first | exact HB.out | apply below_alloc | apply pw_below_drewN | apply below_drew1) | exact HB.out)) hb); clear HO_8; clear HO_11; clear HO_13; clear HR366; clear HB; have HO_8 := n0_; have HO_11 := n1_; have HO_13 := n2_; have HR366 := n3_; have HB := n4_; clear n0_ n1_ n2_ n3_ n4_; (try clear hb); (try clear hb2); (try clear hk); (try clear hi)))
                            go_ret
                            exact ⟨by first | rfl | (simp [errW_none, errW_some] <;> rfl) | (simp [*, errW_none, errW_some] <;> rfl), by repeat (first | (with_reducible first | exact HB.out | apply below_alloc | apply pw_below_drewN | apply below_drew1) | exact HB.out)⟩
                          · rw [if_neg c41] at H
                            exact absurd H (by simp)
                        · rw [if_neg c40] at H
                          exact absurd H (by simp)
                  · rw [if_neg c35] at H
                    exact absurd H (by simp)
                · rw [if_neg c34] at H
                  exact absurd H (by simp)
              · replace c33 := Bool.eq_false_iff.mpr c33
                subst c33
                have H1 : (none) = some r := by rw [if_neg (show ¬ (false = true) by decide)] at H; exact H
                clear H
                have H := H1
                clear H1
                exact absurd H (by simp)
end Go.Proofs.Ytkhkppehdgkboaa.P
end P15_MerkleProves_
