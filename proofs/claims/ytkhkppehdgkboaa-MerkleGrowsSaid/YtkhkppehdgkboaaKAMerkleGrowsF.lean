/- Texts of this claim, merged: what the functions that the law reaches compute, and what that says. -/
import Derived.Test.YtkhkppehdgkboaaKA4
import Derived.Test.YtkhkppehdgkboaaKA14
import Derived.Test.YtkhkppehdgkboaaKA15
import Derived.Test.YtkhkppehdgkboaaKA18
import Derived.Test.YtkhkppehdgkboaaKA20
section P18_MerkleGrows_
namespace Go.Proofs.Ytkhkppehdgkboaa.P
open Go.RowKit Go.Proofs.YtkhkppehdgkboaaW.PrintWords Go.Proofs.YtkhkppehdgkboaaW.PrintLast Go.Proofs.YtkhkppehdgkboaaW.PrintMore
attribute [local go_sem] max2_int min2_int max_two min_two max_three min_three max_four min_four   -- for this text's walks alone
set_option linter.unusedVariables false
set_option linter.unusedSimpArgs false
mutual
def agoralaw08_MerkleGrows.j0 : Nat → List ByteArray → Bool → List ByteArray → List ByteArray → Bool → Option (Bool)
  | 0, _, _, _, _, _ => none
  | k + 1, x2, x7, x8, x10, x51 => if x51 = true then (some x7) else (if (x8.length : Int) = 0 then (agoralaw08_MerkleGrows.j1 k x2 x7 x8 x10 true) else (if 0 ≤ (x8.length : Int) then (if (x8.length : Int) ≤ (x10.length : Int) then ((agoraref08_Same.f k x8 (x10.take ((x8.length : Int) : Int).toNat)).bind fun t494 => (agoralaw08_MerkleGrows.j1 k x2 x7 x8 x10 t494)) else (none)) else (none)))
def agoralaw08_MerkleGrows.j1 : Nat → List ByteArray → Bool → List ByteArray → List ByteArray → Bool → Option (Bool)
  | 0, _, _, _, _, _ => none
  | k + 1, x2, x7, x8, x10, x63 => if x63 = true then (some x7) else ((merkle_Root.f x8).bind fun t495 => ((agoraref08_Roots.f k (x8.length : Int) (x10.length : Int) t495 x2 true).bind fun bt496 => ((agoraref08_Inputs.f k x8).bind fun t502 => ((agoraref08_Inputs.f k x10).bind fun t505 => (if t502.length + t505.length < 8796093022208 then ((some (t502 ++ t505 : List ByteArray)).bind fun y508 => (if y508.length + bt496.2.2.1.length < 8796093022208 then (if x7 = true then ((agoraref08_Clash.f k (y508 ++ bt496.2.2.1)).bind fun t514 => (some t514)) else (none)) else (none))) else (none))))))
end
def agoralaw08_MerkleGrows.f (k : Nat) (l0 : List ByteArray) (l1 : List ByteArray) (l2 : List ByteArray) : Option (Bool) := (agoralaw08_small.f k).bind fun t477 => ((agoralaw08_leaves.f k l0).bind fun bt478 => ((agoralaw08_leaves.f k l1).bind fun bt482 => (if bt478.2 = true then (if bt482.2 = true then ((agoralaw08_short.f k l2).bind fun t486 => (if t486 = true then ((merkle_Root.f bt478.1).bind fun t487 => ((merkle_Root.f bt482.1).bind fun t488 => ((merkle_Extends.f k (bt478.1.length : Int) (bt482.1.length : Int) t487 t488 l2).bind fun t489 => (agoralaw08_MerkleGrows.j0 k l2 t477 bt478.1 bt482.1 (!t489))))) else (agoralaw08_MerkleGrows.j0 k l2 t477 bt478.1 bt482.1 true))) else (agoralaw08_MerkleGrows.j0 k l2 t477 bt478.1 bt482.1 true)) else (agoralaw08_MerkleGrows.j0 k l2 t477 bt478.1 bt482.1 true))))
set_option maxHeartbeats 8000000 in
set_option maxRecDepth 100000 in
theorem agoralaw08_MerkleGrows.calls (k : Nat) (A0 : Option Addr) (c0 : Nat) (l0 : List ByteArray) (A1 : Option Addr) (c1 : Nat) (l1 : List ByteArray) (A2 : Option Addr) (c2 : Nat) (l2 : List ByteArray) (r : Bool) (w : World) (hr0 : Kd.C Kd.string w A0 l0.length l0) (hc0 : l0.length ≤ c0) (hr1 : Kd.C Kd.string w A1 l1.length l1) (hc1 : l1.length ≤ c1) (hr2 : Kd.C Kd.string w A2 l2.length l2) (hc2 : l2.length ≤ c2) (h : agoralaw08_MerkleGrows.f k l0 l1 l2 = some r) :
    Calls Try.prog 6 #[.slice A0 l0.length c0, .slice A1 l1.length c1, .slice A2 l2.length c2] w fun e w' => e = .returned (.bool r) ∧ Below w.heap.size w w' := by
  have HR0 := Aside0.mk hr0
  have HC0 := Aside0.mk hc0
  clear hr0 hc0
  have HR1 := Aside0.mk hr1
  have HC1 := Aside0.mk hc1
  clear hr1 hc1
  have HR2 := Aside0.mk hr2
  have HC2 := Aside0.mk hc2
  clear hr2 hc2
  have HB := Aside0.mk (Below.refl w.heap.size w)
  have H : ((agoralaw08_small.f k).bind fun t477 => ((agoralaw08_leaves.f k l0).bind fun bt478 => ((agoralaw08_leaves.f k l1).bind fun bt482 => (if bt478.2 = true then (if bt482.2 = true then ((agoralaw08_short.f k l2).bind fun t486 => (if t486 = true then ((merkle_Root.f bt478.1).bind fun t487 => ((merkle_Root.f bt482.1).bind fun t488 => ((merkle_Extends.f k (bt478.1.length : Int) (bt482.1.length : Int) t487 t488 l2).bind fun t489 => (agoralaw08_MerkleGrows.j0 k l2 t477 bt478.1 bt482.1 (!t489))))) else (agoralaw08_MerkleGrows.j0 k l2 t477 bt478.1 bt482.1 true))) else (agoralaw08_MerkleGrows.j0 k l2 t477 bt478.1 bt482.1 true)) else (agoralaw08_MerkleGrows.j0 k l2 t477 bt478.1 bt482.1 true))))) = some r := h
  clear h
  replace H := Option.bind_eq_some_iff.mp H
  obtain ⟨t477, A40, H⟩ := H
  replace H : ((agoralaw08_leaves.f k l0).bind fun bt478 => ((agoralaw08_leaves.f k l1).bind fun bt482 => (if bt478.2 = true then (if bt482.2 = true then ((agoralaw08_short.f k l2).bind fun t486 => (if t486 = true then ((merkle_Root.f bt478.1).bind fun t487 => ((merkle_Root.f bt482.1).bind fun t488 => ((merkle_Extends.f k (bt478.1.length : Int) (bt482.1.length : Int) t487 t488 l2).bind fun t489 => (agoralaw08_MerkleGrows.j0 k l2 t477 bt478.1 bt482.1 (!t489))))) else (agoralaw08_MerkleGrows.j0 k l2 t477 bt478.1 bt482.1 true))) else (agoralaw08_MerkleGrows.j0 k l2 t477 bt478.1 bt482.1 true)) else (agoralaw08_MerkleGrows.j0 k l2 t477 bt478.1 bt482.1 true)))) = some r := H
  have A4 := Aside0.mk A40
  clear A40
  replace H := Option.bind_eq_some_iff.mp H
  obtain ⟨⟨t478, t479⟩, A50, H⟩ := H
  replace H : ((agoralaw08_leaves.f k l1).bind fun bt482 => (if t479 = true then (if bt482.2 = true then ((agoralaw08_short.f k l2).bind fun t486 => (if t486 = true then ((merkle_Root.f t478).bind fun t487 => ((merkle_Root.f bt482.1).bind fun t488 => ((merkle_Extends.f k (t478.length : Int) (bt482.1.length : Int) t487 t488 l2).bind fun t489 => (agoralaw08_MerkleGrows.j0 k l2 t477 t478 bt482.1 (!t489))))) else (agoralaw08_MerkleGrows.j0 k l2 t477 t478 bt482.1 true))) else (agoralaw08_MerkleGrows.j0 k l2 t477 t478 bt482.1 true)) else (agoralaw08_MerkleGrows.j0 k l2 t477 t478 bt482.1 true))) = some r := H
  have A5 := Aside0.mk A50
  clear A50
  replace H := Option.bind_eq_some_iff.mp H
  obtain ⟨⟨t482, t483⟩, A60, H⟩ := H
  replace H : (if t479 = true then (if t483 = true then ((agoralaw08_short.f k l2).bind fun t486 => (if t486 = true then ((merkle_Root.f t478).bind fun t487 => ((merkle_Root.f t482).bind fun t488 => ((merkle_Extends.f k (t478.length : Int) (t482.length : Int) t487 t488 l2).bind fun t489 => (agoralaw08_MerkleGrows.j0 k l2 t477 t478 t482 (!t489))))) else (agoralaw08_MerkleGrows.j0 k l2 t477 t478 t482 true))) else (agoralaw08_MerkleGrows.j0 k l2 t477 t478 t482 true)) else (agoralaw08_MerkleGrows.j0 k l2 t477 t478 t482 true)) = some r := H
  have A6 := Aside0.mk A60
  clear A60
  have HC7 := Aside0.mk H
  clear H
  go_enter Try.func6, Try.ntmps6
  go_upto_region 4 with (first | ((with_reducible refine gate_callee (f := 9) rfl ?_); refine goesL_ (some 17) rfl rfl Try.func9 (by kernel_rfl) rfl #[] rfl (by (try simp only [List.map_toArray, List.map_cons, List.map_nil]); first | done | rfl | (simp only [List.length_drop, List.length_take]; rfl)) ?_; (with_reducible refine (agoralaw08_small.calls k  t477 _ A4.out).mono ?_); rintro e w8 ⟨rfl, hb⟩; refine ⟨_, rfl, ?_⟩; have n0_ := Aside0.mk (below_step (by repeat (first | (with_reducible first | exact HB.out | apply below_alloc | apply pw_below_drewN | apply below_drew1) | exact HB.out)) hb); clear HB; have HB := n0_; clear n0_; (try clear hb); (try clear hb2); (try clear hk); (try clear hi)) | ((with_reducible refine gate_callee (f := 20) rfl ?_); refine goesL_ (some 20) rfl rfl Try.func20 (by kernel_rfl) rfl #[.slice A0 l0.length c0] rfl (by (try simp only [List.map_toArray, List.map_cons, List.map_nil]); first | done | rfl | (simp only [List.length_drop, List.length_take]; rfl)) ?_; (with_reducible refine (agoralaw08_leaves.calls k _ _ l0 t478 t479 _ ?side1 ?side2 A5.out).mono ?_); (case side1 => repeat (first | exact (Kd.C_below HR0.out HB.out) | (with_reducible refine Kd.C_alloc ?_ _) | (with_reducible refine Kd.C_drewN ?_ _) | (with_reducible refine Kd.C_drew ?_))); (case side2 => exact HC0.out); rintro e w9 ⟨v480, rfl, ho0, hb⟩; refine ⟨_, rfl, ?_⟩; have n0_ := Aside0.mk (Kd.R_lower ho0 (below_size (by repeat (first | (with_reducible first | exact HB.out | apply below_alloc | apply pw_below_drewN | apply below_drew1) | exact HB.out)))); have n1_ := Aside0.mk (below_step (by repeat (first | (with_reducible first | exact HB.out | apply below_alloc | apply pw_below_drewN | apply below_drew1) | exact HB.out)) hb); clear HB; have HO481 := n0_; have HB := n1_; clear n0_ n1_; (try clear hb); (try clear hb2); (try clear hk); (try clear hi); (try clear ho0)) | ((with_reducible refine gate_callee (f := 20) rfl ?_); refine goesL_ (some 25) rfl rfl Try.func20 (by kernel_rfl) rfl #[.slice A1 l1.length c1] rfl (by (try simp only [List.map_toArray, List.map_cons, List.map_nil]); first | done | rfl | (simp only [List.length_drop, List.length_take]; rfl)) ?_; (with_reducible refine (agoralaw08_leaves.calls k _ _ l1 t482 t483 _ ?side1 ?side2 A6.out).mono ?_); (case side1 => repeat (first | exact (Kd.C_below HR1.out HB.out) | (with_reducible refine Kd.C_alloc ?_ _) | (with_reducible refine Kd.C_drewN ?_ _) | (with_reducible refine Kd.C_drew ?_))); (case side2 => exact HC1.out); rintro e w10 ⟨v484, rfl, ho0, hb⟩; refine ⟨_, rfl, ?_⟩; have n0_ := Aside0.mk (Kd.R_elder' (by (with_reducible repeat (first | apply Kd.R_alloc | apply Kd.R_drewN | apply Kd.R_drew)); exact HO481.out) (Kd.R_base ho0) hb); have n1_ := Aside0.mk (Kd.R_lower (Kd.R_new' ho0 (Kd.R_lt (by (with_reducible repeat (first | apply Kd.R_alloc | apply Kd.R_drewN | apply Kd.R_drew)); exact HO481.out))) (below_size (by repeat (first | (with_reducible first | exact HB.out | apply below_alloc | apply pw_below_drewN | apply below_drew1) | exact HB.out)))); have n2_ := Aside0.mk (below_step (by repeat (first | (with_reducible first | exact HB.out | apply below_alloc | apply pw_below_drewN | apply below_drew1) | exact HB.out)) hb); clear HO481; clear HB; have HO481 := n0_; have HO485 := n1_; have HB := n2_; clear n0_ n1_ n2_; (try clear hb); (try clear hb2); (try clear hk); (try clear hi); (try clear ho0)))
  (try simp only [Act.put, List.setIfInBounds_toArray, List.set_cons_zero, List.set_cons_succ])
  go_cut [51] (fun v51 wc => ∃ (kq : Nat) (x51_6 : Bool), v51 = .bool x51_6 ∧ Aside0 (agoralaw08_MerkleGrows.j0 kq l2 t477 t478 t482 x51_6 = some r) ∧ Aside0 (kq ≤ k) ∧ Aside0 (Kd.R Kd.string 9 wc w.heap.size (fun k_ => some k_ ≠ (v484 : Value).ownBlock) v480 t478) ∧ Aside0 (Kd.R Kd.string 9 wc w.heap.size (fun k_ => some k_ ≠ (v480 : Value).ownBlock) v484 t482) ∧ Aside0 (Below w.heap.size w wc))
  case first =>
    have H := HC7.out
    clear HC7
    by_cases c11 : t479 = true
    · subst c11
      have H1 : (if t483 = true then ((agoralaw08_short.f k l2).bind fun t486 => (if t486 = true then ((merkle_Root.f t478).bind fun t487 => ((merkle_Root.f t482).bind fun t488 => ((merkle_Extends.f k (t478.length : Int) (t482.length : Int) t487 t488 l2).bind fun t489 => (agoralaw08_MerkleGrows.j0 k l2 t477 t478 t482 (!t489))))) else (agoralaw08_MerkleGrows.j0 k l2 t477 t478 t482 true))) else (agoralaw08_MerkleGrows.j0 k l2 t477 t478 t482 true)) = some r := by rw [if_pos rfl] at H; exact H
      clear H
      have H := H1
      clear H1
      by_cases c12 : t483 = true
      · subst c12
        have H1 : ((agoralaw08_short.f k l2).bind fun t486 => (if t486 = true then ((merkle_Root.f t478).bind fun t487 => ((merkle_Root.f t482).bind fun t488 => ((merkle_Extends.f k (t478.length : Int) (t482.length : Int) t487 t488 l2).bind fun t489 => (agoralaw08_MerkleGrows.j0 k l2 t477 t478 t482 (!t489))))) else (agoralaw08_MerkleGrows.j0 k l2 t477 t478 t482 true))) = some r := by rw [if_pos rfl] at H; exact H
        clear H
        have H := H1
        clear H1
        replace H := Option.bind_eq_some_iff.mp H
        obtain ⟨t486, A130, H⟩ := H
        replace H : (if t486 = true then ((merkle_Root.f t478).bind fun t487 => ((merkle_Root.f t482).bind fun t488 => ((merkle_Extends.f k (t478.length : Int) (t482.length : Int) t487 t488 l2).bind fun t489 => (agoralaw08_MerkleGrows.j0 k l2 t477 t478 t482 (!t489))))) else (agoralaw08_MerkleGrows.j0 k l2 t477 t478 t482 true)) = some r := H
        have A13 := Aside0.mk A130
        clear A130
        by_cases c14 : t486 = true
        · subst c14
          have H1 : ((merkle_Root.f t478).bind fun t487 => ((merkle_Root.f t482).bind fun t488 => ((merkle_Extends.f k (t478.length : Int) (t482.length : Int) t487 t488 l2).bind fun t489 => (agoralaw08_MerkleGrows.j0 k l2 t477 t478 t482 (!t489))))) = some r := by rw [if_pos rfl] at H; exact H
          clear H
          have H := H1
          clear H1
          replace H := Option.bind_eq_some_iff.mp H
          obtain ⟨t487, A150, H⟩ := H
          replace H : ((merkle_Root.f t482).bind fun t488 => ((merkle_Extends.f k (t478.length : Int) (t482.length : Int) t487 t488 l2).bind fun t489 => (agoralaw08_MerkleGrows.j0 k l2 t477 t478 t482 (!t489)))) = some r := H
          have A15 := Aside0.mk A150
          clear A150
          replace H := Option.bind_eq_some_iff.mp H
          obtain ⟨t488, A160, H⟩ := H
          replace H : ((merkle_Extends.f k (t478.length : Int) (t482.length : Int) t487 t488 l2).bind fun t489 => (agoralaw08_MerkleGrows.j0 k l2 t477 t478 t482 (!t489))) = some r := H
          have A16 := Aside0.mk A160
          clear A160
          replace H := Option.bind_eq_some_iff.mp H
          obtain ⟨t489, A170, H⟩ := H
          replace H : (agoralaw08_MerkleGrows.j0 k l2 t477 t478 t482 (!t489)) = some r := H
          have A17 := Aside0.mk A170
          clear A170
          have H' := Aside0.mk H
          clear H
          go_wp2_with (first | (go_at_call 10; (with_reducible refine (agoralaw08_short.calls k _ _ l2 true _ ?side1 ?side2 A13.out).mono ?_); (case side1 => repeat (first | exact (Kd.C_below HR2.out HB.out) | (with_reducible refine Kd.C_alloc ?_ _) | (with_reducible refine Kd.C_drewN ?_ _) | (with_reducible refine Kd.C_drew ?_))); (case side2 => exact HC2.out); rintro e w' ⟨rfl, ⟨nd, rfl⟩⟩; obtain ⟨Ao18, co18, eo18⟩ := Kd.R_slice HO481.out; subst eo18; obtain ⟨Ao19, co19, eo19⟩ := Kd.R_slice HO485.out; subst eo19) | (go_at_call 15; (with_reducible refine (merkle_Root.calls _ _ t478 t487 _ ?side1 ?side2 A15.out).mono ?_); (case side1 => repeat (first | exact (Kd.R_reads' HO481.out).2.2 | (with_reducible refine Kd.C_alloc ?_ _) | (with_reducible refine Kd.C_drewN ?_ _) | (with_reducible refine Kd.C_drew ?_))); (case side2 => exact (Kd.R_reads' HO481.out).2.1); rintro e w20 ⟨rfl, hb⟩; have n0_ := Aside0.mk (Kd.R_below (by (with_reducible repeat (first | apply Kd.R_alloc | apply Kd.R_drewN | apply Kd.R_drew)); exact HO481.out) hb); have n1_ := Aside0.mk (Kd.R_below (by (with_reducible repeat (first | apply Kd.R_alloc | apply Kd.R_drewN | apply Kd.R_drew)); exact HO485.out) hb); have n2_ := Aside0.mk (below_step (by repeat (first | (with_reducible first | exact HB.out | apply below_alloc | apply pw_below_drewN | apply below_drew1) | exact HB.out)) hb); clear HO481; clear HO485; clear HB; have HO481 := n0_; have HO485 := n1_; have HB := n2_; clear n0_ n1_ n2_; (try clear hb); (try clear hb2); (try clear hk); (try clear hi)) | (go_at_call 15; (with_reducible refine (merkle_Root.calls _ _ t482 t488 _ ?side1 ?side2 A16.out).mono ?_); (case side1 => repeat (first | exact (Kd.R_reads' HO485.out).2.2 | (with_reducible refine Kd.C_alloc ?_ _) | (with_reducible refine Kd.C_drewN ?_ _) | (with_reducible refine Kd.C_drew ?_))); (case side2 => exact (Kd.R_reads' HO485.out).2.1); rintro e w21 ⟨rfl, hb⟩; have n0_ := Aside0.mk (Kd.R_below (by (with_reducible repeat (first | apply Kd.R_alloc | apply Kd.R_drewN | apply Kd.R_drew)); exact HO481.out) hb); have n1_ := Aside0.mk (Kd.R_below (by (with_reducible repeat (first | apply Kd.R_alloc | apply Kd.R_drewN | apply Kd.R_drew)); exact HO485.out) hb); have n2_ := Aside0.mk (below_step (by repeat (first | (with_reducible first | exact HB.out | apply below_alloc | apply pw_below_drewN | apply below_drew1) | exact HB.out)) hb); clear HO481; clear HO485; clear HB; have HO481 := n0_; have HO485 := n1_; have HB := n2_; clear n0_ n1_ n2_; (try clear hb); (try clear hb2); (try clear hk); (try clear hi)) | (go_at_call 22; (with_reducible refine (merkle_Extends.calls k (t478.length : Int) (t482.length : Int) t487 t488 (fun k_ => k_ < w.heap.size) _ _ l2 t489 _ ?side1 A17.out).mono ?_); (case side1 => exact Kd.V_mk HC2.out (Kd.F_below (Kd.C_F Kd.heap_string HR2.out) (by repeat (first | (with_reducible first | exact HB.out | apply below_alloc | apply pw_below_drewN | apply below_drew1) | exact HB.out)))); rintro e w22 ⟨rfl, hb⟩; have n0_ := Aside0.mk (Kd.R_below (by (with_reducible repeat (first | apply Kd.R_alloc | apply Kd.R_drewN | apply Kd.R_drew)); exact HO481.out) hb); have n1_ := Aside0.mk (Kd.R_below (by (with_reducible repeat (first | apply Kd.R_alloc | apply Kd.R_drewN | apply Kd.R_drew)); exact HO485.out) hb); have n2_ := Aside0.mk (below_step (by repeat (first | (with_reducible first | exact HB.out | apply below_alloc | apply pw_below_drewN | apply below_drew1) | exact HB.out)) hb); clear HO481; clear HO485; clear HB; have HO481 := n0_; have HO485 := n1_; have HB := n2_; clear n0_ n1_ n2_; (try clear hb); (try clear hb2); (try clear hk); (try clear hi)))
          go_meet
          case rel => exact ⟨_, (!t489), (by first | rfl | (simp; done) | (simp [*]; done)), H', ⟨by first | omega | exact Nat.le_refl _⟩, ⟨by (with_reducible repeat (first | apply Kd.R_alloc | apply Kd.R_drewN | apply Kd.R_drew)); exact Kd.R_mono HO481.out (fun _ hk => hk.2)⟩, ⟨by (with_reducible repeat (first | apply Kd.R_alloc | apply Kd.R_drewN | apply Kd.R_drew)); exact Kd.R_mono HO485.out (fun _ hk => hk.2)⟩, ⟨by repeat (first | (with_reducible first | exact HB.out | apply below_alloc | apply pw_below_drewN | apply below_drew1) | exact HB.out)⟩⟩
        · replace c14 := Bool.eq_false_iff.mpr c14
          subst c14
          have H1 : (agoralaw08_MerkleGrows.j0 k l2 t477 t478 t482 true) = some r := by rw [if_neg (show ¬ (false = true) by decide)] at H; exact H
          clear H
          have H := H1
          clear H1
          have H' := Aside0.mk H
          clear H
          go_wp2_with (first | (go_at_call 10; (with_reducible refine (agoralaw08_short.calls k _ _ l2 false _ ?side1 ?side2 A13.out).mono ?_); (case side1 => repeat (first | exact (Kd.C_below HR2.out HB.out) | (with_reducible refine Kd.C_alloc ?_ _) | (with_reducible refine Kd.C_drewN ?_ _) | (with_reducible refine Kd.C_drew ?_))); (case side2 => exact HC2.out); rintro e w' ⟨rfl, ⟨nd, rfl⟩⟩))
          go_meet
          case rel => exact ⟨_, (true), (by first | rfl | (simp; done) | (simp [*]; done)), H', ⟨by first | omega | exact Nat.le_refl _⟩, ⟨by (with_reducible repeat (first | apply Kd.R_alloc | apply Kd.R_drewN | apply Kd.R_drew)); exact Kd.R_mono HO481.out (fun _ hk => hk.2)⟩, ⟨by (with_reducible repeat (first | apply Kd.R_alloc | apply Kd.R_drewN | apply Kd.R_drew)); exact Kd.R_mono HO485.out (fun _ hk => hk.2)⟩, ⟨by repeat (first | (with_reducible first | exact HB.out | apply below_alloc | apply pw_below_drewN | apply below_drew1) | exact HB.out)⟩⟩
      · replace c12 := Bool.eq_false_iff.mpr c12
        subst c12
        have H1 : (agoralaw08_MerkleGrows.j0 k l2 t477 t478 t482 true) = some r := by rw [if_neg (show ¬ (false = true) by decide)] at H; exact H
        clear H
        have H := H1
        clear H1
        have H' := Aside0.mk H
        clear H
        go_wp2
        go_meet
        case rel => exact ⟨_, (true), (by first | rfl | (simp; done) | (simp [*]; done)), H', ⟨by first | omega | exact Nat.le_refl _⟩, ⟨by (with_reducible repeat (first | apply Kd.R_alloc | apply Kd.R_drewN | apply Kd.R_drew)); exact Kd.R_mono HO481.out (fun _ hk => hk.2)⟩, ⟨by (with_reducible repeat (first | apply Kd.R_alloc | apply Kd.R_drewN | apply Kd.R_drew)); exact Kd.R_mono HO485.out (fun _ hk => hk.2)⟩, ⟨by repeat (first | (with_reducible first | exact HB.out | apply below_alloc | apply pw_below_drewN | apply below_drew1) | exact HB.out)⟩⟩
    · replace c11 := Bool.eq_false_iff.mpr c11
      subst c11
      have H1 : (agoralaw08_MerkleGrows.j0 k l2 t477 t478 t482 true) = some r := by rw [if_neg (show ¬ (false = true) by decide)] at H; exact H
      clear H
      have H := H1
      clear H1
      have H' := Aside0.mk H
      clear H
      go_wp2
      go_meet
      case rel => exact ⟨_, (true), (by first | rfl | (simp; done) | (simp [*]; done)), H', ⟨by first | omega | exact Nat.le_refl _⟩, ⟨by (with_reducible repeat (first | apply Kd.R_alloc | apply Kd.R_drewN | apply Kd.R_drew)); exact Kd.R_mono HO481.out (fun _ hk => hk.2)⟩, ⟨by (with_reducible repeat (first | apply Kd.R_alloc | apply Kd.R_drewN | apply Kd.R_drew)); exact Kd.R_mono HO485.out (fun _ hk => hk.2)⟩, ⟨by repeat (first | (with_reducible first | exact HB.out | apply below_alloc | apply pw_below_drewN | apply below_drew1) | exact HB.out)⟩⟩
  case rest =>
    clear HC7
    try clear c1
    try clear c2
    try clear p2
    try clear c6
    try clear c9
    try clear c11
    try clear c12
    try clear c14
    try clear c20
    obtain ⟨kq, x51_6, rfl, HA, HJ6, HO_8, HO_10, HB⟩ := hcut
    cases kq with
    | zero => exact absurd HA.out (by simp [agoralaw08_MerkleGrows.j0])
    | succ kj6 =>
      have H := HA.out
      clear HA
      simp only [agoralaw08_MerkleGrows.j0] at H
      by_cases c23 : x51_6 = true
      · subst c23
        have H1 : (some t477) = some r := by rw [if_pos rfl] at H; exact H
        clear H
        have H := H1
        clear H1
        obtain rfl := Option.some.inj H
        go_wp2
        go_ret
        exact ⟨by first | rfl | (simp [errW_none, errW_some] <;> rfl) | (simp [*, errW_none, errW_some] <;> rfl), by repeat (first | (with_reducible first | exact HB.out | apply below_alloc | apply pw_below_drewN | apply below_drew1) | exact HB.out)⟩
      · replace c23 := Bool.eq_false_iff.mpr c23
        subst c23
        have H1 : (if (t478.length : Int) = 0 then (agoralaw08_MerkleGrows.j1 kj6 l2 t477 t478 t482 true) else (if 0 ≤ (t478.length : Int) then (if (t478.length : Int) ≤ (t482.length : Int) then ((agoraref08_Same.f kj6 t478 (t482.take ((t478.length : Int) : Int).toNat)).bind fun t494 => (agoralaw08_MerkleGrows.j1 kj6 l2 t477 t478 t482 t494)) else (none)) else (none))) = some r := by rw [if_neg (show ¬ (false = true) by decide)] at H; exact H
        clear H
        have H := H1
        clear H1
        have HC24 := Aside0.mk H
        clear H
        go_upto_region 6 with (fail)
        go_cut [63] (fun v63 wc => ∃ (kq : Nat) (x63_23 : Bool), v63 = .bool x63_23 ∧ Aside0 (agoralaw08_MerkleGrows.j1 kq l2 t477 t478 t482 x63_23 = some r) ∧ Aside0 (kq ≤ kj6) ∧ Aside0 (Kd.R Kd.string 9 wc w.heap.size (fun k_ => some k_ ≠ (v484 : Value).ownBlock) v480 t478) ∧ Aside0 (Kd.R Kd.string 9 wc w.heap.size (fun k_ => some k_ ≠ (v480 : Value).ownBlock) v484 t482) ∧ Aside0 (Below w.heap.size w wc))
        case first =>
          have H := HC24.out
          clear HC24
          by_cases c25 : (t478.length : Int) = 0
          · rw [if_pos c25] at H
            have c25b0 : ((t478.length : Int) == 0) = true := beq_iff_eq.mpr c25
            have c25b1 : ((t478.length : Int) != 0) = false := bne_eq_false_iff_eq.mpr c25
            clear c25
            (first | rw [c25b0] | (simp only [i64_w, i32_w]; rw [c25b0]) | skip)
            have H' := Aside0.mk H
            clear H
            obtain ⟨Ao26, co26, eo26⟩ := Kd.R_slice HO_8.out
            subst eo26
            go_wp2
            go_meet
            case rel => exact ⟨_, (true), (by first | rfl | (simp; done) | (simp [*]; done)), H', ⟨by have := HJ6.out; first | omega | exact Nat.le_refl _⟩, ⟨by (with_reducible repeat (first | apply Kd.R_alloc | apply Kd.R_drewN | apply Kd.R_drew)); exact HO_8.out⟩, ⟨by (with_reducible repeat (first | apply Kd.R_alloc | apply Kd.R_drewN | apply Kd.R_drew)); exact HO_10.out⟩, ⟨by repeat (first | (with_reducible first | exact HB.out | apply below_alloc | apply pw_below_drewN | apply below_drew1) | exact HB.out)⟩⟩
          · rw [if_neg c25] at H
            have c25b0 : ((t478.length : Int) == 0) = false := beq_eq_false_iff_ne.mpr c25
            have c25b1 : ((t478.length : Int) != 0) = true := bne_iff_ne.mpr c25
            have c25b2 : ¬ (t478 = []) := fun h_ => c25 (by rw [h_]; rfl)
            (first | rw [c25b0] | (simp only [i64_w, i32_w]; rw [c25b0]) | skip)
            by_cases c27 : 0 ≤ (t478.length : Int)
            · rw [if_pos c27] at H
              have c27b0 := eq_true c27
              have c27b1 : decide (0 ≤ (t478.length : Int)) = true := decide_eq_true c27
              clear c27
              by_cases c28 : (t478.length : Int) ≤ (t482.length : Int)
              · rw [if_pos c28] at H
                have c28b0 := eq_true c28
                have c28b1 : decide ((t478.length : Int) ≤ (t482.length : Int)) = true := decide_eq_true c28
                clear c28
                obtain ⟨y490, hy490⟩ : ∃ y_ : List ByteArray, y_ = (t482.take ((t478.length : Int) : Int).toNat) := ⟨_, rfl⟩
                replace H : ((agoraref08_Same.f kj6 t478 y490).bind fun t494 => (agoralaw08_MerkleGrows.j1 kj6 l2 t477 t478 t482 t494)) = some r := by first | (rw [hy490]; with_reducible exact H) | (have H2_ := (Option.bind_some _ _).symm.trans H; rw [hy490]; with_reducible exact H2_) | (have H2_ := (Option.bind_some _ _).symm.trans H; with_reducible exact H2_) | with_reducible exact H | (rw [hy490]; exact H) | exact H
                have Ny490 := Aside0.mk hy490
                clear hy490
                replace H := Option.bind_eq_some_iff.mp H
                obtain ⟨t494, A290, H⟩ := H
                replace H : (agoralaw08_MerkleGrows.j1 kj6 l2 t477 t478 t482 t494) = some r := H
                have A29 := Aside0.mk A290
                clear A290
                have H' := Aside0.mk H
                clear H
                obtain ⟨Ao30, co30, eo30⟩ := Kd.R_slice HO_8.out
                subst eo30
                obtain ⟨Ao32, co32, eo32⟩ := Kd.R_slice HO_10.out
                subst eo32
                have q31 : ((t478.length : Int) : Int) ≤ ((t482.length : Int) : Int) := of_decide_eq_true (by first | (with_reducible assumption) | assumption)
                obtain ⟨i031, hi031, _, hsz31, _⟩ := info_parts info9
                have hroom31 : t482.length ≤ co32 := (Kd.R_reads' HO_10.out).2.1
                have hC31 : Kd.C Kd.string _ Ao32 t482.length t482 := (Kd.R_reads' HO_10.out).2.2
                have hcut31 := cut_to (P := Try.prog) 22 9 .i64 Try.underlying22 hi031 Ao32 t482.length co32 (t478.length : Int) (of_decide_eq_true (by first | (with_reducible assumption) | assumption)) q31 hroom31
                have hr31 := Kd.C_take (m := ((t478.length : Int) : Int).toNat) hC31 (by omega)
                have hy31 : y490.length = ((t478.length : Int) : Int).toNat := (by rw [Ny490.out, List.length_take]; omega)
                rw [← Ny490.out] at hr31
                rw [← hy31] at hcut31
                have HR493 := Aside0.mk hr31
                have HC493 := Aside0.mk (show y490.length ≤ co32 from by omega)
                clear hr31 hC31 hroom31 hi031 hsz31
                have KY31 := Aside0.mk hy31
                clear hy31
                have KL31 := Aside0.mk (show ((t478.length : Int) : Int).toNat ≤ t482.length from by omega)
                replace q31 := eq_true q31
                go_wp2_with (first | (go_at_call 17; (with_reducible refine (agoraref08_Same.calls kj6 _ _ t478 _ _ y490 t494 _ ?side1 ?side2 ?side3 ?side4 A29.out).mono ?_); (case side1 => repeat (first | exact (Kd.R_reads' HO_8.out).2.2 | (with_reducible refine Kd.C_alloc ?_ _) | (with_reducible refine Kd.C_drewN ?_ _) | (with_reducible refine Kd.C_drew ?_))); (case side2 => exact (Kd.R_reads' HO_8.out).2.1); (case side3 => repeat (first | exact (by repeat (first | (with_reducible exact HR493.out) | (with_reducible refine Kd.C_alloc ?_ _) | (with_reducible refine Kd.C_drewN ?_ _) | (with_reducible refine Kd.C_drew ?_) | exact HR493.out)) | (with_reducible refine Kd.C_alloc ?_ _) | (with_reducible refine Kd.C_drewN ?_ _) | (with_reducible refine Kd.C_drew ?_))); (case side4 => exact HC493.out); rintro e w' ⟨rfl, ⟨nd, rfl⟩⟩))
                go_meet
                case rel => exact ⟨_, (t494), (by first | rfl | (simp; done) | (simp [*]; done)), H', ⟨by have := HJ6.out; first | omega | exact Nat.le_refl _⟩, ⟨by (with_reducible repeat (first | apply Kd.R_alloc | apply Kd.R_drewN | apply Kd.R_drew)); exact HO_8.out⟩, ⟨by (with_reducible repeat (first | apply Kd.R_alloc | apply Kd.R_drewN | apply Kd.R_drew)); exact HO_10.out⟩, ⟨by repeat (first | (with_reducible first | exact HB.out | apply below_alloc | apply pw_below_drewN | apply below_drew1) | exact HB.out)⟩⟩
              · rw [if_neg c28] at H
                exact absurd H (by simp)
            · rw [if_neg c27] at H
              exact absurd H (by simp)
        case rest =>
          clear HC24
          try clear c1
          try clear c2
          try clear p2
          try clear q3
          try clear c6
          try clear c9
          try clear c11
          try clear c12
          try clear c14
          try clear c20
          try clear c23
          try clear c25
          try clear c25b0
          try clear c25b1
          try clear c25b2
          try clear c27
          try clear c27b0
          try clear c27b1
          try clear c28
          try clear c28b0
          try clear c28b1
          try clear q31
          try clear p2
          try clear q31
          obtain ⟨kq, x63_23, rfl, HA, HJ23, HO_8, HO_10, HB⟩ := hcut
          cases kq with
          | zero => exact absurd HA.out (by simp [agoralaw08_MerkleGrows.j1])
          | succ kj23 =>
            have H := HA.out
            clear HA
            simp only [agoralaw08_MerkleGrows.j1] at H
            by_cases c33 : x63_23 = true
            · subst c33
              have H1 : (some t477) = some r := by rw [if_pos rfl] at H; exact H
              clear H
              have H := H1
              clear H1
              obtain rfl := Option.some.inj H
              go_wp2
              go_ret
              exact ⟨by first | rfl | (simp [errW_none, errW_some] <;> rfl) | (simp [*, errW_none, errW_some] <;> rfl), by repeat (first | (with_reducible first | exact HB.out | apply below_alloc | apply pw_below_drewN | apply below_drew1) | exact HB.out)⟩
            · replace c33 := Bool.eq_false_iff.mpr c33
              subst c33
              have H1 : ((merkle_Root.f t478).bind fun t495 => ((agoraref08_Roots.f kj23 (t478.length : Int) (t482.length : Int) t495 l2 true).bind fun bt496 => ((agoraref08_Inputs.f kj23 t478).bind fun t502 => ((agoraref08_Inputs.f kj23 t482).bind fun t505 => (if t502.length + t505.length < 8796093022208 then ((some (t502 ++ t505 : List ByteArray)).bind fun y508 => (if y508.length + bt496.2.2.1.length < 8796093022208 then (if t477 = true then ((agoraref08_Clash.f kj23 (y508 ++ bt496.2.2.1)).bind fun t514 => (some t514)) else (none)) else (none))) else (none)))))) = some r := by rw [if_neg (show ¬ (false = true) by decide)] at H; exact H
              clear H
              have H := H1
              clear H1
              replace H := Option.bind_eq_some_iff.mp H
              obtain ⟨t495, A340, H⟩ := H
              replace H : ((agoraref08_Roots.f kj23 (t478.length : Int) (t482.length : Int) t495 l2 true).bind fun bt496 => ((agoraref08_Inputs.f kj23 t478).bind fun t502 => ((agoraref08_Inputs.f kj23 t482).bind fun t505 => (if t502.length + t505.length < 8796093022208 then ((some (t502 ++ t505 : List ByteArray)).bind fun y508 => (if y508.length + bt496.2.2.1.length < 8796093022208 then (if t477 = true then ((agoraref08_Clash.f kj23 (y508 ++ bt496.2.2.1)).bind fun t514 => (some t514)) else (none)) else (none))) else (none))))) = some r := H
              have A34 := Aside0.mk A340
              clear A340
              replace H := Option.bind_eq_some_iff.mp H
              obtain ⟨⟨t496, t497, t498, t499⟩, A350, H⟩ := H
              replace H : ((agoraref08_Inputs.f kj23 t478).bind fun t502 => ((agoraref08_Inputs.f kj23 t482).bind fun t505 => (if t502.length + t505.length < 8796093022208 then ((some (t502 ++ t505 : List ByteArray)).bind fun y508 => (if y508.length + t498.length < 8796093022208 then (if t477 = true then ((agoraref08_Clash.f kj23 (y508 ++ t498)).bind fun t514 => (some t514)) else (none)) else (none))) else (none)))) = some r := H
              have A35 := Aside0.mk A350
              clear A350
              replace H := Option.bind_eq_some_iff.mp H
              obtain ⟨t502, A360, H⟩ := H
              replace H : ((agoraref08_Inputs.f kj23 t482).bind fun t505 => (if t502.length + t505.length < 8796093022208 then ((some (t502 ++ t505 : List ByteArray)).bind fun y508 => (if y508.length + t498.length < 8796093022208 then (if t477 = true then ((agoraref08_Clash.f kj23 (y508 ++ t498)).bind fun t514 => (some t514)) else (none)) else (none))) else (none))) = some r := H
              have A36 := Aside0.mk A360
              clear A360
              replace H := Option.bind_eq_some_iff.mp H
              obtain ⟨t505, A370, H⟩ := H
              replace H : (if t502.length + t505.length < 8796093022208 then ((some (t502 ++ t505 : List ByteArray)).bind fun y508 => (if y508.length + t498.length < 8796093022208 then (if t477 = true then ((agoraref08_Clash.f kj23 (y508 ++ t498)).bind fun t514 => (some t514)) else (none)) else (none))) else (none)) = some r := H
              have A37 := Aside0.mk A370
              clear A370
              by_cases c38 : t502.length + t505.length < 8796093022208
              · rw [if_pos c38] at H
                have LMc38 := Aside0.mk c38
                clear c38
                obtain ⟨y508, hy508⟩ : ∃ y_ : List ByteArray, y_ = (t502 ++ t505) := ⟨_, rfl⟩
                replace H : (if y508.length + t498.length < 8796093022208 then (if t477 = true then ((agoraref08_Clash.f kj23 (y508 ++ t498)).bind fun t514 => (some t514)) else (none)) else (none)) = some r := by first | (rw [hy508]; with_reducible exact H) | (have H2_ := (Option.bind_some _ _).symm.trans H; rw [hy508]; with_reducible exact H2_) | (have H2_ := (Option.bind_some _ _).symm.trans H; with_reducible exact H2_) | with_reducible exact H | (rw [hy508]; exact H) | exact H
                have Ny508 := Aside0.mk hy508
                clear hy508
                by_cases c39 : y508.length + t498.length < 8796093022208
                · rw [if_pos c39] at H
                  have LMc39 := Aside0.mk c39
                  clear c39
                  obtain ⟨y511, hy511⟩ : ∃ y_ : List ByteArray, y_ = (y508 ++ t498) := ⟨_, rfl⟩
                  replace H : (if t477 = true then ((agoraref08_Clash.f kj23 y511).bind fun t514 => (some t514)) else (none)) = some r := by first | (rw [hy511]; with_reducible exact H) | (have H2_ := (Option.bind_some _ _).symm.trans H; rw [hy511]; with_reducible exact H2_) | (have H2_ := (Option.bind_some _ _).symm.trans H; with_reducible exact H2_) | with_reducible exact H | (rw [hy511]; exact H) | exact H
                  have Ny511 := Aside0.mk hy511
                  clear hy511
                  by_cases c40 : t477 = true
                  · subst c40
                    have H1 : ((agoraref08_Clash.f kj23 y511).bind fun t514 => (some t514)) = some r := by rw [if_pos rfl] at H; exact H
                    clear H
                    have H := H1
                    clear H1
                    replace H := Option.bind_eq_some_iff.mp H
                    obtain ⟨t514, A410, H⟩ := H
                    replace H : (some t514) = some r := H
                    have A41 := Aside0.mk A410
                    clear A410
                    obtain rfl := Option.some.inj H
                    obtain ⟨Ao42, co42, eo42⟩ := Kd.R_slice HO_8.out
                    subst eo42
                    obtain ⟨Ao43, co43, eo43⟩ := Kd.R_slice HO_10.out
                    subst eo43
                    go_wp2_with (first | ((with_reducible refine gate_callee (f := 15) rfl ?_); refine goesL_ (some 71) rfl rfl Try.func15 (by kernel_rfl) rfl #[.slice Ao42 t478.length co42] rfl (by (try simp only [List.map_toArray, List.map_cons, List.map_nil]); first | done | rfl | (simp only [List.length_drop, List.length_take]; rfl)) ?_; (with_reducible refine (merkle_Root.calls _ _ t478 t495 _ ?side1 ?side2 A34.out).mono ?_); (case side1 => repeat (first | exact (Kd.R_reads' HO_8.out).2.2 | (with_reducible refine Kd.C_alloc ?_ _) | (with_reducible refine Kd.C_drewN ?_ _) | (with_reducible refine Kd.C_drew ?_))); (case side2 => exact (Kd.R_reads' HO_8.out).2.1); rintro e w44 ⟨rfl, hb⟩; refine ⟨_, rfl, ?_⟩; have n0_ := Aside0.mk (Kd.R_below (by (with_reducible repeat (first | apply Kd.R_alloc | apply Kd.R_drewN | apply Kd.R_drew)); exact HO_8.out) hb); have n1_ := Aside0.mk (Kd.R_below (by (with_reducible repeat (first | apply Kd.R_alloc | apply Kd.R_drewN | apply Kd.R_drew)); exact HO_10.out) hb); have n2_ := Aside0.mk (below_step (by repeat (first | (with_reducible first | exact HB.out | apply below_alloc | apply pw_below_drewN | apply below_drew1) | exact HB.out)) hb); clear HO_8; clear HO_10; clear HB; have HO_8 := n0_; have HO_10 := n1_; have HB := n2_; clear n0_ n1_ n2_; (try clear hb); (try clear hb2); (try clear hk); (try clear hi)) | ((with_reducible refine gate_callee (f := 26) rfl ?_); refine goesL_ (some 73) rfl rfl Try.func26 (by kernel_rfl) rfl #[.int .i64 (t478.length : Int), .int .i64 (t482.length : Int), .string t495, .slice A2 l2.length c2, .bool true] rfl (by (try simp only [List.map_toArray, List.map_cons, List.map_nil]); first | done | rfl | (simp only [List.length_drop, List.length_take]; rfl)) ?_; (with_reducible refine (agoraref08_Roots.calls kj23 (t478.length : Int) (t482.length : Int) t495 _ _ l2 true t496 t497 t498 t499 _ ?side1 ?side2 A35.out).mono ?_); (case side1 => repeat (first | exact (Kd.C_below HR2.out HB.out) | (with_reducible refine Kd.C_alloc ?_ _) | (with_reducible refine Kd.C_drewN ?_ _) | (with_reducible refine Kd.C_drew ?_))); (case side2 => exact HC2.out); rintro e w45 ⟨v500, rfl, ho0, hb⟩; refine ⟨_, rfl, ?_⟩; have n0_ := Aside0.mk (Kd.R_elder' (by (with_reducible repeat (first | apply Kd.R_alloc | apply Kd.R_drewN | apply Kd.R_drew)); exact HO_8.out) (Kd.R_base ho0) hb); have n1_ := Aside0.mk (Kd.R_elder' (by (with_reducible repeat (first | apply Kd.R_alloc | apply Kd.R_drewN | apply Kd.R_drew)); exact HO_10.out) (Kd.R_base ho0) hb); have n2_ := Aside0.mk (Kd.R_lower (Kd.R_new' (Kd.R_new' ho0 (Kd.R_lt (by (with_reducible repeat (first | apply Kd.R_alloc | apply Kd.R_drewN | apply Kd.R_drew)); exact HO_8.out))) (Kd.R_lt (by (with_reducible repeat (first | apply Kd.R_alloc | apply Kd.R_drewN | apply Kd.R_drew)); exact HO_10.out))) (below_size (by repeat (first | (with_reducible first | exact HB.out | apply below_alloc | apply pw_below_drewN | apply below_drew1) | exact HB.out)))); have n3_ := Aside0.mk (below_step (by repeat (first | (with_reducible first | exact HB.out | apply below_alloc | apply pw_below_drewN | apply below_drew1) | exact HB.out)) hb); clear HO_8; clear HO_10; clear HB; have HO_8 := n0_; have HO_10 := n1_; have HO501 := n2_; have HB := n3_; clear n0_ n1_ n2_ n3_; (try clear hb); (try clear hb2); (try clear hk); (try clear hi); (try clear ho0)) | ((with_reducible refine gate_callee (f := 24) rfl ?_); refine goesL_ (some 79) rfl rfl Try.func24 (by kernel_rfl) rfl #[.slice Ao42 t478.length co42] rfl (by (try simp only [List.map_toArray, List.map_cons, List.map_nil]); first | done | rfl | (simp only [List.length_drop, List.length_take]; rfl)) ?_; (with_reducible refine (agoraref08_Inputs.calls kj23 _ _ t478 t502 _ ?side1 ?side2 A36.out).mono ?_); (case side1 => repeat (first | exact (Kd.R_reads' HO_8.out).2.2 | (with_reducible refine Kd.C_alloc ?_ _) | (with_reducible refine Kd.C_drewN ?_ _) | (with_reducible refine Kd.C_drew ?_))); (case side2 => exact (Kd.R_reads' HO_8.out).2.1); rintro e w46 ⟨v503, rfl, ho0, hb⟩; refine ⟨_, rfl, ?_⟩; have n0_ := Aside0.mk (Kd.R_elder' (by (with_reducible repeat (first | apply Kd.R_alloc | apply Kd.R_drewN | apply Kd.R_drew)); exact HO_8.out) (Kd.R_base ho0) hb); have n1_ := Aside0.mk (Kd.R_elder' (by (with_reducible repeat (first | apply Kd.R_alloc | apply Kd.R_drewN | apply Kd.R_drew)); exact HO_10.out) (Kd.R_base ho0) hb); have n2_ := Aside0.mk (Kd.R_elder' (by (with_reducible repeat (first | apply Kd.R_alloc | apply Kd.R_drewN | apply Kd.R_drew)); exact HO501.out) (Kd.R_base ho0) hb); have n3_ := Aside0.mk (Kd.R_lower (Kd.R_new' (Kd.R_new' (Kd.R_new' ho0 (Kd.R_lt (by (with_reducible repeat (first | apply Kd.R_alloc | apply Kd.R_drewN | apply Kd.R_drew)); exact HO_8.out))) (Kd.R_lt (by (with_reducible repeat (first | apply Kd.R_alloc | apply Kd.R_drewN | apply Kd.R_drew)); exact HO_10.out))) (Kd.R_lt (by (with_reducible repeat (first | apply Kd.R_alloc | apply Kd.R_drewN | apply Kd.R_drew)); exact HO501.out))) (below_size (by repeat (first | (with_reducible first | exact HB.out | apply below_alloc | apply pw_below_drewN | apply below_drew1) | exact HB.out)))); have n4_ := Aside0.mk (below_step (by repeat (first | (with_reducible first | exact HB.out | apply below_alloc | apply pw_below_drewN | apply below_drew1) | exact HB.out)) hb); clear HO_8; clear HO_10; clear HO501; clear HB; have HO_8 := n0_; have HO_10 := n1_; have HO501 := n2_; have HO504 := n3_; have HB := n4_; clear n0_ n1_ n2_ n3_ n4_; (try clear hb); (try clear hb2); (try clear hk); (try clear hi); (try clear ho0)) | ((with_reducible refine gate_callee (f := 24) rfl ?_); refine goesL_ (some 81) rfl rfl Try.func24 (by kernel_rfl) rfl #[.slice Ao43 t482.length co43] rfl (by (try simp only [List.map_toArray, List.map_cons, List.map_nil]); first | done | rfl | (simp only [List.length_drop, List.length_take]; rfl)) ?_; (with_reducible refine (agoraref08_Inputs.calls kj23 _ _ t482 t505 _ ?side1 ?side2 A37.out).mono ?_); (case side1 => repeat (first | exact (Kd.R_reads' HO_10.out).2.2 | (with_reducible refine Kd.C_alloc ?_ _) | (with_reducible refine Kd.C_drewN ?_ _) | (with_reducible refine Kd.C_drew ?_))); (case side2 => exact (Kd.R_reads' HO_10.out).2.1); rintro e w47 ⟨v506, rfl, ho0, hb⟩; refine ⟨_, rfl, ?_⟩; have n0_ := Aside0.mk (Kd.R_elder' (by (with_reducible repeat (first | apply Kd.R_alloc | apply Kd.R_drewN | apply Kd.R_drew)); exact HO_8.out) (Kd.R_base ho0) hb); have n1_ := Aside0.mk (Kd.R_elder' (by (with_reducible repeat (first | apply Kd.R_alloc | apply Kd.R_drewN | apply Kd.R_drew)); exact HO_10.out) (Kd.R_base ho0) hb); have n2_ := Aside0.mk (Kd.R_elder' (by (with_reducible repeat (first | apply Kd.R_alloc | apply Kd.R_drewN | apply Kd.R_drew)); exact HO501.out) (Kd.R_base ho0) hb); have n3_ := Aside0.mk (Kd.R_elder' (by (with_reducible repeat (first | apply Kd.R_alloc | apply Kd.R_drewN | apply Kd.R_drew)); exact HO504.out) (Kd.R_base ho0) hb); have n4_ := Aside0.mk (Kd.R_lower (Kd.R_new' (Kd.R_new' (Kd.R_new' (Kd.R_new' ho0 (Kd.R_lt (by (with_reducible repeat (first | apply Kd.R_alloc | apply Kd.R_drewN | apply Kd.R_drew)); exact HO_8.out))) (Kd.R_lt (by (with_reducible repeat (first | apply Kd.R_alloc | apply Kd.R_drewN | apply Kd.R_drew)); exact HO_10.out))) (Kd.R_lt (by (with_reducible repeat (first | apply Kd.R_alloc | apply Kd.R_drewN | apply Kd.R_drew)); exact HO501.out))) (Kd.R_lt (by (with_reducible repeat (first | apply Kd.R_alloc | apply Kd.R_drewN | apply Kd.R_drew)); exact HO504.out))) (below_size (by repeat (first | (with_reducible first | exact HB.out | apply below_alloc | apply pw_below_drewN | apply below_drew1) | exact HB.out)))); have n5_ := Aside0.mk (below_step (by repeat (first | (with_reducible first | exact HB.out | apply below_alloc | apply pw_below_drewN | apply below_drew1) | exact HB.out)) hb); clear HO_8; clear HO_10; clear HO501; clear HO504; clear HB; have HO_8 := n0_; have HO_10 := n1_; have HO501 := n2_; have HO504 := n3_; have HO507 := n4_; have HB := n5_; clear n0_ n1_ n2_ n3_ n4_ n5_; (try clear hb); (try clear hb2); (try clear hk); (try clear hi); (try clear ho0); obtain ⟨Ao49, co49, eo49⟩ := Kd.R_slice HO507.out; subst eo49) | ((with_reducible refine gate_builtin (b := .append) (xs := #[.tmp 79, .tmp 81]) rfl ?_); (try (refine gate_guard (by rfl) ?_; dsimp only)); at_builtin; refine Kd.R_append_rows Kd.string (w0 := w) w.heap.size rfl (.tmp 79) (.tmp 81) 22 9 (.string ⟨#[]⟩) 16 rfl Try.underlying22 info9 rfl (by decide) (by omega) v503 t502 t505 _ _ _ (fun k_ => some k_ ≠ (.slice Ao42 t478.length co42 : Value).ownBlock ∧ some k_ ≠ (.slice Ao43 t482.length co43 : Value).ownBlock ∧ some k_ ≠ (v500 : Value).ownBlock ∧ some k_ ≠ (.slice Ao49 t505.length co49 : Value).ownBlock) (fun _ => False) rfl rfl ?aO ?aR (fun _ _ h => h) (fun _ h => h.elim) ?aF ?aB ?aS ?aL ?_; (case aR => repeat (first | exact (Kd.R_reads' HO507.out).2.2 | (with_reducible refine Kd.C_alloc ?_ _) | (with_reducible refine Kd.C_drewN ?_ _) | (with_reducible refine Kd.C_drew ?_))); (case aB => exact (by repeat (first | (with_reducible first | exact HB.out | apply below_alloc | apply pw_below_drewN | apply below_drew1) | exact HB.out))); (case aF => exact (fun k_ hk => ⟨Kd.fresh' (Kd.R_lt (by (with_reducible repeat (first | apply Kd.R_alloc | apply Kd.R_drewN | apply Kd.R_drew)); exact HO_8.out)) k_ hk, Kd.fresh' (Kd.R_lt (by (with_reducible repeat (first | apply Kd.R_alloc | apply Kd.R_drewN | apply Kd.R_drew)); exact HO_10.out)) k_ hk, Kd.fresh' (Kd.R_lt (by (with_reducible repeat (first | apply Kd.R_alloc | apply Kd.R_drewN | apply Kd.R_drew)); exact HO501.out)) k_ hk, Kd.fresh' (Kd.R_lt (by (with_reducible repeat (first | apply Kd.R_alloc | apply Kd.R_drewN | apply Kd.R_drew)); exact HO507.out)) k_ hk⟩)); (case aO => exact (by (with_reducible repeat (first | apply Kd.R_alloc | apply Kd.R_drewN | apply Kd.R_drew)); exact Kd.R_mono HO504.out (fun _ hk => ⟨hk.1.1.1.2, ⟨hk.1.1.2, ⟨hk.1.2, hk.2⟩⟩⟩))); (case aS => exact (below_size (by repeat (first | (with_reducible first | exact HB.out | apply below_alloc | apply pw_below_drewN | apply below_drew1) | exact HB.out)))); (case aL => have := LMc38.out; omega); intro v509 w48 ho hb hg hat; rw [← Ny508.out] at ho; have n0_ := Aside0.mk (Kd.R_after (ok := (fun k_ => some k_ ≠ (.slice Ao43 t482.length co43 : Value).ownBlock ∧ some k_ ≠ (v500 : Value).ownBlock ∧ some k_ ≠ (.slice Ao49 t505.length co49 : Value).ownBlock)) (by (with_reducible repeat (first | apply Kd.R_alloc | apply Kd.R_drewN | apply Kd.R_drew)); exact Kd.R_mono HO_8.out (fun _ hk => ⟨⟨hk.1.1.1, ⟨hk.1.1.2, hk.2⟩⟩, hk.1.2⟩)) hg hat); have n1_ := Aside0.mk (Kd.R_after (ok := (fun k_ => some k_ ≠ (.slice Ao42 t478.length co42 : Value).ownBlock ∧ some k_ ≠ (v500 : Value).ownBlock ∧ some k_ ≠ (.slice Ao49 t505.length co49 : Value).ownBlock)) (by (with_reducible repeat (first | apply Kd.R_alloc | apply Kd.R_drewN | apply Kd.R_drew)); exact Kd.R_mono HO_10.out (fun _ hk => ⟨⟨hk.1.1.1, ⟨hk.1.1.2, hk.2⟩⟩, hk.1.2⟩)) hg hat); have n2_ := Aside0.mk (Kd.R_after (ok := (fun k_ => some k_ ≠ (.slice Ao42 t478.length co42 : Value).ownBlock ∧ some k_ ≠ (.slice Ao43 t482.length co43 : Value).ownBlock ∧ some k_ ≠ (.slice Ao49 t505.length co49 : Value).ownBlock)) (by (with_reducible repeat (first | apply Kd.R_alloc | apply Kd.R_drewN | apply Kd.R_drew)); exact Kd.R_mono HO501.out (fun _ hk => ⟨⟨hk.1.1.1.2, ⟨hk.1.1.2, hk.2⟩⟩, hk.1.2⟩)) hg hat); have n3_ := Aside0.mk (Kd.R_after (ok := (fun k_ => some k_ ≠ (.slice Ao42 t478.length co42 : Value).ownBlock ∧ some k_ ≠ (.slice Ao43 t482.length co43 : Value).ownBlock ∧ some k_ ≠ (v500 : Value).ownBlock)) (by (with_reducible repeat (first | apply Kd.R_alloc | apply Kd.R_drewN | apply Kd.R_drew)); exact Kd.R_mono HO507.out (fun _ hk => ⟨⟨hk.1.1.1.2, ⟨hk.1.1.2, hk.1.2⟩⟩, hk.2⟩)) hg hat); have n4_ := Aside0.mk (hb); have n5_ := Aside0.mk (ho); clear HO_8; clear HO_10; clear HO501; clear HO507; clear HB; clear HO504; have HO_8 := n0_; have HO_10 := n1_; have HO501 := n2_; have HO507 := n3_; have HB := n4_; have HO510 := n5_; clear n0_ n1_ n2_ n3_ n4_ n5_; clear ho hb hg hat; obtain ⟨Ao51, co51, eo51⟩ := Kd.R_slice HO501.out; subst eo51) | ((with_reducible refine gate_builtin (b := .append) (xs := #[.tmp 82, .tmp 83]) rfl ?_); (try (refine gate_guard (by rfl) ?_; dsimp only)); at_builtin; refine Kd.R_append_rows Kd.string (w0 := w) w.heap.size rfl (.tmp 82) (.tmp 83) 22 9 (.string ⟨#[]⟩) 16 rfl Try.underlying22 info9 rfl (by decide) (by omega) v509 y508 t498 _ _ _ (fun k_ => some k_ ≠ (.slice Ao42 t478.length co42 : Value).ownBlock ∧ some k_ ≠ (.slice Ao43 t482.length co43 : Value).ownBlock ∧ some k_ ≠ (.slice Ao51 t498.length co51 : Value).ownBlock ∧ some k_ ≠ (.slice Ao49 t505.length co49 : Value).ownBlock) (fun _ => False) rfl rfl ?aO ?aR (fun _ _ h => h) (fun _ h => h.elim) ?aF ?aB ?aS ?aL ?_; (case aR => repeat (first | exact (Kd.R_reads' HO501.out).2.2 | (with_reducible refine Kd.C_alloc ?_ _) | (with_reducible refine Kd.C_drewN ?_ _) | (with_reducible refine Kd.C_drew ?_))); (case aB => exact (by repeat (first | (with_reducible first | exact HB.out | apply below_alloc | apply pw_below_drewN | apply below_drew1) | exact HB.out))); (case aF => exact (fun k_ hk => ⟨Kd.fresh' (Kd.R_lt (by (with_reducible repeat (first | apply Kd.R_alloc | apply Kd.R_drewN | apply Kd.R_drew)); exact HO_8.out)) k_ hk, Kd.fresh' (Kd.R_lt (by (with_reducible repeat (first | apply Kd.R_alloc | apply Kd.R_drewN | apply Kd.R_drew)); exact HO_10.out)) k_ hk, Kd.fresh' (Kd.R_lt (by (with_reducible repeat (first | apply Kd.R_alloc | apply Kd.R_drewN | apply Kd.R_drew)); exact HO501.out)) k_ hk, Kd.fresh' (Kd.R_lt (by (with_reducible repeat (first | apply Kd.R_alloc | apply Kd.R_drewN | apply Kd.R_drew)); exact HO507.out)) k_ hk⟩)); (case aO => exact (by (with_reducible repeat (first | apply Kd.R_alloc | apply Kd.R_drewN | apply Kd.R_drew)); exact HO510.out)); (case aS => exact (below_size (by repeat (first | (with_reducible first | exact HB.out | apply below_alloc | apply pw_below_drewN | apply below_drew1) | exact HB.out)))); (case aL => have := LMc39.out; omega); intro v512 w50 ho hb hg hat; rw [← Ny511.out] at ho; have n0_ := Aside0.mk (Kd.R_after (ok := (fun k_ => some k_ ≠ (.slice Ao43 t482.length co43 : Value).ownBlock ∧ some k_ ≠ (.slice Ao51 t498.length co51 : Value).ownBlock ∧ some k_ ≠ (.slice Ao49 t505.length co49 : Value).ownBlock)) (by (with_reducible repeat (first | apply Kd.R_alloc | apply Kd.R_drewN | apply Kd.R_drew)); exact HO_8.out) hg hat); have n1_ := Aside0.mk (Kd.R_after (ok := (fun k_ => some k_ ≠ (.slice Ao42 t478.length co42 : Value).ownBlock ∧ some k_ ≠ (.slice Ao51 t498.length co51 : Value).ownBlock ∧ some k_ ≠ (.slice Ao49 t505.length co49 : Value).ownBlock)) (by (with_reducible repeat (first | apply Kd.R_alloc | apply Kd.R_drewN | apply Kd.R_drew)); exact HO_10.out) hg hat); have n2_ := Aside0.mk (Kd.R_after (ok := (fun k_ => some k_ ≠ (.slice Ao42 t478.length co42 : Value).ownBlock ∧ some k_ ≠ (.slice Ao43 t482.length co43 : Value).ownBlock ∧ some k_ ≠ (.slice Ao49 t505.length co49 : Value).ownBlock)) (by (with_reducible repeat (first | apply Kd.R_alloc | apply Kd.R_drewN | apply Kd.R_drew)); exact HO501.out) hg hat); have n3_ := Aside0.mk (Kd.R_after (ok := (fun k_ => some k_ ≠ (.slice Ao42 t478.length co42 : Value).ownBlock ∧ some k_ ≠ (.slice Ao43 t482.length co43 : Value).ownBlock ∧ some k_ ≠ (.slice Ao51 t498.length co51 : Value).ownBlock)) (by (with_reducible repeat (first | apply Kd.R_alloc | apply Kd.R_drewN | apply Kd.R_drew)); exact HO507.out) hg hat); have n4_ := Aside0.mk (hb); have n5_ := Aside0.mk (ho); clear HO_8; clear HO_10; clear HO501; clear HO507; clear HB; clear HO510; have HO_8 := n0_; have HO_10 := n1_; have HO501 := n2_; have HO507 := n3_; have HB := n4_; have HO513 := n5_; clear n0_ n1_ n2_ n3_ n4_ n5_; clear ho hb hg hat; obtain ⟨Ao52, co52, eo52⟩ := Kd.R_slice HO513.out; subst eo52) | (go_at_call 25; (with_reducible refine (agoraref08_Clash.calls kj23 _ _ y511 t514 _ ?side1 ?side2 A41.out).mono ?_); (case side1 => repeat (first | exact (Kd.R_reads' HO513.out).2.2 | (with_reducible refine Kd.C_alloc ?_ _) | (with_reducible refine Kd.C_drewN ?_ _) | (with_reducible refine Kd.C_drew ?_))); (case side2 => exact (Kd.R_reads' HO513.out).2.1); rintro e w53 ⟨rfl, hb⟩; have n0_ := Aside0.mk (Kd.R_below (by (with_reducible repeat (first | apply Kd.R_alloc | apply Kd.R_drewN | apply Kd.R_drew)); exact HO_8.out) hb); have n1_ := Aside0.mk (Kd.R_below (by (with_reducible repeat (first | apply Kd.R_alloc | apply Kd.R_drewN | apply Kd.R_drew)); exact HO_10.out) hb); have n2_ := Aside0.mk (Kd.R_below (by (with_reducible repeat (first | apply Kd.R_alloc | apply Kd.R_drewN | apply Kd.R_drew)); exact HO501.out) hb); have n3_ := Aside0.mk (Kd.R_below (by (with_reducible repeat (first | apply Kd.R_alloc | apply Kd.R_drewN | apply Kd.R_drew)); exact HO507.out) hb); have n4_ := Aside0.mk (Kd.R_below (by (with_reducible repeat (first | apply Kd.R_alloc | apply Kd.R_drewN | apply Kd.R_drew)); exact HO513.out) hb); have n5_ := Aside0.mk (below_step (by repeat (first | (with_reducible first | exact HB.out | apply below_alloc | apply pw_below_drewN | apply below_drew1) | exact HB.out)) hb); clear HO_8; clear HO_10; clear HO501; clear HO507; clear HO513; clear HB; have HO_8 := n0_; have HO_10 := n1_; have HO501 := n2_; have HO507 := n3_; have HO513 := n4_; have HB := n5_; clear n0_ n1_ n2_ n3_ n4_ n5_; (try clear hb); (try clear hb2); (try clear hk); (try clear hi)))
                    go_ret
                    exact ⟨by first | rfl | (simp [errW_none, errW_some] <;> rfl) | (simp [*, errW_none, errW_some] <;> rfl), by repeat (first | (with_reducible first | exact HB.out | apply below_alloc | apply pw_below_drewN | apply below_drew1) | exact HB.out)⟩
                  · replace c40 := Bool.eq_false_iff.mpr c40
                    subst c40
                    have H1 : (none) = some r := by rw [if_neg (show ¬ (false = true) by decide)] at H; exact H
                    clear H
                    have H := H1
                    clear H1
                    exact absurd H (by simp)
                · rw [if_neg c39] at H
                  exact absurd H (by simp)
              · rw [if_neg c38] at H
                exact absurd H (by simp)
end Go.Proofs.Ytkhkppehdgkboaa.P
end P18_MerkleGrows_
section PureMerkleGrows_
namespace Go.Proofs.Ytkhkppehdgkboaa.Pure
open Go.RowKit Go.Proofs.Ytkhkppehdgkboaa.P Go.Proofs.Ytkhkppehdgkboaa.Mk Go.Proofs.YtkhkppehdgkboaaW.PrintWords Go.Proofs.YtkhkppehdgkboaaW.PrintLast Go.Proofs.YtkhkppehdgkboaaW.PrintMore
set_option linter.unusedVariables false
theorem grows_out (p a b : List ByteArray) (k : Nat) (hk : 1 ≤ k) : agoralaw08_MerkleGrows.j0 k p true a b true = some true := by
  obtain ⟨k, rfl⟩ : ∃ k', k = k' + 1 := ⟨k - 1, by omega⟩
  rw [agoralaw08_MerkleGrows.j0, if_pos rfl]
theorem grows_same (p a b : List ByteArray) (k : Nat) (hk : 1 ≤ k) : agoralaw08_MerkleGrows.j1 k p true a b true = some true := by
  obtain ⟨k, rfl⟩ : ∃ k', k = k' + 1 := ⟨k - 1, by omega⟩
  rw [agoralaw08_MerkleGrows.j1, if_pos rfl]
theorem grows_j1 (a b p : List ByteArray) (hla : a.length ≤ 40) (hlb : b.length ≤ 40) (h1 : 1 ≤ a.length) (ha : ∀ y ∈ a, y.size = 32) (hb : ∀ y ∈ b, y.size = 32) (hp : p.length ≤ 100) (hx : extB a.length b.length (rootB a) (rootB b) p = true) (hne : a ≠ b.take a.length) (k : Nat) (hk : 1100010 ≤ k) :
    agoralaw08_MerkleGrows.j1 k p true a b false = some true := by
  obtain ⟨k, rfl⟩ : ∃ k', k = k' + 1 := ⟨k - 1, by omega⟩
  obtain ⟨hab, s1, s2, h32, s, r, e1, e2, e3, e4, e5⟩ := extB_parts (by omega) hx
  have hs : s.size = 32 := by
    cases hw : (wayL a.length b.length).2
    · rw [hw, if_neg (by decide)] at e1; exact h32 s (by rw [e1]; exact List.mem_cons_self ..)
    · rw [e2 hw]; exact s1
  have hr : ∀ y ∈ r, y.size = 32 := by
    intro y hy
    refine h32 y ?_
    rw [e1]; split
    · exact hy
    · exact List.mem_cons_of_mem _ hy
  have hrr : ∀ y ∈ r.reverse, y.size = 32 := fun y hy => hr y (List.mem_reverse.1 hy)
  have hR := roots_ref (rootB a) k a.length b.length true s r.reverse h1 hab (by omega) hs hrr (by rw [List.length_reverse]; exact e3.symm) (by rw [Bool.true_and]; exact e2) (by omega)
  rw [Bool.true_and, List.reverse_reverse, ← e1] at hR
  have b1 := inputsB_length _ a (Nat.le_refl _) h1
  have b2 := inputsB_length _ b (Nat.le_refl _) (by omega)
  have b3 := insR_length s (wayL a.length b.length).1 r.reverse
  have b4 := wayL_length _ a.length b.length h1 (Nat.le_refl _)
  have hcl : HasClash ((inputsB a ++ inputsB b) ++ insR s (wayL a.length b.length).1 r.reverse) := by
    rcases grows b.length a b s r.reverse (Nat.le_refl _) h1 hab ha hb hs hrr (by rw [List.length_reverse]; exact e3.symm) e4 e5 with h | h
    · exact absurd h hne
    · exact h
  have hC := clash_at _ (by rw [List.length_append, List.length_append]; omega) (fun y hy => by
    rcases List.mem_append.1 hy with hy | hy
    · rcases List.mem_append.1 hy with hy | hy
      · exact inputs65 _ a (Nat.le_refl _) ha y hy
      · exact inputs65 _ b (Nat.le_refl _) hb y hy
    · exact insR65 s hs _ _ hrr y hy) hcl k (by omega)
  rw [agoralaw08_MerkleGrows.j1, if_neg (by decide), root_at (dom32 (by omega) ha), Option.bind_some, hR, Option.bind_some, inputs_ref a.length k a (Nat.le_refl _) (dom32 (by omega) ha) (by omega), Option.bind_some, inputs_ref b.length k b (Nat.le_refl _) (dom32 (by omega) hb) (by omega), Option.bind_some, if_pos (by omega), Option.bind_some]
  dsimp only
  rw [if_pos (by rw [List.length_append]; omega), if_pos rfl, hC]; rfl
theorem grows_j0 (a b p : List ByteArray) (hla : a.length ≤ 40) (hlb : b.length ≤ 40) (ha : ∀ y ∈ a, y.size = 32) (hb : ∀ y ∈ b, y.size = 32) (hp : p.length ≤ 100) (hx : extB a.length b.length (rootB a) (rootB b) p = true) (k : Nat) (hk : 1100020 ≤ k) :
    agoralaw08_MerkleGrows.j0 k p true a b false = some true := by
  obtain ⟨k, rfl⟩ : ∃ k', k = k' + 1 := ⟨k - 1, by omega⟩
  rw [agoralaw08_MerkleGrows.j0, if_neg (by decide)]
  by_cases h0 : a.length = 0
  · rw [if_pos (by omega), grows_same _ _ _ _ (by omega)]
  · have hab := (extB_parts h0 hx).1
    rw [if_neg (by omega), if_pos (by omega), if_pos (by omega), Int.toNat_natCast, same_at _ _ (by omega) k (by omega), Option.bind_some]
    by_cases e : a = b.take a.length
    · rw [decide_eq_true e, grows_same _ _ _ _ (by omega)]
    · rw [decide_eq_false e, grows_j1 a b p hla hlb (by omega) ha hb hp hx e k (by omega)]
theorem MerkleGrows (s t p : List ByteArray) : agoralaw08_MerkleGrows.f 1200000 s t p = some true := by
  rw [agoralaw08_MerkleGrows.f, small_at _ (by decide), Option.bind_some, leaves_at _ _ (by decide), Option.bind_some, leaves_at _ _ (by decide), Option.bind_some]
  by_cases h : (decide (s.length ≤ 40) && ok200 s) = true
  · rw [if_pos h]
    rw [Bool.and_eq_true, decide_eq_true_eq] at h
    have hA : (s.map leafB).length ≤ 40 := by rw [List.length_map]; exact h.1
    have a32 := leaf32 s
    generalize s.map leafB = a at hA a32 ⊢
    dsimp only
    rw [if_pos rfl]
    by_cases h' : (decide (t.length ≤ 40) && ok200 t) = true
    · rw [if_pos h']
      rw [Bool.and_eq_true, decide_eq_true_eq] at h'
      have hB : (t.map leafB).length ≤ 40 := by rw [List.length_map]; exact h'.1
      have b32 := leaf32 t
      generalize t.map leafB = b at hB b32 ⊢
      dsimp only
      rw [if_pos rfl, short_at _ _ (by decide), Option.bind_some]
      by_cases c2 : (decide (p.length ≤ 100) && ok200 p) = true
      · rw [if_pos c2]
        rw [Bool.and_eq_true, decide_eq_true_eq] at c2
        rw [root_at (dom32 (by omega) a32), Option.bind_some, root_at (dom32 (by omega) b32), Option.bind_some, extends_at a.length b.length _ _ _ (by omega) (by omega) (by omega) _ (by decide), Option.bind_some]
        cases hx : extB a.length b.length (rootB a) (rootB b) p
        · exact grows_out _ _ _ _ (by decide)
        · exact grows_j0 a b p hA hB a32 b32 c2.1 hx _ (by decide)
      · rw [if_neg c2, grows_out _ _ _ _ (by decide)]
    · rw [if_neg h']
      dsimp only
      rw [if_neg (by decide), grows_out _ _ _ _ (by decide)]
  · rw [if_neg h]
    dsimp only
    rw [if_neg (by decide), grows_out _ _ _ _ (by decide)]
end Go.Proofs.Ytkhkppehdgkboaa.Pure
end PureMerkleGrows_
