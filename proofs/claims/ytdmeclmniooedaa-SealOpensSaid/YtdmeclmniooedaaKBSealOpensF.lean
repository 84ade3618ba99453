/- Texts of this claim, merged: what the functions that the law reaches compute, and what that says. -/
import Derived.Test.YtdmeclmniooedaaKB5
import Derived.Test.YtdmeclmniooedaaKB20
import Derived.Test.YtdmeclmniooedaaKB21
section P19_SealOpens_
namespace Go.Proofs.Ytdmeclmniooedaa.P
open Go.RowKit Go.Proofs.YtdmeclmniooedaaW.PrintWords Go.Proofs.YtdmeclmniooedaaW.PrintLast Go.Proofs.YtdmeclmniooedaaW.PrintMore
attribute [local go_sem] max2_int min2_int max_two min_two max_three min_three max_four min_four   -- for this text's walks alone
set_option linter.unusedVariables false
set_option linter.unusedSimpArgs false
private theorem field23_0_ (c0 c1 c2 : Value) (w : World) : (Instr.field 23 (.agg #[c0, c1, c2]) 0).run Try.prog w = .ok c0 w := by kernel_rfl
private theorem field23_1_ (c0 c1 c2 : Value) (w : World) : (Instr.field 23 (.agg #[c0, c1, c2]) 1).run Try.prog w = .ok c1 w := by kernel_rfl
private theorem field23_2_ (c0 c1 c2 : Value) (w : World) : (Instr.field 23 (.agg #[c0, c1, c2]) 2).run Try.prog w = .ok c2 w := by kernel_rfl
attribute [local go_sem] field23_0_ field23_1_ field23_2_
attribute [local go_sem high] eqA23
def agoralaw06_SealOpens.j0 : Nat → ByteArray → Bool → Bool → ByteArray → ByteArray → ByteArray → ByteArray → ByteArray → ByteArray → Option (Bool)
  | 0, _, _, _, _, _, _, _, _, _ => none
  | k + 1, x0, x9, x67, x377000, x377001, x377002, x386000, x386001, x386002 => if x67 = true then (none) else ((seal_Open.f x0 x386000 x386001 x377002).bind fun bt388 => (if (bt388.2 != (x377002.toList == x386002.toList)) = true then (none) else ((seal_Open.f x0 x377000 x377001 x377002).bind fun bt390 => (if bt390.2 = true then (if x9 = true then ((seal_Seal.f x0 x377000 bt390.1).bind fun bt392 => (some (bt392.1.toList == x377000.toList && (bt392.2.1.toList == x377001.toList && (bt392.2.2.toList == x377002.toList))))) else (none)) else (if x9 = true then (some (bt390.1.toList == ([] : List UInt8))) else (none))))))
def agoralaw06_SealOpens.f (k : Nat) (a0 : ByteArray) (a1 : ByteArray) (a2 : ByteArray) (a3_0 : ByteArray) (a3_1 : ByteArray) (a3_2 : ByteArray) : Option (Bool) := (agoralaw06_small.f k).bind fun t377 => ((agoralaw06_few.f k (([a0, a1, a2, a3_0, a3_1, a3_2] : List ByteArray))).bind fun t381 => (if t381 = true then ((seal_Seal.f a0 a1 a2).bind fun bt382 => ((seal_Open.f a0 bt382.1 bt382.2.1 bt382.2.2).bind fun bt386 => (if bt386.2 = true then (if bt386.1.toList = a2.toList then (if bt382.1.toList = a1.toList then (if (bt382.2.1.size : Int) = (a2.size : Int) then (agoralaw06_SealOpens.j0 k a0 t377 ((bt382.2.2.size : Int) != 16) a3_0 a3_1 a3_2 bt382.1 bt382.2.1 bt382.2.2) else (agoralaw06_SealOpens.j0 k a0 t377 true a3_0 a3_1 a3_2 bt382.1 bt382.2.1 bt382.2.2)) else (agoralaw06_SealOpens.j0 k a0 t377 true a3_0 a3_1 a3_2 bt382.1 bt382.2.1 bt382.2.2)) else (agoralaw06_SealOpens.j0 k a0 t377 true a3_0 a3_1 a3_2 bt382.1 bt382.2.1 bt382.2.2)) else (agoralaw06_SealOpens.j0 k a0 t377 true a3_0 a3_1 a3_2 bt382.1 bt382.2.1 bt382.2.2)))) else (some t377)))
def agoralaw06_SealOpens.T14 : Bool × List (List Nat × List Nat) := (true, [([], []), ([0], [0]), ([1], [1]), ([1], [1]), ([3, 1], [1, 3]), ([1], [1]), ([2, 4, 5, 1, 1], [1, 2, 4, 5]), ([1], [1]), ([6, 7, 1], [1, 6, 7]), ([1, 8], [1, 8]), ([9, 6, 0, 1, 2, 3, 4, 5, 6, 7, 8, 9], [9])])
def agoralaw06_SealOpens.B14 : List Nat := [0, 1, 3, 3, 11, 3, 63, 3, 255, 511, 1023]
theorem agoralaw06_SealOpens.tab14 : rtab .any (opsOf Try.f4 14) = agoralaw06_SealOpens.T14 := by kernel_rfl
theorem agoralaw06_SealOpens.bits14 : waitsOk agoralaw06_SealOpens.T14.2 agoralaw06_SealOpens.B14 = true := by kernel_rfl
set_option maxHeartbeats 8000000 in
set_option maxRecDepth 100000 in
theorem agoralaw06_SealOpens.calls (k : Nat) (a0 : ByteArray) (a1 : ByteArray) (a2 : ByteArray) (a3_0 : ByteArray) (a3_1 : ByteArray) (a3_2 : ByteArray) (r : Bool) (w : World) (h : agoralaw06_SealOpens.f k a0 a1 a2 a3_0 a3_1 a3_2 = some r) :
    Calls Try.prog 4 #[.string a0, .string a1, .string a2, .agg #[.string a3_0, .string a3_1, .string a3_2]] w fun e w' => e = .returned (.bool r) ∧ Below w.heap.size w w' := by
  have hu23 := Try.underlying23
  have HB := Aside0.mk (Below.refl w.heap.size w)
  have H : ((agoralaw06_small.f k).bind fun t377 => ((agoralaw06_few.f k (([a0, a1, a2, a3_0, a3_1, a3_2] : List ByteArray))).bind fun t381 => (if t381 = true then ((seal_Seal.f a0 a1 a2).bind fun bt382 => ((seal_Open.f a0 bt382.1 bt382.2.1 bt382.2.2).bind fun bt386 => (if bt386.2 = true then (if bt386.1.toList = a2.toList then (if bt382.1.toList = a1.toList then (if (bt382.2.1.size : Int) = (a2.size : Int) then (agoralaw06_SealOpens.j0 k a0 t377 ((bt382.2.2.size : Int) != 16) a3_0 a3_1 a3_2 bt382.1 bt382.2.1 bt382.2.2) else (agoralaw06_SealOpens.j0 k a0 t377 true a3_0 a3_1 a3_2 bt382.1 bt382.2.1 bt382.2.2)) else (agoralaw06_SealOpens.j0 k a0 t377 true a3_0 a3_1 a3_2 bt382.1 bt382.2.1 bt382.2.2)) else (agoralaw06_SealOpens.j0 k a0 t377 true a3_0 a3_1 a3_2 bt382.1 bt382.2.1 bt382.2.2)) else (agoralaw06_SealOpens.j0 k a0 t377 true a3_0 a3_1 a3_2 bt382.1 bt382.2.1 bt382.2.2)))) else (some t377)))) = some r := h
  clear h
  replace H := Option.bind_eq_some_iff.mp H
  obtain ⟨t377, A50, H⟩ := H
  replace H : ((agoralaw06_few.f k (([a0, a1, a2, a3_0, a3_1, a3_2] : List ByteArray))).bind fun t381 => (if t381 = true then ((seal_Seal.f a0 a1 a2).bind fun bt382 => ((seal_Open.f a0 bt382.1 bt382.2.1 bt382.2.2).bind fun bt386 => (if bt386.2 = true then (if bt386.1.toList = a2.toList then (if bt382.1.toList = a1.toList then (if (bt382.2.1.size : Int) = (a2.size : Int) then (agoralaw06_SealOpens.j0 k a0 t377 ((bt382.2.2.size : Int) != 16) a3_0 a3_1 a3_2 bt382.1 bt382.2.1 bt382.2.2) else (agoralaw06_SealOpens.j0 k a0 t377 true a3_0 a3_1 a3_2 bt382.1 bt382.2.1 bt382.2.2)) else (agoralaw06_SealOpens.j0 k a0 t377 true a3_0 a3_1 a3_2 bt382.1 bt382.2.1 bt382.2.2)) else (agoralaw06_SealOpens.j0 k a0 t377 true a3_0 a3_1 a3_2 bt382.1 bt382.2.1 bt382.2.2)) else (agoralaw06_SealOpens.j0 k a0 t377 true a3_0 a3_1 a3_2 bt382.1 bt382.2.1 bt382.2.2)))) else (some t377))) = some r := H
  have A5 := Aside0.mk A50
  clear A50
  obtain ⟨y378, hy378⟩ : ∃ y_ : List ByteArray, y_ = (([a0, a1, a2, a3_0, a3_1, a3_2] : List ByteArray)) := ⟨_, rfl⟩
  replace H : ((agoralaw06_few.f k y378).bind fun t381 => (if t381 = true then ((seal_Seal.f a0 a1 a2).bind fun bt382 => ((seal_Open.f a0 bt382.1 bt382.2.1 bt382.2.2).bind fun bt386 => (if bt386.2 = true then (if bt386.1.toList = a2.toList then (if bt382.1.toList = a1.toList then (if (bt382.2.1.size : Int) = (a2.size : Int) then (agoralaw06_SealOpens.j0 k a0 t377 ((bt382.2.2.size : Int) != 16) a3_0 a3_1 a3_2 bt382.1 bt382.2.1 bt382.2.2) else (agoralaw06_SealOpens.j0 k a0 t377 true a3_0 a3_1 a3_2 bt382.1 bt382.2.1 bt382.2.2)) else (agoralaw06_SealOpens.j0 k a0 t377 true a3_0 a3_1 a3_2 bt382.1 bt382.2.1 bt382.2.2)) else (agoralaw06_SealOpens.j0 k a0 t377 true a3_0 a3_1 a3_2 bt382.1 bt382.2.1 bt382.2.2)) else (agoralaw06_SealOpens.j0 k a0 t377 true a3_0 a3_1 a3_2 bt382.1 bt382.2.1 bt382.2.2)))) else (some t377))) = some r := by first | (rw [hy378]; with_reducible exact H) | (have H2_ := (Option.bind_some _ _).symm.trans H; rw [hy378]; with_reducible exact H2_) | (have H2_ := (Option.bind_some _ _).symm.trans H; with_reducible exact H2_) | with_reducible exact H | (rw [hy378]; exact H) | exact H
  have Ny378 := Aside0.mk hy378
  clear hy378
  replace H := Option.bind_eq_some_iff.mp H
  obtain ⟨t381, A60, H⟩ := H
  replace H : (if t381 = true then ((seal_Seal.f a0 a1 a2).bind fun bt382 => ((seal_Open.f a0 bt382.1 bt382.2.1 bt382.2.2).bind fun bt386 => (if bt386.2 = true then (if bt386.1.toList = a2.toList then (if bt382.1.toList = a1.toList then (if (bt382.2.1.size : Int) = (a2.size : Int) then (agoralaw06_SealOpens.j0 k a0 t377 ((bt382.2.2.size : Int) != 16) a3_0 a3_1 a3_2 bt382.1 bt382.2.1 bt382.2.2) else (agoralaw06_SealOpens.j0 k a0 t377 true a3_0 a3_1 a3_2 bt382.1 bt382.2.1 bt382.2.2)) else (agoralaw06_SealOpens.j0 k a0 t377 true a3_0 a3_1 a3_2 bt382.1 bt382.2.1 bt382.2.2)) else (agoralaw06_SealOpens.j0 k a0 t377 true a3_0 a3_1 a3_2 bt382.1 bt382.2.1 bt382.2.2)) else (agoralaw06_SealOpens.j0 k a0 t377 true a3_0 a3_1 a3_2 bt382.1 bt382.2.1 bt382.2.2)))) else (some t377)) = some r := H
  have A6 := Aside0.mk A60
  clear A60
  by_cases c7 : t381 = true
  · subst c7
    have H1 : ((seal_Seal.f a0 a1 a2).bind fun bt382 => ((seal_Open.f a0 bt382.1 bt382.2.1 bt382.2.2).bind fun bt386 => (if bt386.2 = true then (if bt386.1.toList = a2.toList then (if bt382.1.toList = a1.toList then (if (bt382.2.1.size : Int) = (a2.size : Int) then (agoralaw06_SealOpens.j0 k a0 t377 ((bt382.2.2.size : Int) != 16) a3_0 a3_1 a3_2 bt382.1 bt382.2.1 bt382.2.2) else (agoralaw06_SealOpens.j0 k a0 t377 true a3_0 a3_1 a3_2 bt382.1 bt382.2.1 bt382.2.2)) else (agoralaw06_SealOpens.j0 k a0 t377 true a3_0 a3_1 a3_2 bt382.1 bt382.2.1 bt382.2.2)) else (agoralaw06_SealOpens.j0 k a0 t377 true a3_0 a3_1 a3_2 bt382.1 bt382.2.1 bt382.2.2)) else (agoralaw06_SealOpens.j0 k a0 t377 true a3_0 a3_1 a3_2 bt382.1 bt382.2.1 bt382.2.2)))) = some r := by rw [if_pos rfl] at H; exact H
    clear H
    have H := H1
    clear H1
    replace H := Option.bind_eq_some_iff.mp H
    obtain ⟨⟨t382, t383, t384⟩, A80, H⟩ := H
    replace H : ((seal_Open.f a0 t382 t383 t384).bind fun bt386 => (if bt386.2 = true then (if bt386.1.toList = a2.toList then (if t382.toList = a1.toList then (if (t383.size : Int) = (a2.size : Int) then (agoralaw06_SealOpens.j0 k a0 t377 ((t384.size : Int) != 16) a3_0 a3_1 a3_2 t382 t383 t384) else (agoralaw06_SealOpens.j0 k a0 t377 true a3_0 a3_1 a3_2 t382 t383 t384)) else (agoralaw06_SealOpens.j0 k a0 t377 true a3_0 a3_1 a3_2 t382 t383 t384)) else (agoralaw06_SealOpens.j0 k a0 t377 true a3_0 a3_1 a3_2 t382 t383 t384)) else (agoralaw06_SealOpens.j0 k a0 t377 true a3_0 a3_1 a3_2 t382 t383 t384))) = some r := H
    have A8 := Aside0.mk A80
    clear A80
    replace H := Option.bind_eq_some_iff.mp H
    obtain ⟨⟨t386, t387⟩, A90, H⟩ := H
    replace H : (if t387 = true then (if t386.toList = a2.toList then (if t382.toList = a1.toList then (if (t383.size : Int) = (a2.size : Int) then (agoralaw06_SealOpens.j0 k a0 t377 ((t384.size : Int) != 16) a3_0 a3_1 a3_2 t382 t383 t384) else (agoralaw06_SealOpens.j0 k a0 t377 true a3_0 a3_1 a3_2 t382 t383 t384)) else (agoralaw06_SealOpens.j0 k a0 t377 true a3_0 a3_1 a3_2 t382 t383 t384)) else (agoralaw06_SealOpens.j0 k a0 t377 true a3_0 a3_1 a3_2 t382 t383 t384)) else (agoralaw06_SealOpens.j0 k a0 t377 true a3_0 a3_1 a3_2 t382 t383 t384)) = some r := H
    have A9 := Aside0.mk A90
    clear A90
    have HC10 := Aside0.mk H
    clear H
    go_enter Try.func4, Try.ntmps4
    go_upto_region 6 with (first | ((with_reducible refine gate_dst (N := 7) rfl ?_); (try (refine gate_guard (by rfl) ?_; dsimp only)); refine box_event ?hg (N := 7) ?hd (cs := #[.string a3_0, .string a3_1, .string a3_2]) (t := 23) ?hr ?_; (case hd => rfl); (case hg => rfl); (case hr => first | (go_simp; done) | (go_simp; rfl) | (go_simp; simp only [IntKind.wrap_u32', Int.emod_add_emod, Int.add_emod_emod])); intro gb376 hg w11 hbox hb; have n0_ := Aside0.mk (below_step (by repeat (first | (with_reducible first | exact HB.out | apply below_alloc | apply pw_below_drewN | apply below_drew1) | exact HB.out)) hb); have n1_ := Aside0.mk (hbox); have n2_ := Aside0.mk ((by rw [hg]; exact (below_size (by repeat (first | (with_reducible first | exact HB.out | apply below_alloc | apply pw_below_drewN | apply below_drew1) | exact HB.out))) : w.heap.size ≤ gb376)); have n3_ := Aside0.mk ((by rw [hg]; exact (below_size (by repeat (first | (with_reducible first | exact HB.out | apply below_alloc | apply pw_below_drewN | apply below_drew1) | exact HB.out))) : w.heap.size ≤ gb376)); clear HB; have HB := n0_; have BK376 := n1_; have GW376 := n2_; have GE376 := n3_; clear n0_ n1_ n2_ n3_; clear hb hbox hg) | ((with_reducible refine gate_callee (f := 8) rfl ?_); refine goesL_ (some 17) rfl rfl Try.func8 (by kernel_rfl) rfl #[] rfl (by (try simp only [List.map_toArray, List.map_cons, List.map_nil]); first | done | rfl | (simp only [List.length_drop, List.length_take]; rfl)) ?_; (with_reducible refine (agoralaw06_small.calls k  t377 _ A5.out).mono ?_); rintro e w12 ⟨rfl, hb⟩; refine ⟨_, rfl, ?_⟩; have n0_ := Aside0.mk (blk_below (g := gb376) (o := .cells #[.string a3_0, .string a3_1, .string a3_2] 23 (0, 0)) (by (with_reducible repeat (first | refine blk_drewN ?_ _ | refine blk_drew ?_ | refine blk_alloc ?_ _)); exact BK376.out) hb); have n1_ := Aside0.mk (below_step (by repeat (first | (with_reducible first | exact HB.out | apply below_alloc | apply pw_below_drewN | apply below_drew1 | refine below_set ?_ GE376.out) | exact HB.out)) hb); clear BK376; clear HB; have BK376 := n0_; have HB := n1_; clear n0_ n1_; (try clear hb); (try clear hb2); (try clear hk); (try clear hi); have hcz13_0 : w12.cell? ⟨gb376, 0, none⟩ = some (.string a3_0) := (blk_cell BK376.out 0).trans rfl; have hcz13_1 : w12.cell? ⟨gb376, 1, none⟩ = some (.string a3_1) := (blk_cell BK376.out 1).trans rfl; have hcz13_2 : w12.cell? ⟨gb376, 2, none⟩ = some (.string a3_2) := (blk_cell BK376.out 2).trans rfl; have hfz13_0 := blk_frozen BK376.out 0; have hfz13_1 := blk_frozen BK376.out 1; have hfz13_2 := blk_frozen BK376.out 2) | ((with_reducible refine gate_dst (N := 27) rfl ?_); (try (refine gate_guard (by rfl) ?_; dsimp only)); refine Kd.R_lit Kd.string _ 9 ?hg (N := 27) ?hd (xs := ([a0, a1, a2, a3_0, a3_1, a3_2] : List ByteArray)) (inner := [.string a0, .string a1, .string a2, .string a3_0, .string a3_1, .string a3_2]) (ok := fun _ => True) (okp := fun _ => True) ?hr ?hp (fun _ hk => hk) trivial (Below.refl _ _) (Nat.le_refl _) (by simp) ?_; (case hd => rfl); (case hg => rfl); (case hr => first | (go_simp; done) | (go_simp; rfl) | (go_simp; simp only [IntKind.wrap_u32', Int.emod_add_emod, Int.add_emod_emod])); (case hp => exact (Reps.one (show Kd.M Kd.string _ _ _ a0 [.string a0] from rfl) (Reps.one (show Kd.M Kd.string _ _ _ a1 [.string a1] from rfl) (Reps.one (show Kd.M Kd.string _ _ _ a2 [.string a2] from rfl) (Reps.one (show Kd.M Kd.string _ _ _ a3_0 [.string a3_0] from rfl) (Reps.one (show Kd.M Kd.string _ _ _ a3_1 [.string a3_1] from rfl) (Reps.one (show Kd.M Kd.string _ _ _ a3_2 [.string a3_2] from rfl) (Reps.none _ _)))))))); intro v379 w14 ho15 hb hg_ hnew_; clear hg_ hnew_; (first | rw [← Ny378.out] at ho15 | (simp only [Int.reduceToNat] at ho15; rw [← Ny378.out] at ho15)); have n0_ := Aside0.mk (Kd.R_lower ho15 (below_size (by repeat (first | (with_reducible first | exact HB.out | apply below_alloc | apply pw_below_drewN | apply below_drew1 | refine below_set ?_ GE376.out) | exact HB.out)))); have n1_ := Aside0.mk (blk_below (g := gb376) (o := .cells #[.string a3_0, .string a3_1, .string a3_2] 23 (0, 0)) (by (with_reducible repeat (first | refine blk_drewN ?_ _ | refine blk_drew ?_ | refine blk_alloc ?_ _)); exact BK376.out) hb); have n2_ := Aside0.mk (below_step (by repeat (first | (with_reducible first | exact HB.out | apply below_alloc | apply pw_below_drewN | apply below_drew1 | refine below_set ?_ GE376.out) | exact HB.out)) hb); clear BK376; clear HB; have HO380 := n0_; have BK376 := n1_; have HB := n2_; clear n0_ n1_ n2_; clear hb ho15; obtain ⟨Ao16, co16, eo16⟩ := Kd.R_slice HO380.out; subst eo16) | ((with_reducible refine gate_callee (f := 9) rfl ?_); refine goesL_ (some 28) rfl rfl Try.func9 (by kernel_rfl) rfl #[.slice Ao16 y378.length co16] rfl (by (try simp only [List.map_toArray, List.map_cons, List.map_nil]); first | done | rfl | (simp only [List.length_drop, List.length_take]; rfl)) ?_; (with_reducible refine (agoralaw06_few.calls k _ _ y378 true _ ?side1 ?side2 A6.out).mono ?_); (case side1 => repeat (first | exact (Kd.R_reads' HO380.out).2.2 | (with_reducible refine Kd.C_alloc ?_ _) | (with_reducible refine Kd.C_drewN ?_ _) | (with_reducible refine Kd.C_drew ?_))); (case side2 => exact (Kd.R_reads' HO380.out).2.1); rintro e w' ⟨rfl, ⟨nd, rfl⟩⟩; refine ⟨_, rfl, ?_⟩; (try simp only [World.drewN_drewN]); (try (rw [drewN_self w14]; generalize hq_ : World.drewN w14 _ = w14; have n0_ : Aside0 (Kd.R Kd.string 9 w14 w.heap.size (fun _ => True) (.slice Ao16 y378.length co16) y378) := ⟨by rw [← hq_]; exact (by (with_reducible repeat (first | apply Kd.R_alloc | apply Kd.R_drewN | apply Kd.R_drew)); exact HO380.out)⟩; have n1_ : Aside0 (w14.heap[gb376]? = some (.cells #[.string a3_0, .string a3_1, .string a3_2] 23 (0, 0))) := ⟨by rw [← hq_]; exact (by (with_reducible repeat (first | refine blk_drewN ?_ _ | refine blk_drew ?_ | refine blk_alloc ?_ _)); exact BK376.out)⟩; have n2_ : Aside0 (Below w.heap.size w w14) := ⟨by rw [← hq_]; exact (by repeat (first | (with_reducible first | exact HB.out | apply below_alloc | apply pw_below_drewN | apply below_drew1 | refine below_set ?_ GE376.out) | exact HB.out))⟩; clear HO380 BK376 HB hq_; have HO380 := n0_; have BK376 := n1_; have HB := n2_; clear n0_ n1_ n2_))) | ((with_reducible refine gate_callee (f := 16) rfl ?_); refine goesL_ (some 34) rfl rfl Try.func16 (by kernel_rfl) rfl #[.string a0, .string a1, .string a2] rfl (by (try simp only [List.map_toArray, List.map_cons, List.map_nil]); first | done | rfl | (simp only [List.length_drop, List.length_take]; rfl)) ?_; (with_reducible refine (seal_Seal.calls a0 a1 a2 t382 t383 t384 _ A8.out).mono ?_); rintro e w17 ⟨rfl, hb⟩; refine ⟨_, rfl, ?_⟩; have n0_ := Aside0.mk (Kd.R_below (by (with_reducible repeat (first | apply Kd.R_alloc | apply Kd.R_drewN | apply Kd.R_drew)); exact HO380.out) hb); have n1_ := Aside0.mk (blk_below (g := gb376) (o := .cells #[.string a3_0, .string a3_1, .string a3_2] 23 (0, 0)) (by (with_reducible repeat (first | refine blk_drewN ?_ _ | refine blk_drew ?_ | refine blk_alloc ?_ _)); exact BK376.out) hb); have n2_ := Aside0.mk (below_step (by repeat (first | (with_reducible first | exact HB.out | apply below_alloc | apply pw_below_drewN | apply below_drew1 | refine below_set ?_ GE376.out) | exact HB.out)) hb); clear HO380; clear BK376; clear HB; have HO380 := n0_; have BK376 := n1_; have HB := n2_; clear n0_ n1_ n2_; (try clear hb); (try clear hb2); (try clear hk); (try clear hi)) | ((with_reducible refine gate_dst (N := 10) rfl ?_); (try (refine gate_guard (by rfl) ?_; dsimp only)); refine box_event ?hg (N := 10) ?hd (cs := #[.string (⟨#[]⟩ : ByteArray), .string (⟨#[]⟩ : ByteArray), .string (⟨#[]⟩ : ByteArray)]) (t := 23) ?hr ?_; (case hd => rfl); (case hg => rfl); (case hr => first | (go_simp; done) | (go_simp; rfl) | (go_simp; simp only [IntKind.wrap_u32', Int.emod_add_emod, Int.add_emod_emod])); intro gb385 hg w18 hbox hb; have n0_ := Aside0.mk (Kd.R_below (by (with_reducible repeat (first | apply Kd.R_alloc | apply Kd.R_drewN | apply Kd.R_drew)); exact HO380.out) hb); have n1_ := Aside0.mk (blk_below (g := gb376) (o := .cells #[.string a3_0, .string a3_1, .string a3_2] 23 (0, 0)) (by (with_reducible repeat (first | refine blk_drewN ?_ _ | refine blk_drew ?_ | refine blk_alloc ?_ _)); exact BK376.out) hb); have n2_ := Aside0.mk (below_step (by repeat (first | (with_reducible first | exact HB.out | apply below_alloc | apply pw_below_drewN | apply below_drew1 | refine below_set ?_ GE376.out) | exact HB.out)) hb); have n3_ := Aside0.mk (hbox); have n4_ := Aside0.mk ((by rw [hg]; exact (below_size (by repeat (first | (with_reducible first | exact HB.out | apply below_alloc | apply pw_below_drewN | apply below_drew1 | refine below_set ?_ GE376.out) | exact HB.out))) : w.heap.size ≤ gb385)); have n5_ := Aside0.mk ((by rw [hg]; exact (below_size (by repeat (first | (with_reducible first | exact HB.out | apply below_alloc | apply pw_below_drewN | apply below_drew1 | refine below_set ?_ GE376.out) | exact HB.out))) : w.heap.size ≤ gb385)); have n6_ := Aside0.mk ((by rw [hg]; exact Nat.ne_of_lt (blk_lt (g := gb376) (o := .cells #[.string a3_0, .string a3_1, .string a3_2] 23 (0, 0)) (by (with_reducible repeat (first | refine blk_drewN ?_ _ | refine blk_drew ?_ | refine blk_alloc ?_ _)); exact BK376.out)) : gb376 ≠ gb385)); have n7_ := Aside0.mk ((by rw [hg]; exact Nat.ne_of_gt (blk_lt (g := gb376) (o := .cells #[.string a3_0, .string a3_1, .string a3_2] 23 (0, 0)) (by (with_reducible repeat (first | refine blk_drewN ?_ _ | refine blk_drew ?_ | refine blk_alloc ?_ _)); exact BK376.out)) : gb385 ≠ gb376)); clear HO380; clear BK376; clear HB; have HO380 := n0_; have BK376 := n1_; have HB := n2_; have BK385 := n3_; have GW385 := n4_; have GE385 := n5_; have NB376_385 := n6_; have NB385_376 := n7_; clear n0_ n1_ n2_ n3_ n4_ n5_ n6_ n7_; clear hb hbox hg; have hnb19 := NB385_376.out; have hnc19 := NB376_385.out; have hcz20_0 : w18.cell? ⟨gb385, 0, none⟩ = some (.string (⟨#[]⟩ : ByteArray)) := (blk_cell BK385.out 0).trans rfl; have hcz20_1 : w18.cell? ⟨gb385, 1, none⟩ = some (.string (⟨#[]⟩ : ByteArray)) := (blk_cell BK385.out 1).trans rfl; have hcz20_2 : w18.cell? ⟨gb385, 2, none⟩ = some (.string (⟨#[]⟩ : ByteArray)) := (blk_cell BK385.out 2).trans rfl; have hfz20_0 := blk_frozen BK385.out 0; have hfz20_1 := blk_frozen BK385.out 1; have hfz20_2 := blk_frozen BK385.out 2) | ((with_reducible refine gate_callee (f := 10) rfl ?_); refine goesL_ (some 38) rfl rfl Try.func10 (by kernel_rfl) rfl #[.string a0, .agg #[.string t382, .string t383, .string t384]] rfl (by (try simp only [List.map_toArray, List.map_cons, List.map_nil]); first | done | rfl | (simp only [List.length_drop, List.length_take]; rfl)) ?_; (with_reducible refine (seal_Open.calls a0 t382 t383 t384 t386 t387 _ A9.out).mono ?_); rintro e w21 ⟨rfl, hb⟩; refine ⟨_, rfl, ?_⟩; have n0_ := Aside0.mk (Kd.R_below (by (with_reducible repeat (first | apply Kd.R_alloc | apply Kd.R_drewN | apply Kd.R_drew)); exact (Kd.R_mono (Kd.R_far (p := ⟨gb385, 2, none⟩) (Kd.R_far (p := ⟨gb385, 1, none⟩) (Kd.R_far (p := ⟨gb385, 0, none⟩) (Kd.R_types HO380.out BK385.out (by decide)) (fun _ hk => hk.2) (.string t382)) (fun _ hk => hk.2) (.string t383)) (fun _ hk => hk.2) (.string t384)) (fun _ h_ => h_.1))) hb); have n1_ := Aside0.mk (blk_below (g := gb376) (o := .cells #[.string a3_0, .string a3_1, .string a3_2] 23 (0, 0)) (by (with_reducible repeat (first | refine blk_drewN ?_ _ | refine blk_drew ?_ | refine blk_alloc ?_ _)); refine blk_far ?_ NB376_385.out _; (with_reducible repeat (first | refine blk_drewN ?_ _ | refine blk_drew ?_ | refine blk_alloc ?_ _)); refine blk_far ?_ NB376_385.out _; (with_reducible repeat (first | refine blk_drewN ?_ _ | refine blk_drew ?_ | refine blk_alloc ?_ _)); refine blk_far ?_ NB376_385.out _; (with_reducible repeat (first | refine blk_drewN ?_ _ | refine blk_drew ?_ | refine blk_alloc ?_ _)); exact BK376.out) hb); have n2_ := Aside0.mk (blk_below (g := gb385) (o := .cells #[.string t382, .string t383, .string t384] 23 (0, 0)) (by (with_reducible repeat (first | refine blk_drewN ?_ _ | refine blk_drew ?_ | refine blk_alloc ?_ _)); refine blk_put (cs := #[.string t382, .string t383, .string (⟨#[]⟩ : ByteArray)]) ?_ 2 _ rfl; (with_reducible repeat (first | refine blk_drewN ?_ _ | refine blk_drew ?_ | refine blk_alloc ?_ _)); refine blk_put (cs := #[.string t382, .string (⟨#[]⟩ : ByteArray), .string (⟨#[]⟩ : ByteArray)]) ?_ 1 _ rfl; (with_reducible repeat (first | refine blk_drewN ?_ _ | refine blk_drew ?_ | refine blk_alloc ?_ _)); refine blk_put (cs := #[.string (⟨#[]⟩ : ByteArray), .string (⟨#[]⟩ : ByteArray), .string (⟨#[]⟩ : ByteArray)]) ?_ 0 _ rfl; (with_reducible repeat (first | refine blk_drewN ?_ _ | refine blk_drew ?_ | refine blk_alloc ?_ _)); exact BK385.out) hb); have n3_ := Aside0.mk (below_step (by repeat (first | (with_reducible first | exact HB.out | apply below_alloc | apply pw_below_drewN | apply below_drew1 | refine below_set ?_ GE376.out | refine below_set ?_ GE385.out) | exact HB.out)) hb); clear HO380; clear BK376; clear BK385; clear HB; have HO380 := n0_; have BK376 := n1_; have BK385 := n2_; have HB := n3_; clear n0_ n1_ n2_ n3_; (try clear hb); (try clear hb2); (try clear hk); (try clear hi)))
    (try simp only [Act.put, List.setIfInBounds_toArray, List.set_cons_zero, List.set_cons_succ])
    go_cut [67] (fun v67 wc => ∃ (kq : Nat) (x67_9 : Bool), v67 = .bool x67_9 ∧ Aside0 (agoralaw06_SealOpens.j0 kq a0 t377 x67_9 a3_0 a3_1 a3_2 t382 t383 t384 = some r) ∧ Aside0 (kq ≤ k) ∧ Aside0 (wc.heap[gb376]? = some (.cells #[.string a3_0, .string a3_1, .string a3_2] 23 (0, 0))) ∧ Aside0 (wc.heap[gb385]? = some (.cells #[.string t382, .string t383, .string t384] 23 (0, 0))) ∧ Aside0 (Below w.heap.size w wc))
    case first =>
      have H := HC10.out
      clear HC10
      by_cases c22 : t387 = true
      · subst c22
        have H1 : (if t386.toList = a2.toList then (if t382.toList = a1.toList then (if (t383.size : Int) = (a2.size : Int) then (agoralaw06_SealOpens.j0 k a0 t377 ((t384.size : Int) != 16) a3_0 a3_1 a3_2 t382 t383 t384) else (agoralaw06_SealOpens.j0 k a0 t377 true a3_0 a3_1 a3_2 t382 t383 t384)) else (agoralaw06_SealOpens.j0 k a0 t377 true a3_0 a3_1 a3_2 t382 t383 t384)) else (agoralaw06_SealOpens.j0 k a0 t377 true a3_0 a3_1 a3_2 t382 t383 t384)) = some r := by rw [if_pos rfl] at H; exact H
        clear H
        have H := H1
        clear H1
        by_cases c23 : t386.toList = a2.toList
        · rw [if_pos c23] at H
          have c23b0 : (t386.toList == a2.toList) = true := beq_iff_eq.mpr c23
          have c23b1 : (t386.toList != a2.toList) = false := bne_eq_false_iff_eq.mpr c23
          clear c23
          (first | rw [c23b0] | (simp only [i64_w, i32_w]; rw [c23b0]) | skip)
          by_cases c24 : t382.toList = a1.toList
          · rw [if_pos c24] at H
            have c24b0 : (t382.toList == a1.toList) = true := beq_iff_eq.mpr c24
            have c24b1 : (t382.toList != a1.toList) = false := bne_eq_false_iff_eq.mpr c24
            clear c24
            by_cases c25 : (t383.size : Int) = (a2.size : Int)
            · rw [if_pos c25] at H
              have c25b0 : ((t383.size : Int) == (a2.size : Int)) = true := beq_iff_eq.mpr c25
              have c25b1 : ((t383.size : Int) != (a2.size : Int)) = false := bne_eq_false_iff_eq.mpr c25
              have c25b2 : (t383.size == a2.size) = true := by first | simpa using c25 | (simp at c25 ⊢; omega)
              clear c25
              have H' := Aside0.mk H
              clear H
              have hnb26 := NB385_376.out
              have hnc26 := NB376_385.out
              have hcz27_0 : w21.cell? ⟨gb385, 0, none⟩ = some (.string t382) := (blk_cell BK385.out 0).trans rfl
              have hcz27_1 : w21.cell? ⟨gb385, 1, none⟩ = some (.string t383) := (blk_cell BK385.out 1).trans rfl
              have hcz27_2 : w21.cell? ⟨gb385, 2, none⟩ = some (.string t384) := (blk_cell BK385.out 2).trans rfl
              have hfz27_0 := blk_frozen BK385.out 0
              have hfz27_1 := blk_frozen BK385.out 1
              have hfz27_2 := blk_frozen BK385.out 2
              go_wp2
              go_meet
              case rel => exact ⟨_, (((t384.size : Int) != 16)), (by first | rfl | (simp; done) | (simp [*]; done)), H', ⟨by first | omega | exact Nat.le_refl _⟩, ⟨by (with_reducible repeat (first | refine blk_drewN ?_ _ | refine blk_drew ?_ | refine blk_alloc ?_ _)); exact BK376.out⟩, ⟨by (with_reducible repeat (first | refine blk_drewN ?_ _ | refine blk_drew ?_ | refine blk_alloc ?_ _)); exact BK385.out⟩, ⟨by repeat (first | (with_reducible first | exact HB.out | apply below_alloc | apply pw_below_drewN | apply below_drew1 | refine below_set ?_ GE376.out | refine below_set ?_ GE385.out) | exact HB.out)⟩⟩
            · rw [if_neg c25] at H
              have c25b0 : ((t383.size : Int) == (a2.size : Int)) = false := beq_eq_false_iff_ne.mpr c25
              have c25b1 : ((t383.size : Int) != (a2.size : Int)) = true := bne_iff_ne.mpr c25
              have c25b2 : (t383.size == a2.size) = false := by first | simpa using c25 | (simp at c25 ⊢; omega)
              have H' := Aside0.mk H
              clear H
              have hnb28 := NB385_376.out
              have hnc28 := NB376_385.out
              have hcz29_0 : w21.cell? ⟨gb385, 0, none⟩ = some (.string t382) := (blk_cell BK385.out 0).trans rfl
              have hcz29_1 : w21.cell? ⟨gb385, 1, none⟩ = some (.string t383) := (blk_cell BK385.out 1).trans rfl
              have hcz29_2 : w21.cell? ⟨gb385, 2, none⟩ = some (.string t384) := (blk_cell BK385.out 2).trans rfl
              have hfz29_0 := blk_frozen BK385.out 0
              have hfz29_1 := blk_frozen BK385.out 1
              have hfz29_2 := blk_frozen BK385.out 2
              go_wp2
              go_meet
              case rel => exact ⟨_, (true), (by first | rfl | (simp; done) | (simp [*]; done)), H', ⟨by first | omega | exact Nat.le_refl _⟩, ⟨by (with_reducible repeat (first | refine blk_drewN ?_ _ | refine blk_drew ?_ | refine blk_alloc ?_ _)); exact BK376.out⟩, ⟨by (with_reducible repeat (first | refine blk_drewN ?_ _ | refine blk_drew ?_ | refine blk_alloc ?_ _)); exact BK385.out⟩, ⟨by repeat (first | (with_reducible first | exact HB.out | apply below_alloc | apply pw_below_drewN | apply below_drew1 | refine below_set ?_ GE376.out | refine below_set ?_ GE385.out) | exact HB.out)⟩⟩
          · rw [if_neg c24] at H
            have c24b0 : (t382.toList == a1.toList) = false := beq_eq_false_iff_ne.mpr c24
            have c24b1 : (t382.toList != a1.toList) = true := bne_iff_ne.mpr c24
            have H' := Aside0.mk H
            clear H
            have hnb30 := NB385_376.out
            have hnc30 := NB376_385.out
            have hcz31_0 : w21.cell? ⟨gb385, 0, none⟩ = some (.string t382) := (blk_cell BK385.out 0).trans rfl
            have hcz31_1 : w21.cell? ⟨gb385, 1, none⟩ = some (.string t383) := (blk_cell BK385.out 1).trans rfl
            have hcz31_2 : w21.cell? ⟨gb385, 2, none⟩ = some (.string t384) := (blk_cell BK385.out 2).trans rfl
            have hfz31_0 := blk_frozen BK385.out 0
            have hfz31_1 := blk_frozen BK385.out 1
            have hfz31_2 := blk_frozen BK385.out 2
            go_wp2
            go_meet
            case rel => exact ⟨_, (true), (by first | rfl | (simp; done) | (simp [*]; done)), H', ⟨by first | omega | exact Nat.le_refl _⟩, ⟨by (with_reducible repeat (first | refine blk_drewN ?_ _ | refine blk_drew ?_ | refine blk_alloc ?_ _)); exact BK376.out⟩, ⟨by (with_reducible repeat (first | refine blk_drewN ?_ _ | refine blk_drew ?_ | refine blk_alloc ?_ _)); exact BK385.out⟩, ⟨by repeat (first | (with_reducible first | exact HB.out | apply below_alloc | apply pw_below_drewN | apply below_drew1 | refine below_set ?_ GE376.out | refine below_set ?_ GE385.out) | exact HB.out)⟩⟩
        · rw [if_neg c23] at H
          have c23b0 : (t386.toList == a2.toList) = false := beq_eq_false_iff_ne.mpr c23
          have c23b1 : (t386.toList != a2.toList) = true := bne_iff_ne.mpr c23
          (first | rw [c23b0] | (simp only [i64_w, i32_w]; rw [c23b0]) | skip)
          have H' := Aside0.mk H
          clear H
          go_wp2
          go_meet
          case rel => exact ⟨_, (true), (by first | rfl | (simp; done) | (simp [*]; done)), H', ⟨by first | omega | exact Nat.le_refl _⟩, ⟨by (with_reducible repeat (first | refine blk_drewN ?_ _ | refine blk_drew ?_ | refine blk_alloc ?_ _)); exact BK376.out⟩, ⟨by (with_reducible repeat (first | refine blk_drewN ?_ _ | refine blk_drew ?_ | refine blk_alloc ?_ _)); exact BK385.out⟩, ⟨by repeat (first | (with_reducible first | exact HB.out | apply below_alloc | apply pw_below_drewN | apply below_drew1 | refine below_set ?_ GE376.out | refine below_set ?_ GE385.out) | exact HB.out)⟩⟩
      · replace c22 := Bool.eq_false_iff.mpr c22
        subst c22
        have H1 : (agoralaw06_SealOpens.j0 k a0 t377 true a3_0 a3_1 a3_2 t382 t383 t384) = some r := by rw [if_neg (show ¬ (false = true) by decide)] at H; exact H
        clear H
        have H := H1
        clear H1
        have H' := Aside0.mk H
        clear H
        go_wp2
        go_meet
        case rel => exact ⟨_, (true), (by first | rfl | (simp; done) | (simp [*]; done)), H', ⟨by first | omega | exact Nat.le_refl _⟩, ⟨by (with_reducible repeat (first | refine blk_drewN ?_ _ | refine blk_drew ?_ | refine blk_alloc ?_ _)); exact BK376.out⟩, ⟨by (with_reducible repeat (first | refine blk_drewN ?_ _ | refine blk_drew ?_ | refine blk_alloc ?_ _)); exact BK385.out⟩, ⟨by repeat (first | (with_reducible first | exact HB.out | apply below_alloc | apply pw_below_drewN | apply below_drew1 | refine below_set ?_ GE376.out | refine below_set ?_ GE385.out) | exact HB.out)⟩⟩
    case rest =>
      clear HC10
      try clear c1
      try clear c2
      try clear p2
      try clear c3
      try clear c4
      try clear c7
      try clear c8
      try clear c9
      try clear c10
      try clear c16
      try clear c19
      try clear c22
      try clear c23
      try clear c23b0
      try clear c23b1
      try clear c24
      try clear c24b0
      try clear c24b1
      try clear c25
      try clear c25b0
      try clear c25b1
      try clear c25b2
      try clear c26
      try clear c28
      try clear c30
      try clear hcz13_0
      try clear hcz13_1
      try clear hcz13_2
      try clear hcz20_0
      try clear hcz20_1
      try clear hcz20_2
      try clear hcz27_0
      try clear hcz27_1
      try clear hcz27_2
      try clear hcz29_0
      try clear hcz29_1
      try clear hcz29_2
      try clear hcz31_0
      try clear hcz31_1
      try clear hcz31_2
      try clear hfz13_0
      try clear hfz13_1
      try clear hfz13_2
      try clear hfz20_0
      try clear hfz20_1
      try clear hfz20_2
      try clear hfz27_0
      try clear hfz27_1
      try clear hfz27_2
      try clear hfz29_0
      try clear hfz29_1
      try clear hfz29_2
      try clear hfz31_0
      try clear hfz31_1
      try clear hfz31_2
      obtain ⟨kq, x67_9, rfl, HA, HJ9, BK376, BK385, HB⟩ := hcut
      cases kq with
      | zero => exact absurd HA.out (by simp [agoralaw06_SealOpens.j0])
      | succ kj9 =>
        have H := HA.out
        clear HA
        simp only [agoralaw06_SealOpens.j0] at H
        by_cases c32 : x67_9 = true
        · subst c32
          have H1 : (none) = some r := by rw [if_pos rfl] at H; exact H
          clear H
          have H := H1
          clear H1
          exact absurd H (by simp)
        · replace c32 := Bool.eq_false_iff.mpr c32
          subst c32
          have H1 : ((seal_Open.f a0 t382 t383 a3_2).bind fun bt388 => (if (bt388.2 != (a3_2.toList == t384.toList)) = true then (none) else ((seal_Open.f a0 a3_0 a3_1 a3_2).bind fun bt390 => (if bt390.2 = true then (if t377 = true then ((seal_Seal.f a0 a3_0 bt390.1).bind fun bt392 => (some (bt392.1.toList == a3_0.toList && (bt392.2.1.toList == a3_1.toList && (bt392.2.2.toList == a3_2.toList))))) else (none)) else (if t377 = true then (some (bt390.1.toList == ([] : List UInt8))) else (none)))))) = some r := by rw [if_neg (show ¬ (false = true) by decide)] at H; exact H
          clear H
          have H := H1
          clear H1
          replace H := Option.bind_eq_some_iff.mp H
          obtain ⟨⟨t388, t389⟩, A330, H⟩ := H
          replace H : (if (t389 != (a3_2.toList == t384.toList)) = true then (none) else ((seal_Open.f a0 a3_0 a3_1 a3_2).bind fun bt390 => (if bt390.2 = true then (if t377 = true then ((seal_Seal.f a0 a3_0 bt390.1).bind fun bt392 => (some (bt392.1.toList == a3_0.toList && (bt392.2.1.toList == a3_1.toList && (bt392.2.2.toList == a3_2.toList))))) else (none)) else (if t377 = true then (some (bt390.1.toList == ([] : List UInt8))) else (none))))) = some r := H
          have A33 := Aside0.mk A330
          clear A330
          by_cases c34 : (t389 != (a3_2.toList == t384.toList)) = true
          · rw [if_pos c34] at H
            exact absurd H (by simp)
          · rw [if_neg c34] at H
            have c34b0 : (t389 != (a3_2.toList == t384.toList)) = false := by simpa using c34
            (try (have c34b1 : decide (t389 = (a3_2.toList == t384.toList)) = true := by simpa using c34))
            (try (have c34b2 : (t389 == (a3_2.toList == t384.toList)) = true := by simpa using c34))
            clear c34
            replace H := Option.bind_eq_some_iff.mp H
            obtain ⟨⟨t390, t391⟩, A350, H⟩ := H
            replace H : (if t391 = true then (if t377 = true then ((seal_Seal.f a0 a3_0 t390).bind fun bt392 => (some (bt392.1.toList == a3_0.toList && (bt392.2.1.toList == a3_1.toList && (bt392.2.2.toList == a3_2.toList))))) else (none)) else (if t377 = true then (some (t390.toList == ([] : List UInt8))) else (none))) = some r := H
            have A35 := Aside0.mk A350
            clear A350
            by_cases c36 : t391 = true
            · subst c36
              have H1 : (if t377 = true then ((seal_Seal.f a0 a3_0 t390).bind fun bt392 => (some (bt392.1.toList == a3_0.toList && (bt392.2.1.toList == a3_1.toList && (bt392.2.2.toList == a3_2.toList))))) else (none)) = some r := by rw [if_pos rfl] at H; exact H
              clear H
              have H := H1
              clear H1
              by_cases c37 : t377 = true
              · subst c37
                have H1 : ((seal_Seal.f a0 a3_0 t390).bind fun bt392 => (some (bt392.1.toList == a3_0.toList && (bt392.2.1.toList == a3_1.toList && (bt392.2.2.toList == a3_2.toList))))) = some r := by rw [if_pos rfl] at H; exact H
                clear H
                have H := H1
                clear H1
                replace H := Option.bind_eq_some_iff.mp H
                obtain ⟨⟨t392, t393, t394⟩, A380, H⟩ := H
                replace H : (some (t392.toList == a3_0.toList && (t393.toList == a3_1.toList && (t394.toList == a3_2.toList)))) = some r := H
                have A38 := Aside0.mk A380
                clear A380
                obtain rfl := Option.some.inj H
                have hnb39 := NB385_376.out
                have hnc39 := NB376_385.out
                have hcz40_0 : wc.cell? ⟨gb385, 0, none⟩ = some (.string t382) := (blk_cell BK385.out 0).trans rfl
                have hcz40_1 : wc.cell? ⟨gb385, 1, none⟩ = some (.string t383) := (blk_cell BK385.out 1).trans rfl
                have hcz40_2 : wc.cell? ⟨gb385, 2, none⟩ = some (.string t384) := (blk_cell BK385.out 2).trans rfl
                have hfz40_0 := blk_frozen BK385.out 0
                have hfz40_1 := blk_frozen BK385.out 1
                have hfz40_2 := blk_frozen BK385.out 2
                have hcz41_0 : wc.cell? ⟨gb376, 0, none⟩ = some (.string a3_0) := (blk_cell BK376.out 0).trans rfl
                have hcz41_1 : wc.cell? ⟨gb376, 1, none⟩ = some (.string a3_1) := (blk_cell BK376.out 1).trans rfl
                have hcz41_2 : wc.cell? ⟨gb376, 2, none⟩ = some (.string a3_2) := (blk_cell BK376.out 2).trans rfl
                have hfz41_0 := blk_frozen BK376.out 0
                have hfz41_1 := blk_frozen BK376.out 1
                have hfz41_2 := blk_frozen BK376.out 2
                try go_wp2_with (first | ((with_reducible refine gate_callee (f := 10) rfl ?_); refine goesL_ (some 77) rfl rfl Try.func10 (by kernel_rfl) rfl #[.string a0, .agg #[.string t382, .string t383, .string a3_2]] rfl (by (try simp only [List.map_toArray, List.map_cons, List.map_nil]); first | done | rfl | (simp only [List.length_drop, List.length_take]; rfl)) ?_; (with_reducible refine (seal_Open.calls a0 t382 t383 a3_2 t388 t389 _ A33.out).mono ?_); rintro e w42 ⟨rfl, hb⟩; refine ⟨_, rfl, ?_⟩; have n0_ := Aside0.mk (blk_below (g := gb376) (o := .cells #[.string a3_0, .string a3_1, .string a3_2] 23 (0, 0)) (by (with_reducible repeat (first | refine blk_drewN ?_ _ | refine blk_drew ?_ | refine blk_alloc ?_ _)); exact BK376.out) hb); have n1_ := Aside0.mk (blk_below (g := gb385) (o := .cells #[.string t382, .string t383, .string t384] 23 (0, 0)) (by (with_reducible repeat (first | refine blk_drewN ?_ _ | refine blk_drew ?_ | refine blk_alloc ?_ _)); exact BK385.out) hb); have n2_ := Aside0.mk (below_step (by repeat (first | (with_reducible first | exact HB.out | apply below_alloc | apply pw_below_drewN | apply below_drew1 | refine below_set ?_ GE376.out | refine below_set ?_ GE385.out) | exact HB.out)) hb); clear BK376; clear BK385; clear HB; have BK376 := n0_; have BK385 := n1_; have HB := n2_; clear n0_ n1_ n2_; (try clear hb); (try clear hb2); (try clear hk); (try clear hi); have hcz43_0 : w42.cell? ⟨gb376, 0, none⟩ = some (.string a3_0) := (blk_cell BK376.out 0).trans rfl; have hcz43_1 : w42.cell? ⟨gb376, 1, none⟩ = some (.string a3_1) := (blk_cell BK376.out 1).trans rfl; have hcz43_2 : w42.cell? ⟨gb376, 2, none⟩ = some (.string a3_2) := (blk_cell BK376.out 2).trans rfl; have hfz43_0 := blk_frozen BK376.out 0; have hfz43_1 := blk_frozen BK376.out 1; have hfz43_2 := blk_frozen BK376.out 2; have hcz44_0 : w42.cell? ⟨gb385, 0, none⟩ = some (.string t382) := (blk_cell BK385.out 0).trans rfl; have hcz44_1 : w42.cell? ⟨gb385, 1, none⟩ = some (.string t383) := (blk_cell BK385.out 1).trans rfl; have hcz44_2 : w42.cell? ⟨gb385, 2, none⟩ = some (.string t384) := (blk_cell BK385.out 2).trans rfl; have hfz44_0 := blk_frozen BK385.out 0; have hfz44_1 := blk_frozen BK385.out 1; have hfz44_2 := blk_frozen BK385.out 2) | ((with_reducible refine gate_callee (f := 10) rfl ?_); refine goesL_ (some 90) rfl rfl Try.func10 (by kernel_rfl) rfl #[.string a0, .agg #[.string a3_0, .string a3_1, .string a3_2]] rfl (by (try simp only [List.map_toArray, List.map_cons, List.map_nil]); first | done | rfl | (simp only [List.length_drop, List.length_take]; rfl)) ?_; (with_reducible refine (seal_Open.calls a0 a3_0 a3_1 a3_2 t390 true _ A35.out).mono ?_); rintro e w45 ⟨rfl, hb⟩; refine ⟨_, rfl, ?_⟩; have n0_ := Aside0.mk (blk_below (g := gb376) (o := .cells #[.string a3_0, .string a3_1, .string a3_2] 23 (0, 0)) (by (with_reducible repeat (first | refine blk_drewN ?_ _ | refine blk_drew ?_ | refine blk_alloc ?_ _)); exact BK376.out) hb); have n1_ := Aside0.mk (blk_below (g := gb385) (o := .cells #[.string t382, .string t383, .string t384] 23 (0, 0)) (by (with_reducible repeat (first | refine blk_drewN ?_ _ | refine blk_drew ?_ | refine blk_alloc ?_ _)); exact BK385.out) hb); have n2_ := Aside0.mk (below_step (by repeat (first | (with_reducible first | exact HB.out | apply below_alloc | apply pw_below_drewN | apply below_drew1 | refine below_set ?_ GE376.out | refine below_set ?_ GE385.out) | exact HB.out)) hb); clear BK376; clear BK385; clear HB; have BK376 := n0_; have BK385 := n1_; have HB := n2_; clear n0_ n1_ n2_; (try clear hb); (try clear hb2); (try clear hk); (try clear hi)))
                have n0_ := Aside0.mk (blk_drew BK376.out)
                have n1_ := Aside0.mk (blk_drew BK385.out)
                have n2_ := Aside0.mk (below_drew1 HB.out)
                clear BK376
                clear BK385
                clear HB
                have BK376 := n0_
                have BK385 := n1_
                have HB := n2_
                clear n0_ n1_ n2_
                refine start_ (n := 11) (S := fun w' => w'.cell? ⟨gb376, 0, none⟩ = some (.string a3_0) ∧ w'.cell? ⟨gb376, 1, none⟩ = some (.string a3_1) ∧ w'.cell? ⟨gb376, 2, none⟩ = some (.string a3_2)) (ds := []) #[false, false, false, false, false, false, false, false, false, false, false] (by kernel_rfl) rfl rfl ⟨(blk_cell BK376.out 0).trans rfl, (blk_cell BK376.out 1).trans rfl, (blk_cell BK376.out 2).trans rfl⟩ (fun hHeld => ?_); refine with_tabW agoralaw06_SealOpens.tab14 agoralaw06_SealOpens.bits14 (fun HT_ HW_ => ?_)
                generalize w45.drew = w46 at BK376 BK385 HB hHeld ⊢
                refine pure_ (i := 0) (N := some 100) (v := ?_) (a' := ?_) #[true, false, false, false, false, false, false, false, false, false, false] rfl rfl (any_of HT_.out (by kernel_rfl)) (fun _ _ _ h => h) (Or.inl ⟨by rfl, ?_⟩) ?_ ?_
                rotate_left
                · intro w'
                  go_simp
                  with_reducible rfl
                rotate_left
                · simp only [Act.put, List.setIfInBounds_toArray, List.set_cons_zero, List.set_cons_succ, i64_w, i32_w]
                  rfl
                refine pure_ (i := 1) (N := some 101) (v := ?_) (a' := ?_) #[true, true, false, false, false, false, false, false, false, false, false] rfl rfl (any_of HT_.out (by kernel_rfl)) (fun _ _ _ h => h) (Or.inl ⟨by rfl, ?_⟩) ?_ ?_
                rotate_left
                · intro w'
                  go_simp
                  with_reducible rfl
                rotate_left
                · simp only [Act.put, List.setIfInBounds_toArray, List.set_cons_zero, List.set_cons_succ, i64_w, i32_w]
                  rfl
                refine pure_ (i := 2) (N := some 102) (v := ?_) (a' := ?_) #[true, true, true, false, false, false, false, false, false, false, false] rfl rfl (any_of HT_.out (by kernel_rfl)) (fun _ _ _ h => h) (Or.inl ⟨by rfl, ?_⟩) ?_ ?_
                rotate_left
                · intro w'
                  go_simp
                  with_reducible rfl
                rotate_left
                · simp only [Act.put, List.setIfInBounds_toArray, List.set_cons_zero, List.set_cons_succ, i64_w, i32_w]
                  rfl
                refine pure_ (i := 3) (N := some 103) (v := ?_) (a' := ?_) #[true, true, true, true, false, false, false, false, false, false, false] rfl rfl (any_of HT_.out (by kernel_rfl)) (fun _ _ _ h => h) (Or.inl ⟨by rfl, ?_⟩) ?_ ?_
                rotate_left
                · intro w'
                  go_simp
                  with_reducible rfl
                rotate_left
                · simp only [Act.put, List.setIfInBounds_toArray, List.set_cons_zero, List.set_cons_succ, i64_w, i32_w]
                  rfl
                refine pure_ (i := 5) (N := some 105) (v := ?_) (a' := ?_) #[true, true, true, true, false, true, false, false, false, false, false] rfl rfl (any_of HT_.out (by kernel_rfl)) (fun _ _ _ h => h) (Or.inl ⟨by rfl, ?_⟩) ?_ ?_
                rotate_left
                · intro w'
                  go_simp
                  with_reducible rfl
                rotate_left
                · simp only [Act.put, List.setIfInBounds_toArray, List.set_cons_zero, List.set_cons_succ, i64_w, i32_w]
                  rfl
                refine take_ (i := 4) (N := some 104) (v := ?_) (a' := ?_) #[true, true, true, true, true, true, false, false, false, false, false] rfl rfl (take_ofW HT_.out HW_.out (by kernel_rfl)) (fun _ _ _ h => h) (Or.inl ⟨by rfl, ?_⟩) hHeld ?_ ?_
                rotate_left
                · rintro w' ⟨s0, s1, s2⟩
                  go_simp
                  with_reducible rfl
                rotate_left
                · simp only [Act.put, List.setIfInBounds_toArray, List.set_cons_zero, List.set_cons_succ, i64_w, i32_w]
                  rfl
                refine take_ (i := 7) (N := some 107) (v := ?_) (a' := ?_) #[true, true, true, true, true, true, false, true, false, false, false] rfl rfl (take_ofW HT_.out HW_.out (by kernel_rfl)) (fun _ _ _ h => h) (Or.inl ⟨by rfl, ?_⟩) hHeld ?_ ?_
                rotate_left
                · rintro w' ⟨s0, s1, s2⟩
                  go_simp
                  with_reducible rfl
                rotate_left
                · simp only [Act.put, List.setIfInBounds_toArray, List.set_cons_zero, List.set_cons_succ, i64_w, i32_w]
                  rfl
                refine one_ (i := 6) (N := some 106) #[true, true, true, true, true, true, true, true, false, false, false] rfl rfl (one_of HT_.out (by kernel_rfl)) (by decide) (fun K hK => ?_)
                refine goes_ Try.func16 (by kernel_rfl) rfl #[.string a0, .string a3_0, .string t390] (by rfl) rfl rfl (by (try simp only [List.map_toArray, List.map_cons, List.map_nil]); first | done | rfl | (simp only [List.length_drop, List.length_take]; rfl)) ?_
                with_reducible refine (seal_Seal.calls a0 a3_0 t390 t392 t393 t394 _ A38.out).mono ?_
                rintro e w47 ⟨rfl, hb⟩
                refine ⟨_, rfl, ?_⟩
                have n0_ := Aside0.mk (blk_below (g := gb376) (o := .cells #[.string a3_0, .string a3_1, .string a3_2] 23 (0, 0)) (by (with_reducible repeat (first | refine blk_drewN ?_ _ | refine blk_drew ?_ | refine blk_alloc ?_ _)); exact BK376.out) hb)
                have n1_ := Aside0.mk (blk_below (g := gb385) (o := .cells #[.string t382, .string t383, .string t384] 23 (0, 0)) (by (with_reducible repeat (first | refine blk_drewN ?_ _ | refine blk_drew ?_ | refine blk_alloc ?_ _)); exact BK385.out) hb)
                have n2_ := Aside0.mk (below_step (by repeat (first | (with_reducible first | exact HB.out | apply below_alloc | apply pw_below_drewN | apply below_drew1 | refine below_set ?_ GE376.out | refine below_set ?_ GE385.out) | exact HB.out)) hb)
                clear BK376
                clear BK385
                clear HB
                have BK376 := n0_
                have BK385 := n1_
                have HB := n2_
                clear n0_ n1_ n2_
                (try clear hb)
                (try clear hb2)
                (try clear hk)
                (try clear hi)
                refine hK.out _ _ ⟨(blk_cell BK376.out 0).trans rfl, (blk_cell BK376.out 1).trans rfl, (blk_cell BK376.out 2).trans rfl⟩ (fun hHeld => ?_)
                clear hK K
                refine norm_ (a' := ?_) ?_ ?_
                rotate_left
                · show Act.put _ (some 106) _ = _
                  simp only [Act.put, List.setIfInBounds_toArray, List.set_cons_zero, List.set_cons_succ, i64_w, i32_w]
                  rfl
                refine pure_ (i := 8) (N := some 108) (v := ?_) (a' := ?_) #[true, true, true, true, true, true, true, true, true, false, false] rfl rfl (any_of HT_.out (by kernel_rfl)) (fun _ _ _ h => h) (Or.inl ⟨by rfl, ?_⟩) ?_ ?_
                rotate_left
                · intro w'
                  go_simp
                  with_reducible rfl
                rotate_left
                · simp only [Act.put, List.setIfInBounds_toArray, List.set_cons_zero, List.set_cons_succ, i64_w, i32_w]
                  rfl
                refine pure_ (i := 9) (N := some 109) (v := ?_) (a' := ?_) #[true, true, true, true, true, true, true, true, true, true, false] rfl rfl (any_of HT_.out (by kernel_rfl)) (fun _ _ _ h => h) (Or.inl ⟨by rfl, ?_⟩) ?_ ?_
                rotate_left
                · intro w'
                  go_simp
                  with_reducible rfl
                rotate_left
                · simp only [Act.put, List.setIfInBounds_toArray, List.set_cons_zero, List.set_cons_succ, i64_w, i32_w]
                  rfl
                refine pure_ (i := 10) (N := some 8) (v := ?_) (a' := ?_) #[true, true, true, true, true, true, true, true, true, true, true] rfl rfl (any_of HT_.out (by kernel_rfl)) (fun _ _ _ h => h) (Or.inl ⟨by rfl, ?_⟩) ?_ ?_
                rotate_left
                · intro w'
                  go_simp
                  with_reducible rfl
                rotate_left
                · simp only [Act.put, List.setIfInBounds_toArray, List.set_cons_zero, List.set_cons_succ, i64_w, i32_w]
                  rfl
                refine done_ (done_of HT_.out (by kernel_rfl)) ?_
                try go_wp2
                go_ret
                exact ⟨by first | rfl | (simp [errW_none, errW_some] <;> rfl) | (simp [*, errW_none, errW_some] <;> rfl), by repeat (first | (with_reducible first | exact HB.out | apply below_alloc | apply pw_below_drewN | apply below_drew1 | refine below_set ?_ GE376.out | refine below_set ?_ GE385.out) | exact HB.out)⟩
              · replace c37 := Bool.eq_false_iff.mpr c37
                subst c37
                have H1 : (none) = some r := by rw [if_neg (show ¬ (false = true) by decide)] at H; exact H
                clear H
                have H := H1
                clear H1
                exact absurd H (by simp)
            · replace c36 := Bool.eq_false_iff.mpr c36
              subst c36
              have H1 : (if t377 = true then (some (t390.toList == ([] : List UInt8))) else (none)) = some r := by rw [if_neg (show ¬ (false = true) by decide)] at H; exact H
              clear H
              have H := H1
              clear H1
              by_cases c48 : t377 = true
              · subst c48
                have H1 : (some (t390.toList == ([] : List UInt8))) = some r := by rw [if_pos rfl] at H; exact H
                clear H
                have H := H1
                clear H1
                obtain rfl := Option.some.inj H
                have hnb49 := NB385_376.out
                have hnc49 := NB376_385.out
                have hcz50_0 : wc.cell? ⟨gb385, 0, none⟩ = some (.string t382) := (blk_cell BK385.out 0).trans rfl
                have hcz50_1 : wc.cell? ⟨gb385, 1, none⟩ = some (.string t383) := (blk_cell BK385.out 1).trans rfl
                have hcz50_2 : wc.cell? ⟨gb385, 2, none⟩ = some (.string t384) := (blk_cell BK385.out 2).trans rfl
                have hfz50_0 := blk_frozen BK385.out 0
                have hfz50_1 := blk_frozen BK385.out 1
                have hfz50_2 := blk_frozen BK385.out 2
                have hcz51_0 : wc.cell? ⟨gb376, 0, none⟩ = some (.string a3_0) := (blk_cell BK376.out 0).trans rfl
                have hcz51_1 : wc.cell? ⟨gb376, 1, none⟩ = some (.string a3_1) := (blk_cell BK376.out 1).trans rfl
                have hcz51_2 : wc.cell? ⟨gb376, 2, none⟩ = some (.string a3_2) := (blk_cell BK376.out 2).trans rfl
                have hfz51_0 := blk_frozen BK376.out 0
                have hfz51_1 := blk_frozen BK376.out 1
                have hfz51_2 := blk_frozen BK376.out 2
                go_wp2_with (first | ((with_reducible refine gate_callee (f := 10) rfl ?_); refine goesL_ (some 77) rfl rfl Try.func10 (by kernel_rfl) rfl #[.string a0, .agg #[.string t382, .string t383, .string a3_2]] rfl (by (try simp only [List.map_toArray, List.map_cons, List.map_nil]); first | done | rfl | (simp only [List.length_drop, List.length_take]; rfl)) ?_; (with_reducible refine (seal_Open.calls a0 t382 t383 a3_2 t388 t389 _ A33.out).mono ?_); rintro e w52 ⟨rfl, hb⟩; refine ⟨_, rfl, ?_⟩; have n0_ := Aside0.mk (blk_below (g := gb376) (o := .cells #[.string a3_0, .string a3_1, .string a3_2] 23 (0, 0)) (by (with_reducible repeat (first | refine blk_drewN ?_ _ | refine blk_drew ?_ | refine blk_alloc ?_ _)); exact BK376.out) hb); have n1_ := Aside0.mk (blk_below (g := gb385) (o := .cells #[.string t382, .string t383, .string t384] 23 (0, 0)) (by (with_reducible repeat (first | refine blk_drewN ?_ _ | refine blk_drew ?_ | refine blk_alloc ?_ _)); exact BK385.out) hb); have n2_ := Aside0.mk (below_step (by repeat (first | (with_reducible first | exact HB.out | apply below_alloc | apply pw_below_drewN | apply below_drew1 | refine below_set ?_ GE376.out | refine below_set ?_ GE385.out) | exact HB.out)) hb); clear BK376; clear BK385; clear HB; have BK376 := n0_; have BK385 := n1_; have HB := n2_; clear n0_ n1_ n2_; (try clear hb); (try clear hb2); (try clear hk); (try clear hi); have hcz53_0 : w52.cell? ⟨gb376, 0, none⟩ = some (.string a3_0) := (blk_cell BK376.out 0).trans rfl; have hcz53_1 : w52.cell? ⟨gb376, 1, none⟩ = some (.string a3_1) := (blk_cell BK376.out 1).trans rfl; have hcz53_2 : w52.cell? ⟨gb376, 2, none⟩ = some (.string a3_2) := (blk_cell BK376.out 2).trans rfl; have hfz53_0 := blk_frozen BK376.out 0; have hfz53_1 := blk_frozen BK376.out 1; have hfz53_2 := blk_frozen BK376.out 2; have hcz54_0 : w52.cell? ⟨gb385, 0, none⟩ = some (.string t382) := (blk_cell BK385.out 0).trans rfl; have hcz54_1 : w52.cell? ⟨gb385, 1, none⟩ = some (.string t383) := (blk_cell BK385.out 1).trans rfl; have hcz54_2 : w52.cell? ⟨gb385, 2, none⟩ = some (.string t384) := (blk_cell BK385.out 2).trans rfl; have hfz54_0 := blk_frozen BK385.out 0; have hfz54_1 := blk_frozen BK385.out 1; have hfz54_2 := blk_frozen BK385.out 2) | ((with_reducible refine gate_callee (f := 10) rfl ?_); refine goesL_ (some 90) rfl rfl Try.func10 (by kernel_rfl) rfl #[.string a0, .agg #[.string a3_0, .string a3_1, .string a3_2]] rfl (by (try simp only [List.map_toArray, List.map_cons, List.map_nil]); first | done | rfl | (simp only [List.length_drop, List.length_take]; rfl)) ?_; (with_reducible refine (seal_Open.calls a0 a3_0 a3_1 a3_2 t390 false _ A35.out).mono ?_); rintro e w55 ⟨rfl, hb⟩; refine ⟨_, rfl, ?_⟩; have n0_ := Aside0.mk (blk_below (g := gb376) (o := .cells #[.string a3_0, .string a3_1, .string a3_2] 23 (0, 0)) (by (with_reducible repeat (first | refine blk_drewN ?_ _ | refine blk_drew ?_ | refine blk_alloc ?_ _)); exact BK376.out) hb); have n1_ := Aside0.mk (blk_below (g := gb385) (o := .cells #[.string t382, .string t383, .string t384] 23 (0, 0)) (by (with_reducible repeat (first | refine blk_drewN ?_ _ | refine blk_drew ?_ | refine blk_alloc ?_ _)); exact BK385.out) hb); have n2_ := Aside0.mk (below_step (by repeat (first | (with_reducible first | exact HB.out | apply below_alloc | apply pw_below_drewN | apply below_drew1 | refine below_set ?_ GE376.out | refine below_set ?_ GE385.out) | exact HB.out)) hb); clear BK376; clear BK385; clear HB; have BK376 := n0_; have BK385 := n1_; have HB := n2_; clear n0_ n1_ n2_; (try clear hb); (try clear hb2); (try clear hk); (try clear hi)))
                go_ret
                exact ⟨by first | rfl | (simp [errW_none, errW_some] <;> rfl) | (simp [*, errW_none, errW_some] <;> rfl), by repeat (first | (with_reducible first | exact HB.out | apply below_alloc | apply pw_below_drewN | apply below_drew1 | refine below_set ?_ GE376.out | refine below_set ?_ GE385.out) | exact HB.out)⟩
              · replace c48 := Bool.eq_false_iff.mpr c48
                subst c48
                have H1 : (none) = some r := by rw [if_neg (show ¬ (false = true) by decide)] at H; exact H
                clear H
                have H := H1
                clear H1
                exact absurd H (by simp)
  · replace c7 := Bool.eq_false_iff.mpr c7
    subst c7
    have H1 : (some t377) = some r := by rw [if_neg (show ¬ (false = true) by decide)] at H; exact H
    clear H
    have H := H1
    clear H1
    obtain rfl := Option.some.inj H
    go_enter Try.func4, Try.ntmps4
    go_wp2_with (first | ((with_reducible refine gate_dst (N := 7) rfl ?_); (try (refine gate_guard (by rfl) ?_; dsimp only)); refine box_event ?hg (N := 7) ?hd (cs := #[.string a3_0, .string a3_1, .string a3_2]) (t := 23) ?hr ?_; (case hd => rfl); (case hg => rfl); (case hr => first | (go_simp; done) | (go_simp; rfl) | (go_simp; simp only [IntKind.wrap_u32', Int.emod_add_emod, Int.add_emod_emod])); intro gb376 hg w56 hbox hb; have n0_ := Aside0.mk (below_step (by repeat (first | (with_reducible first | exact HB.out | apply below_alloc | apply pw_below_drewN | apply below_drew1) | exact HB.out)) hb); have n1_ := Aside0.mk (hbox); have n2_ := Aside0.mk ((by rw [hg]; exact (below_size (by repeat (first | (with_reducible first | exact HB.out | apply below_alloc | apply pw_below_drewN | apply below_drew1) | exact HB.out))) : w.heap.size ≤ gb376)); have n3_ := Aside0.mk ((by rw [hg]; exact (below_size (by repeat (first | (with_reducible first | exact HB.out | apply below_alloc | apply pw_below_drewN | apply below_drew1) | exact HB.out))) : w.heap.size ≤ gb376)); clear HB; have HB := n0_; have BK376 := n1_; have GW376 := n2_; have GE376 := n3_; clear n0_ n1_ n2_ n3_; clear hb hbox hg) | ((with_reducible refine gate_callee (f := 8) rfl ?_); refine goesL_ (some 17) rfl rfl Try.func8 (by kernel_rfl) rfl #[] rfl (by (try simp only [List.map_toArray, List.map_cons, List.map_nil]); first | done | rfl | (simp only [List.length_drop, List.length_take]; rfl)) ?_; (with_reducible refine (agoralaw06_small.calls k  t377 _ A5.out).mono ?_); rintro e w57 ⟨rfl, hb⟩; refine ⟨_, rfl, ?_⟩; have n0_ := Aside0.mk (blk_below (g := gb376) (o := .cells #[.string a3_0, .string a3_1, .string a3_2] 23 (0, 0)) (by (with_reducible repeat (first | refine blk_drewN ?_ _ | refine blk_drew ?_ | refine blk_alloc ?_ _)); exact BK376.out) hb); have n1_ := Aside0.mk (below_step (by repeat (first | (with_reducible first | exact HB.out | apply below_alloc | apply pw_below_drewN | apply below_drew1 | refine below_set ?_ GE376.out) | exact HB.out)) hb); clear BK376; clear HB; have BK376 := n0_; have HB := n1_; clear n0_ n1_; (try clear hb); (try clear hb2); (try clear hk); (try clear hi); have hcz58_0 : w57.cell? ⟨gb376, 0, none⟩ = some (.string a3_0) := (blk_cell BK376.out 0).trans rfl; have hcz58_1 : w57.cell? ⟨gb376, 1, none⟩ = some (.string a3_1) := (blk_cell BK376.out 1).trans rfl; have hcz58_2 : w57.cell? ⟨gb376, 2, none⟩ = some (.string a3_2) := (blk_cell BK376.out 2).trans rfl; have hfz58_0 := blk_frozen BK376.out 0; have hfz58_1 := blk_frozen BK376.out 1; have hfz58_2 := blk_frozen BK376.out 2) | ((with_reducible refine gate_dst (N := 27) rfl ?_); (try (refine gate_guard (by rfl) ?_; dsimp only)); refine Kd.R_lit Kd.string _ 9 ?hg (N := 27) ?hd (xs := ([a0, a1, a2, a3_0, a3_1, a3_2] : List ByteArray)) (inner := [.string a0, .string a1, .string a2, .string a3_0, .string a3_1, .string a3_2]) (ok := fun _ => True) (okp := fun _ => True) ?hr ?hp (fun _ hk => hk) trivial (Below.refl _ _) (Nat.le_refl _) (by simp) ?_; (case hd => rfl); (case hg => rfl); (case hr => first | (go_simp; done) | (go_simp; rfl) | (go_simp; simp only [IntKind.wrap_u32', Int.emod_add_emod, Int.add_emod_emod])); (case hp => exact (Reps.one (show Kd.M Kd.string _ _ _ a0 [.string a0] from rfl) (Reps.one (show Kd.M Kd.string _ _ _ a1 [.string a1] from rfl) (Reps.one (show Kd.M Kd.string _ _ _ a2 [.string a2] from rfl) (Reps.one (show Kd.M Kd.string _ _ _ a3_0 [.string a3_0] from rfl) (Reps.one (show Kd.M Kd.string _ _ _ a3_1 [.string a3_1] from rfl) (Reps.one (show Kd.M Kd.string _ _ _ a3_2 [.string a3_2] from rfl) (Reps.none _ _)))))))); intro v379 w59 ho60 hb hg_ hnew_; clear hg_ hnew_; (first | rw [← Ny378.out] at ho60 | (simp only [Int.reduceToNat] at ho60; rw [← Ny378.out] at ho60)); have n0_ := Aside0.mk (Kd.R_lower ho60 (below_size (by repeat (first | (with_reducible first | exact HB.out | apply below_alloc | apply pw_below_drewN | apply below_drew1 | refine below_set ?_ GE376.out) | exact HB.out)))); have n1_ := Aside0.mk (blk_below (g := gb376) (o := .cells #[.string a3_0, .string a3_1, .string a3_2] 23 (0, 0)) (by (with_reducible repeat (first | refine blk_drewN ?_ _ | refine blk_drew ?_ | refine blk_alloc ?_ _)); exact BK376.out) hb); have n2_ := Aside0.mk (below_step (by repeat (first | (with_reducible first | exact HB.out | apply below_alloc | apply pw_below_drewN | apply below_drew1 | refine below_set ?_ GE376.out) | exact HB.out)) hb); clear BK376; clear HB; have HO380 := n0_; have BK376 := n1_; have HB := n2_; clear n0_ n1_ n2_; clear hb ho60; obtain ⟨Ao61, co61, eo61⟩ := Kd.R_slice HO380.out; subst eo61) | ((with_reducible refine gate_callee (f := 9) rfl ?_); refine goesL_ (some 28) rfl rfl Try.func9 (by kernel_rfl) rfl #[.slice Ao61 y378.length co61] rfl (by (try simp only [List.map_toArray, List.map_cons, List.map_nil]); first | done | rfl | (simp only [List.length_drop, List.length_take]; rfl)) ?_; (with_reducible refine (agoralaw06_few.calls k _ _ y378 false _ ?side1 ?side2 A6.out).mono ?_); (case side1 => repeat (first | exact (Kd.R_reads' HO380.out).2.2 | (with_reducible refine Kd.C_alloc ?_ _) | (with_reducible refine Kd.C_drewN ?_ _) | (with_reducible refine Kd.C_drew ?_))); (case side2 => exact (Kd.R_reads' HO380.out).2.1); rintro e w' ⟨rfl, ⟨nd, rfl⟩⟩; refine ⟨_, rfl, ?_⟩))
    go_ret
    exact ⟨by first | rfl | (simp [errW_none, errW_some] <;> rfl) | (simp [*, errW_none, errW_some] <;> rfl), by repeat (first | (with_reducible first | exact HB.out | apply below_alloc | apply pw_below_drewN | apply below_drew1 | refine below_set ?_ GE376.out) | exact HB.out)⟩
end Go.Proofs.Ytdmeclmniooedaa.P
end P19_SealOpens_
