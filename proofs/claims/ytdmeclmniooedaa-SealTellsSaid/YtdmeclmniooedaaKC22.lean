/- Texts of this claim, merged: what the functions that the law reaches compute, and what that says. -/
import Derived.Test.YtdmeclmniooedaaKC5
import Derived.Test.YtdmeclmniooedaaKC12
import Derived.Test.YtdmeclmniooedaaKC16
import Derived.Test.YtdmeclmniooedaaKC21
section P13_
namespace Go.Proofs.Ytdmeclmniooedaa.P
open Go.RowKit Go.Proofs.YtdmeclmniooedaaW.PrintWords Go.Proofs.YtdmeclmniooedaaW.PrintLast Go.Proofs.YtdmeclmniooedaaW.PrintMore
attribute [local go_sem] max2_int min2_int max_two min_two max_three min_three max_four min_four   -- for this text's walks alone
set_option linter.unusedVariables false
set_option linter.unusedSimpArgs false
mutual
def agoraref03_next.l0 : Nat → List Int → List Int → List Int → List Int → Int → Option (List Int)
  | 0, _, _, _, _, _ => none
  | k + 1, x0, x5, x6, x7, x8 => if x8 < 64 then (if 4 < (x7.length : Int) then ((agoraref03_turn.f (rd x7 4) 6).bind fun t230 => ((agoraref03_turn.f (rd x7 4) 11).bind fun t232 => ((agoraref03_turn.f (rd x7 4) 25).bind fun t234 => (if 7 < (x7.length : Int) then (if 5 < (x7.length : Int) then (if 6 < (x7.length : Int) then (if 0 ≤ x8 then (if x8 < (x6.length : Int) then (if x8 < (x5.length : Int) then (if 0 < (x7.length : Int) then ((agoraref03_turn.f (rd x7 0) 2).bind fun t243 => ((agoraref03_turn.f (rd x7 0) 13).bind fun t245 => ((agoraref03_turn.f (rd x7 0) 22).bind fun t247 => (if 1 < (x7.length : Int) then (if 2 < (x7.length : Int) then (if 3 < (x7.length : Int) then (agoraref03_next.l0 k x0 x5 x6 (([((((((((((rd x7 7) + (Go.bits .xor .u32 (Go.bits .xor .u32 t230 t232) t234)) % 4294967296) + (Go.bits .xor .u32 (Go.bits .and .u32 (rd x7 4) (rd x7 5)) (Go.bits .and .u32 (Go.bits .xor .u32 IntKind.u32.max (rd x7 4)) (rd x7 6)))) % 4294967296) + (rd x6 x8)) % 4294967296) + (rd x5 x8)) % 4294967296) + (((Go.bits .xor .u32 (Go.bits .xor .u32 t243 t245) t247) + (Go.bits .xor .u32 (Go.bits .xor .u32 (Go.bits .and .u32 (rd x7 0) (rd x7 1)) (Go.bits .and .u32 (rd x7 0) (rd x7 2))) (Go.bits .and .u32 (rd x7 1) (rd x7 2)))) % 4294967296)) % 4294967296, rd x7 0, rd x7 1, rd x7 2, ((rd x7 3) + (((((((((rd x7 7) + (Go.bits .xor .u32 (Go.bits .xor .u32 t230 t232) t234)) % 4294967296) + (Go.bits .xor .u32 (Go.bits .and .u32 (rd x7 4) (rd x7 5)) (Go.bits .and .u32 (Go.bits .xor .u32 IntKind.u32.max (rd x7 4)) (rd x7 6)))) % 4294967296) + (rd x6 x8)) % 4294967296) + (rd x5 x8)) % 4294967296)) % 4294967296, rd x7 4, rd x7 5, rd x7 6] : List Int)) (wrap64 (x8 + 1))) else (none)) else (none)) else (none))))) else (none)) else (none)) else (none)) else (none)) else (none)) else (none)) else (none))))) else (none)) else (agoraref03_next.l1 k x0 x7 0)
def agoraref03_next.l1 : Nat → List Int → List Int → Int → Option (List Int)
  | 0, _, _, _ => none
  | k + 1, x0, x7, x13 => if x13 < 8 then (if 0 ≤ x13 then (if x13 < (x7.length : Int) then (if x13 < (x0.length : Int) then (agoraref03_next.l1 k x0 (x7.set (x13 : Int).toNat (((rd x7 x13) + (rd x0 x13)) % 4294967296)) (wrap64 (x13 + 1))) else (none)) else (none)) else (none)) else (some x7)
end
def agoraref03_next.f (k : Nat) (l0 : List Int) (l1 : List Int) : Option (List Int) := (agoraref03_words.f k l1).bind fun t217 => ((agoraref03_adds.f).bind fun t220 => ((some (([] : List Int) : List Int)).bind fun y223 => (if y223.length + l0.length < 35184372088832 then (agoraref03_next.l0 k l0 t217 t220 (y223 ++ l0) 0) else (none))))
def agoraref03_next.T7 : Bool × List (List Nat × List Nat) := (true, [([], []), ([0], [0]), ([1], [1]), ([2], [2]), ([], []), ([4], [4]), ([5], [5]), ([6, 3], [6]), ([3, 7], [3, 7]), ([], []), ([9], [9]), ([10], [10]), ([11, 7], [11]), ([8, 12], [8, 12]), ([13, 12, 0, 1, 2, 3, 4, 5, 6, 7, 8, 9, 10, 11, 12, 13], [13])])
def agoraref03_next.B7 : List Nat := [0, 1, 3, 7, 0, 16, 48, 127, 255, 0, 512, 1536, 3839, 8191, 16383]
theorem agoraref03_next.tab7 : rtab .any (opsOf Try.f58 7) = agoraref03_next.T7 := by kernel_rfl
theorem agoraref03_next.bits7 : waitsOk agoraref03_next.T7.2 agoraref03_next.B7 = true := by kernel_rfl
def agoraref03_next.T8 : Bool × List (List Nat × List Nat) := (true, [([], []), ([0], [0]), ([1], [1]), ([], []), ([2, 3], [2, 3]), ([], []), ([5], [5]), ([6], [6]), ([], []), ([8], [8]), ([9], [9]), ([7, 10], [7, 10]), ([], []), ([12], [12]), ([13], [13]), ([14], [14]), ([], []), ([16], [16]), ([17], [17]), ([15, 18], [15, 18]), ([11, 19], [11, 19]), ([4, 20], [4, 20]), ([], []), ([], []), ([22, 23], [22, 23]), ([24], [24]), ([21, 25], [21, 25]), ([], []), ([], []), ([27, 28], [27, 28]), ([29], [29]), ([26, 30], [26, 30]), ([31, 0, 1, 2, 3, 4, 5, 6, 7, 8, 9, 10, 11, 12, 13, 14, 15, 16, 17, 18, 19, 20, 21, 22, 23, 24, 25, 26, 27, 28, 29, 30, 31], [31])])
def agoraref03_next.B8 : List Nat := [0, 1, 3, 0, 15, 0, 32, 96, 0, 256, 768, 2016, 0, 4096, 12288, 28672, 0, 65536, 196608, 520192, 1048544, 2097151, 0, 0, 12582912, 29360128, 67108863, 0, 0, 402653184, 939524096, 2147483647, 4294967295]
theorem agoraref03_next.tab8 : rtab .any (opsOf Try.f58 8) = agoraref03_next.T8 := by kernel_rfl
theorem agoraref03_next.bits8 : waitsOk agoraref03_next.T8.2 agoraref03_next.B8 = true := by kernel_rfl
def agoraref03_next.T9 : Bool × List (List Nat × List Nat) := (true, [([], []), ([0], [0]), ([1], [1]), ([2], [2]), ([], []), ([4], [4]), ([5], [5]), ([6, 3], [6]), ([3, 7], [3, 7]), ([], []), ([9], [9]), ([10], [10]), ([11, 7], [11]), ([8, 12], [8, 12]), ([13, 12, 0, 1, 2, 3, 4, 5, 6, 7, 8, 9, 10, 11, 12, 13], [13])])
def agoraref03_next.B9 : List Nat := [0, 1, 3, 7, 0, 16, 48, 127, 255, 0, 512, 1536, 3839, 8191, 16383]
theorem agoraref03_next.tab9 : rtab .any (opsOf Try.f58 9) = agoraref03_next.T9 := by kernel_rfl
theorem agoraref03_next.bits9 : waitsOk agoraref03_next.T9.2 agoraref03_next.B9 = true := by kernel_rfl
def agoraref03_next.T10 : Bool × List (List Nat × List Nat) := (true, [([], []), ([], []), ([1], [1]), ([2], [2]), ([], []), ([4], [4]), ([5], [5]), ([3, 6], [3, 6]), ([], []), ([8], [8]), ([9], [9]), ([], []), ([11], [11]), ([12], [12]), ([10, 13], [10, 13]), ([7, 14], [7, 14]), ([], []), ([16], [16]), ([17], [17]), ([], []), ([19], [19]), ([20], [20]), ([18, 21], [18, 21]), ([15, 22], [15, 22]), ([0, 23], [0, 23]), ([24, 0, 1, 2, 3, 4, 5, 6, 7, 8, 9, 10, 11, 12, 13, 14, 15, 16, 17, 18, 19, 20, 21, 22, 23, 24], [24])])
def agoraref03_next.B10 : List Nat := [0, 0, 2, 6, 0, 16, 48, 126, 0, 256, 768, 0, 2048, 6144, 16128, 32766, 0, 65536, 196608, 0, 524288, 1572864, 4128768, 8388606, 16777215, 33554431]
theorem agoraref03_next.tab10 : rtab .any (opsOf Try.f58 10) = agoraref03_next.T10 := by kernel_rfl
theorem agoraref03_next.bits10 : waitsOk agoraref03_next.T10.2 agoraref03_next.B10 = true := by kernel_rfl
def agoraref03_next.T11 : Bool × List (List Nat × List Nat) := (true, [([], []), ([], []), ([0, 1], [0, 1]), ([], []), ([3], [3]), ([4], [4]), ([], []), ([6], [6]), ([7], [7]), ([], []), ([9], [9]), ([10], [10]), ([], []), ([12], [12]), ([13], [13]), ([], []), ([14, 15], [14, 15]), ([], []), ([17], [17]), ([18], [18]), ([], []), ([20], [20]), ([21], [21]), ([], []), ([23], [23]), ([24], [24]), ([2, 5, 8, 11, 16, 19, 22, 25], [2, 5, 8, 11, 16, 19, 22, 25]), ([26, 0, 1, 2, 3, 4, 5, 6, 7, 8, 9, 10, 11, 12, 13, 14, 15, 16, 17, 18, 19, 20, 21, 22, 23, 24, 25, 26], [3, 6, 9, 12, 17, 20, 23, 26])])
def agoraref03_next.B11 : List Nat := [0, 0, 3, 0, 8, 24, 0, 64, 192, 0, 512, 1536, 0, 4096, 12288, 0, 61440, 0, 131072, 393216, 0, 1048576, 3145728, 0, 8388608, 25165824, 67108863, 134217727]
theorem agoraref03_next.tab11 : rtab .any (opsOf Try.f58 11) = agoraref03_next.T11 := by kernel_rfl
theorem agoraref03_next.bits11 : waitsOk agoraref03_next.T11.2 agoraref03_next.B11 = true := by kernel_rfl
def agoraref03_next.T15 : Bool × List (List Nat × List Nat) := (true, [([], []), ([], []), ([], []), ([], []), ([2, 3], [2, 3]), ([4], [4]), ([], []), ([], []), ([6, 7], [6, 7]), ([8], [8]), ([5, 9], [5, 9]), ([0, 1, 0, 1, 2, 3, 4, 5, 6, 7, 8, 9, 10], [0, 1]), ([11, 10, 0, 1, 2, 3, 4, 5, 6, 7, 8, 9, 10], [10, 11])])
def agoraref03_next.B15 : List Nat := [0, 0, 0, 0, 12, 28, 0, 0, 192, 448, 1020, 2047, 4095]
theorem agoraref03_next.tab15 : rtab .any (opsOf Try.f58 15) = agoraref03_next.T15 := by kernel_rfl
theorem agoraref03_next.bits15 : waitsOk agoraref03_next.T15.2 agoraref03_next.B15 = true := by kernel_rfl
set_option maxHeartbeats 8000000 in
set_option maxRecDepth 100000 in
theorem agoraref03_next.calls (k : Nat) (A0 : Option Addr) (c0 : Nat) (l0 : List Int) (A1 : Option Addr) (c1 : Nat) (l1 : List Int) (r : List Int) (w : World) (hr0 : Kd.C (Kd.int .u32) w A0 l0.length l0) (hc0 : l0.length ≤ c0) (hr1 : Kd.C (Kd.int .u8) w A1 l1.length l1) (hc1 : l1.length ≤ c1) (h : agoraref03_next.f k l0 l1 = some r) :
    Calls Try.prog 58 #[.slice A0 l0.length c0, .slice A1 l1.length c1] w fun e w' => ∃ v0_ : Value, e = .returned (v0_) ∧ Kd.R (Kd.int .u32) 54 w' w.heap.size (fun _ => True) v0_ r ∧ Below w.heap.size w w' := by
  have HR0 := Aside0.mk hr0
  have HC0 := Aside0.mk hc0
  clear hr0 hc0
  have HR1 := Aside0.mk hr1
  have HC1 := Aside0.mk hc1
  clear hr1 hc1
  have HB := Aside0.mk (Below.refl w.heap.size w)
  have H : ((agoraref03_words.f k l1).bind fun t217 => ((agoraref03_adds.f).bind fun t220 => ((some (([] : List Int) : List Int)).bind fun y223 => (if y223.length + l0.length < 35184372088832 then (agoraref03_next.l0 k l0 t217 t220 (y223 ++ l0) 0) else (none))))) = some r := h
  clear h
  replace H := Option.bind_eq_some_iff.mp H
  obtain ⟨t217, A30, H⟩ := H
  replace H : ((agoraref03_adds.f).bind fun t220 => ((some (([] : List Int) : List Int)).bind fun y223 => (if y223.length + l0.length < 35184372088832 then (agoraref03_next.l0 k l0 t217 t220 (y223 ++ l0) 0) else (none)))) = some r := H
  have A3 := Aside0.mk A30
  clear A30
  replace H := Option.bind_eq_some_iff.mp H
  obtain ⟨t220, A40, H⟩ := H
  replace H : ((some (([] : List Int) : List Int)).bind fun y223 => (if y223.length + l0.length < 35184372088832 then (agoraref03_next.l0 k l0 t217 t220 (y223 ++ l0) 0) else (none))) = some r := H
  have A4 := Aside0.mk A40
  clear A40
  obtain ⟨y223, hy223⟩ : ∃ y_ : List Int, y_ = (([] : List Int)) := ⟨_, rfl⟩
  replace H : (if y223.length + l0.length < 35184372088832 then (agoraref03_next.l0 k l0 t217 t220 (y223 ++ l0) 0) else (none)) = some r := by first | (rw [hy223]; with_reducible exact H) | (have H2_ := (Option.bind_some _ _).symm.trans H; rw [hy223]; with_reducible exact H2_) | (have H2_ := (Option.bind_some _ _).symm.trans H; with_reducible exact H2_) | with_reducible exact H | (rw [hy223]; exact H) | exact H
  have Ny223 := Aside0.mk hy223
  clear hy223
  by_cases c5 : y223.length + l0.length < 35184372088832
  · rw [if_pos c5] at H
    have LMc5 := Aside0.mk c5
    clear c5
    obtain ⟨y226, hy226⟩ : ∃ y_ : List Int, y_ = (y223 ++ l0) := ⟨_, rfl⟩
    replace H : (agoraref03_next.l0 k l0 t217 t220 y226 0) = some r := by first | (rw [hy226]; with_reducible exact H) | (have H2_ := (Option.bind_some _ _).symm.trans H; rw [hy226]; with_reducible exact H2_) | (have H2_ := (Option.bind_some _ _).symm.trans H; with_reducible exact H2_) | with_reducible exact H | (rw [hy226]; exact H) | exact H
    have Ny226 := Aside0.mk hy226
    clear hy226
    have H' := Aside0.mk H
    clear H
    go_enter Try.func58, Try.ntmps58
    go_wp2_with (first | ((with_reducible refine gate_callee (f := 65) rfl ?_); refine goesL_ (some 15) rfl rfl Try.func65 (by kernel_rfl) rfl #[.slice A1 l1.length c1] rfl (by (try simp only [List.map_toArray, List.map_cons, List.map_nil]); first | done | rfl | (simp only [List.length_drop, List.length_take]; rfl)) ?_; (with_reducible refine (agoraref03_words.calls k _ _ l1 t217 _ ?side1 ?side2 A3.out).mono ?_); (case side1 => repeat (first | exact HR1.out | (with_reducible refine Kd.C_alloc ?_ _) | (with_reducible refine Kd.C_drewN ?_ _) | (with_reducible refine Kd.C_drew ?_))); (case side2 => exact HC1.out); rintro e w6 ⟨v218, rfl, ho0, hb⟩; refine ⟨_, rfl, ?_⟩; have n0_ := Aside0.mk (Kd.R_lower ho0 (below_size (by repeat (first | (with_reducible first | exact HB.out | apply below_alloc | apply pw_below_drewN | apply below_drew1) | exact HB.out)))); have n1_ := Aside0.mk (below_step (by repeat (first | (with_reducible first | exact HB.out | apply below_alloc | apply pw_below_drewN | apply below_drew1) | exact HB.out)) hb); clear HB; have HO219 := n0_; have HB := n1_; clear n0_ n1_; (try clear hb); (try clear hb2); (try clear hk); (try clear hi); (try clear ho0)) | ((with_reducible refine gate_callee (f := 66) rfl ?_); refine goesL_ (some 16) rfl rfl Try.func66 (by kernel_rfl) rfl #[] rfl (by (try simp only [List.map_toArray, List.map_cons, List.map_nil]); first | done | rfl | (simp only [List.length_drop, List.length_take]; rfl)) ?_; (with_reducible refine (agoraref03_adds.calls  t220 _ A4.out).mono ?_); rintro e w7 ⟨v221, rfl, ho0, hb⟩; refine ⟨_, rfl, ?_⟩; have n0_ := Aside0.mk (Kd.R_elder' (by (with_reducible repeat (first | apply Kd.R_alloc | apply Kd.R_drewN | apply Kd.R_drew)); exact HO219.out) (Kd.R_base ho0) hb); have n1_ := Aside0.mk (Kd.R_lower (Kd.R_new' ho0 (Kd.R_lt (by (with_reducible repeat (first | apply Kd.R_alloc | apply Kd.R_drewN | apply Kd.R_drew)); exact HO219.out))) (below_size (by repeat (first | (with_reducible first | exact HB.out | apply below_alloc | apply pw_below_drewN | apply below_drew1) | exact HB.out)))); have n2_ := Aside0.mk (below_step (by repeat (first | (with_reducible first | exact HB.out | apply below_alloc | apply pw_below_drewN | apply below_drew1) | exact HB.out)) hb); clear HO219; clear HB; have HO219 := n0_; have HO222 := n1_; have HB := n2_; clear n0_ n1_ n2_; (try clear hb); (try clear hb2); (try clear hk); (try clear hi); (try clear ho0)) | ((with_reducible refine gate_dst (N := 17) rfl ?_); refine Kd.R_lit (Kd.int .u32) _ 54 ?hg (N := 17) ?hd (xs := ([] : List Int)) (inner := []) (ok := fun _ => True) (okp := fun _ => True) ?hr ?hp (fun _ hk => hk) trivial (Below.refl _ _) (Nat.le_refl _) (by simp) ?_; (case hd => rfl); (case hg => rfl); (case hr => first | (go_simp; done) | (go_simp; rfl) | (go_simp; simp only [IntKind.wrap_u32', Int.emod_add_emod, Int.add_emod_emod])); (case hp => exact (Reps.none _ _)); intro v224 w8 ho9 hb hg_ hnew_; clear hg_ hnew_; (first | rw [← Ny223.out] at ho9 | (simp only [Int.reduceToNat] at ho9; rw [← Ny223.out] at ho9)); have n0_ := Aside0.mk (Kd.R_elder' (by (with_reducible repeat (first | apply Kd.R_alloc | apply Kd.R_drewN | apply Kd.R_drew)); exact HO219.out) (Kd.R_base ho9) hb); have n1_ := Aside0.mk (Kd.R_elder' (by (with_reducible repeat (first | apply Kd.R_alloc | apply Kd.R_drewN | apply Kd.R_drew)); exact HO222.out) (Kd.R_base ho9) hb); have n2_ := Aside0.mk (Kd.R_lower (Kd.R_new' (Kd.R_new' ho9 (Kd.R_lt (by (with_reducible repeat (first | apply Kd.R_alloc | apply Kd.R_drewN | apply Kd.R_drew)); exact HO219.out))) (Kd.R_lt (by (with_reducible repeat (first | apply Kd.R_alloc | apply Kd.R_drewN | apply Kd.R_drew)); exact HO222.out))) (below_size (by repeat (first | (with_reducible first | exact HB.out | apply below_alloc | apply pw_below_drewN | apply below_drew1) | exact HB.out)))); have n3_ := Aside0.mk (below_step (by repeat (first | (with_reducible first | exact HB.out | apply below_alloc | apply pw_below_drewN | apply below_drew1) | exact HB.out)) hb); clear HO219; clear HO222; clear HB; have HO219 := n0_; have HO222 := n1_; have HO225 := n2_; have HB := n3_; clear n0_ n1_ n2_ n3_; clear hb ho9) | ((with_reducible refine gate_builtin (b := .append) (xs := #[.tmp 17, .tmp 18]) rfl ?_); at_builtin; refine Kd.R_append_rows (Kd.int .u32) (w0 := w) w.heap.size rfl (.tmp 17) (.tmp 18) 81 54 (.int .u32 0) 4 rfl Try.underlying81 info54 rfl (by decide) (by omega) v224 y223 l0 _ _ _ (fun k_ => some k_ ≠ (v218 : Value).ownBlock ∧ some k_ ≠ (v221 : Value).ownBlock) (fun _ => False) rfl rfl ?aO ?aR (fun _ _ h => h) (fun _ h => h.elim) ?aF ?aB ?aS ?aL ?_; (case aR => repeat (first | exact (Kd.C_below HR0.out HB.out) | (with_reducible refine Kd.C_alloc ?_ _) | (with_reducible refine Kd.C_drewN ?_ _) | (with_reducible refine Kd.C_drew ?_))); (case aB => exact (by repeat (first | (with_reducible first | exact HB.out | apply below_alloc | apply pw_below_drewN | apply below_drew1) | exact HB.out))); (case aF => exact (fun k_ hk => ⟨Kd.fresh' (Kd.R_lt (by (with_reducible repeat (first | apply Kd.R_alloc | apply Kd.R_drewN | apply Kd.R_drew)); exact HO219.out)) k_ hk, Kd.fresh' (Kd.R_lt (by (with_reducible repeat (first | apply Kd.R_alloc | apply Kd.R_drewN | apply Kd.R_drew)); exact HO222.out)) k_ hk⟩)); (case aO => exact (by (with_reducible repeat (first | apply Kd.R_alloc | apply Kd.R_drewN | apply Kd.R_drew)); exact Kd.R_mono HO225.out (fun _ hk => ⟨hk.1.2, hk.2⟩))); (case aS => exact (below_size (by repeat (first | (with_reducible first | exact HB.out | apply below_alloc | apply pw_below_drewN | apply below_drew1) | exact HB.out)))); (case aL => have := LMc5.out; omega); intro v227 w10 ho hb hg hat; rw [← Ny226.out] at ho; have n0_ := Aside0.mk (Kd.R_after (ok := (fun k_ => some k_ ≠ (v221 : Value).ownBlock)) (by (with_reducible repeat (first | apply Kd.R_alloc | apply Kd.R_drewN | apply Kd.R_drew)); exact Kd.R_mono HO219.out (fun _ hk => ⟨hk.1.2, hk.2⟩)) hg hat); have n1_ := Aside0.mk (Kd.R_after (ok := (fun k_ => some k_ ≠ (v218 : Value).ownBlock)) (by (with_reducible repeat (first | apply Kd.R_alloc | apply Kd.R_drewN | apply Kd.R_drew)); exact Kd.R_mono HO222.out (fun _ hk => ⟨hk.1.2, hk.2⟩)) hg hat); have n2_ := Aside0.mk (hb); have n3_ := Aside0.mk (ho); clear HO219; clear HO222; clear HB; clear HO225; have HO219 := n0_; have HO222 := n1_; have HB := n2_; have HO228 := n3_; clear n0_ n1_ n2_ n3_; clear ho hb hg hat))
    go_loopg [7, 8] k (fun kq v7 v8 w' => ∃ (x7_1 : List Int) (x8_1 : Int), v8 = .int .i64 x8_1 ∧ Aside0 (agoraref03_next.l0 kq l0 t217 t220 x7_1 x8_1 = some r) ∧ Aside0 (kq ≤ k) ∧ Aside0 (Kd.R (Kd.int .u32) 54 w' w.heap.size (fun k_ => some k_ ≠ (v221 : Value).ownBlock ∧ some k_ ≠ (v7 : Value).ownBlock) v218 t217) ∧ Aside0 (Kd.R (Kd.int .u32) 54 w' w.heap.size (fun k_ => some k_ ≠ (v218 : Value).ownBlock ∧ some k_ ≠ (v7 : Value).ownBlock) v221 t220) ∧ Aside0 (Kd.R (Kd.int .u32) 54 w' w.heap.size (fun k_ => some k_ ≠ (v218 : Value).ownBlock ∧ some k_ ≠ (v221 : Value).ownBlock) v7 x7_1) ∧ Aside0 (Below w.heap.size w w'))
    case atStart => exact ⟨(y226), (0), (by first | rfl | (simp; done) | (simp [*]; done)), H', ⟨Nat.le_refl _⟩, ⟨by (with_reducible repeat (first | apply Kd.R_alloc | apply Kd.R_drewN | apply Kd.R_drew)); exact HO219.out⟩, ⟨by (with_reducible repeat (first | apply Kd.R_alloc | apply Kd.R_drewN | apply Kd.R_drew)); exact HO222.out⟩, ⟨by (with_reducible repeat (first | apply Kd.R_alloc | apply Kd.R_drewN | apply Kd.R_drew)); exact HO228.out⟩, ⟨by repeat (first | (with_reducible first | exact HB.out | apply below_alloc | apply pw_below_drewN | apply below_drew1) | exact HB.out)⟩⟩
    case round =>
      clear H'
      try clear c1
      try clear p2
      try clear c5
      try clear c6
      obtain ⟨x7_1, x8_1, rfl, HA, HK1, HO_5, HO_6, HO_7, HB⟩ := hrel
      cases gk with
      | zero => exact absurd HA.out (by simp [agoraref03_next.l0])
      | succ k1 =>
        have H := HA.out
        clear HA
        simp only [agoraref03_next.l0] at H
        by_cases c11 : x8_1 < 64
        · rw [if_pos c11] at H
          have c11b0 : decide (x8_1 < 64) = true := decide_eq_true c11
          clear c11
          by_cases c12 : 4 < (x7_1.length : Int)
          · rw [if_pos c12] at H
            have c12b0 : decide (4 < (x7_1.length : Int)) = true := decide_eq_true c12
            have c12b1 : decide (4 < x7_1.length) = true := decide_eq_true (by omega)
            clear c12
            replace H := Option.bind_eq_some_iff.mp H
            obtain ⟨t230, A130, H⟩ := H
            replace H : ((agoraref03_turn.f (rd x7_1 4) 11).bind fun t232 => ((agoraref03_turn.f (rd x7_1 4) 25).bind fun t234 => (if 7 < (x7_1.length : Int) then (if 5 < (x7_1.length : Int) then (if 6 < (x7_1.length : Int) then (if 0 ≤ x8_1 then (if x8_1 < (t220.length : Int) then (if x8_1 < (t217.length : Int) then (if 0 < (x7_1.length : Int) then ((agoraref03_turn.f (rd x7_1 0) 2).bind fun t243 => ((agoraref03_turn.f (rd x7_1 0) 13).bind fun t245 => ((agoraref03_turn.f (rd x7_1 0) 22).bind fun t247 => (if 1 < (x7_1.length : Int) then (if 2 < (x7_1.length : Int) then (if 3 < (x7_1.length : Int) then (agoraref03_next.l0 k1 l0 t217 t220 (([((((((((((rd x7_1 7) + (Go.bits .xor .u32 (Go.bits .xor .u32 t230 t232) t234)) % 4294967296) + (Go.bits .xor .u32 (Go.bits .and .u32 (rd x7_1 4) (rd x7_1 5)) (Go.bits .and .u32 (Go.bits .xor .u32 IntKind.u32.max (rd x7_1 4)) (rd x7_1 6)))) % 4294967296) + (rd t220 x8_1)) % 4294967296) + (rd t217 x8_1)) % 4294967296) + (((Go.bits .xor .u32 (Go.bits .xor .u32 t243 t245) t247) + (Go.bits .xor .u32 (Go.bits .xor .u32 (Go.bits .and .u32 (rd x7_1 0) (rd x7_1 1)) (Go.bits .and .u32 (rd x7_1 0) (rd x7_1 2))) (Go.bits .and .u32 (rd x7_1 1) (rd x7_1 2)))) % 4294967296)) % 4294967296, rd x7_1 0, rd x7_1 1, rd x7_1 2, ((rd x7_1 3) + (((((((((rd x7_1 7) + (Go.bits .xor .u32 (Go.bits .xor .u32 t230 t232) t234)) % 4294967296) + (Go.bits .xor .u32 (Go.bits .and .u32 (rd x7_1 4) (rd x7_1 5)) (Go.bits .and .u32 (Go.bits .xor .u32 IntKind.u32.max (rd x7_1 4)) (rd x7_1 6)))) % 4294967296) + (rd t220 x8_1)) % 4294967296) + (rd t217 x8_1)) % 4294967296)) % 4294967296, rd x7_1 4, rd x7_1 5, rd x7_1 6] : List Int)) (wrap64 (x8_1 + 1))) else (none)) else (none)) else (none))))) else (none)) else (none)) else (none)) else (none)) else (none)) else (none)) else (none)))) = some r := H
            have A13 := Aside0.mk A130
            clear A130
            replace H := Option.bind_eq_some_iff.mp H
            obtain ⟨t232, A140, H⟩ := H
            replace H : ((agoraref03_turn.f (rd x7_1 4) 25).bind fun t234 => (if 7 < (x7_1.length : Int) then (if 5 < (x7_1.length : Int) then (if 6 < (x7_1.length : Int) then (if 0 ≤ x8_1 then (if x8_1 < (t220.length : Int) then (if x8_1 < (t217.length : Int) then (if 0 < (x7_1.length : Int) then ((agoraref03_turn.f (rd x7_1 0) 2).bind fun t243 => ((agoraref03_turn.f (rd x7_1 0) 13).bind fun t245 => ((agoraref03_turn.f (rd x7_1 0) 22).bind fun t247 => (if 1 < (x7_1.length : Int) then (if 2 < (x7_1.length : Int) then (if 3 < (x7_1.length : Int) then (agoraref03_next.l0 k1 l0 t217 t220 (([((((((((((rd x7_1 7) + (Go.bits .xor .u32 (Go.bits .xor .u32 t230 t232) t234)) % 4294967296) + (Go.bits .xor .u32 (Go.bits .and .u32 (rd x7_1 4) (rd x7_1 5)) (Go.bits .and .u32 (Go.bits .xor .u32 IntKind.u32.max (rd x7_1 4)) (rd x7_1 6)))) % 4294967296) + (rd t220 x8_1)) % 4294967296) + (rd t217 x8_1)) % 4294967296) + (((Go.bits .xor .u32 (Go.bits .xor .u32 t243 t245) t247) + (Go.bits .xor .u32 (Go.bits .xor .u32 (Go.bits .and .u32 (rd x7_1 0) (rd x7_1 1)) (Go.bits .and .u32 (rd x7_1 0) (rd x7_1 2))) (Go.bits .and .u32 (rd x7_1 1) (rd x7_1 2)))) % 4294967296)) % 4294967296, rd x7_1 0, rd x7_1 1, rd x7_1 2, ((rd x7_1 3) + (((((((((rd x7_1 7) + (Go.bits .xor .u32 (Go.bits .xor .u32 t230 t232) t234)) % 4294967296) + (Go.bits .xor .u32 (Go.bits .and .u32 (rd x7_1 4) (rd x7_1 5)) (Go.bits .and .u32 (Go.bits .xor .u32 IntKind.u32.max (rd x7_1 4)) (rd x7_1 6)))) % 4294967296) + (rd t220 x8_1)) % 4294967296) + (rd t217 x8_1)) % 4294967296)) % 4294967296, rd x7_1 4, rd x7_1 5, rd x7_1 6] : List Int)) (wrap64 (x8_1 + 1))) else (none)) else (none)) else (none))))) else (none)) else (none)) else (none)) else (none)) else (none)) else (none)) else (none))) = some r := H
            have A14 := Aside0.mk A140
            clear A140
            replace H := Option.bind_eq_some_iff.mp H
            obtain ⟨t234, A150, H⟩ := H
            replace H : (if 7 < (x7_1.length : Int) then (if 5 < (x7_1.length : Int) then (if 6 < (x7_1.length : Int) then (if 0 ≤ x8_1 then (if x8_1 < (t220.length : Int) then (if x8_1 < (t217.length : Int) then (if 0 < (x7_1.length : Int) then ((agoraref03_turn.f (rd x7_1 0) 2).bind fun t243 => ((agoraref03_turn.f (rd x7_1 0) 13).bind fun t245 => ((agoraref03_turn.f (rd x7_1 0) 22).bind fun t247 => (if 1 < (x7_1.length : Int) then (if 2 < (x7_1.length : Int) then (if 3 < (x7_1.length : Int) then (agoraref03_next.l0 k1 l0 t217 t220 (([((((((((((rd x7_1 7) + (Go.bits .xor .u32 (Go.bits .xor .u32 t230 t232) t234)) % 4294967296) + (Go.bits .xor .u32 (Go.bits .and .u32 (rd x7_1 4) (rd x7_1 5)) (Go.bits .and .u32 (Go.bits .xor .u32 IntKind.u32.max (rd x7_1 4)) (rd x7_1 6)))) % 4294967296) + (rd t220 x8_1)) % 4294967296) + (rd t217 x8_1)) % 4294967296) + (((Go.bits .xor .u32 (Go.bits .xor .u32 t243 t245) t247) + (Go.bits .xor .u32 (Go.bits .xor .u32 (Go.bits .and .u32 (rd x7_1 0) (rd x7_1 1)) (Go.bits .and .u32 (rd x7_1 0) (rd x7_1 2))) (Go.bits .and .u32 (rd x7_1 1) (rd x7_1 2)))) % 4294967296)) % 4294967296, rd x7_1 0, rd x7_1 1, rd x7_1 2, ((rd x7_1 3) + (((((((((rd x7_1 7) + (Go.bits .xor .u32 (Go.bits .xor .u32 t230 t232) t234)) % 4294967296) + (Go.bits .xor .u32 (Go.bits .and .u32 (rd x7_1 4) (rd x7_1 5)) (Go.bits .and .u32 (Go.bits .xor .u32 IntKind.u32.max (rd x7_1 4)) (rd x7_1 6)))) % 4294967296) + (rd t220 x8_1)) % 4294967296) + (rd t217 x8_1)) % 4294967296)) % 4294967296, rd x7_1 4, rd x7_1 5, rd x7_1 6] : List Int)) (wrap64 (x8_1 + 1))) else (none)) else (none)) else (none))))) else (none)) else (none)) else (none)) else (none)) else (none)) else (none)) else (none)) = some r := H
            have A15 := Aside0.mk A150
            clear A150
            by_cases c16 : 7 < (x7_1.length : Int)
            · rw [if_pos c16] at H
              have c16b0 : decide (7 < (x7_1.length : Int)) = true := decide_eq_true c16
              have c16b1 : decide (7 < x7_1.length) = true := decide_eq_true (by omega)
              clear c16
              by_cases c17 : 5 < (x7_1.length : Int)
              · rw [if_pos c17] at H
                have c17b0 : decide (5 < (x7_1.length : Int)) = true := decide_eq_true c17
                have c17b1 : decide (5 < x7_1.length) = true := decide_eq_true (by omega)
                clear c17
                by_cases c18 : 6 < (x7_1.length : Int)
                · rw [if_pos c18] at H
                  have c18b0 : decide (6 < (x7_1.length : Int)) = true := decide_eq_true c18
                  have c18b1 : decide (6 < x7_1.length) = true := decide_eq_true (by omega)
                  clear c18
                  by_cases c19 : 0 ≤ x8_1
                  · rw [if_pos c19] at H
                    have c19b0 : decide (0 ≤ x8_1) = true := decide_eq_true c19
                    clear c19
                    by_cases c20 : x8_1 < (t220.length : Int)
                    · rw [if_pos c20] at H
                      have c20b0 : decide (x8_1 < (t220.length : Int)) = true := decide_eq_true c20
                      clear c20
                      by_cases c21 : x8_1 < (t217.length : Int)
                      · rw [if_pos c21] at H
                        have c21b0 : decide (x8_1 < (t217.length : Int)) = true := decide_eq_true c21
                        clear c21
                        by_cases c22 : 0 < (x7_1.length : Int)
                        · rw [if_pos c22] at H
                          have c22b0 : decide (0 < (x7_1.length : Int)) = true := decide_eq_true c22
                          have c22b1 : decide (0 < x7_1.length) = true := decide_eq_true (by omega)
                          clear c22
                          replace H := Option.bind_eq_some_iff.mp H
                          obtain ⟨t243, A230, H⟩ := H
                          replace H : ((agoraref03_turn.f (rd x7_1 0) 13).bind fun t245 => ((agoraref03_turn.f (rd x7_1 0) 22).bind fun t247 => (if 1 < (x7_1.length : Int) then (if 2 < (x7_1.length : Int) then (if 3 < (x7_1.length : Int) then (agoraref03_next.l0 k1 l0 t217 t220 (([((((((((((rd x7_1 7) + (Go.bits .xor .u32 (Go.bits .xor .u32 t230 t232) t234)) % 4294967296) + (Go.bits .xor .u32 (Go.bits .and .u32 (rd x7_1 4) (rd x7_1 5)) (Go.bits .and .u32 (Go.bits .xor .u32 IntKind.u32.max (rd x7_1 4)) (rd x7_1 6)))) % 4294967296) + (rd t220 x8_1)) % 4294967296) + (rd t217 x8_1)) % 4294967296) + (((Go.bits .xor .u32 (Go.bits .xor .u32 t243 t245) t247) + (Go.bits .xor .u32 (Go.bits .xor .u32 (Go.bits .and .u32 (rd x7_1 0) (rd x7_1 1)) (Go.bits .and .u32 (rd x7_1 0) (rd x7_1 2))) (Go.bits .and .u32 (rd x7_1 1) (rd x7_1 2)))) % 4294967296)) % 4294967296, rd x7_1 0, rd x7_1 1, rd x7_1 2, ((rd x7_1 3) + (((((((((rd x7_1 7) + (Go.bits .xor .u32 (Go.bits .xor .u32 t230 t232) t234)) % 4294967296) + (Go.bits .xor .u32 (Go.bits .and .u32 (rd x7_1 4) (rd x7_1 5)) (Go.bits .and .u32 (Go.bits .xor .u32 IntKind.u32.max (rd x7_1 4)) (rd x7_1 6)))) % 4294967296) + (rd t220 x8_1)) % 4294967296) + (rd t217 x8_1)) % 4294967296)) % 4294967296, rd x7_1 4, rd x7_1 5, rd x7_1 6] : List Int)) (wrap64 (x8_1 + 1))) else (none)) else (none)) else (none)))) = some r := H
                          have A23 := Aside0.mk A230
                          clear A230
                          replace H := Option.bind_eq_some_iff.mp H
                          obtain ⟨t245, A240, H⟩ := H
                          replace H : ((agoraref03_turn.f (rd x7_1 0) 22).bind fun t247 => (if 1 < (x7_1.length : Int) then (if 2 < (x7_1.length : Int) then (if 3 < (x7_1.length : Int) then (agoraref03_next.l0 k1 l0 t217 t220 (([((((((((((rd x7_1 7) + (Go.bits .xor .u32 (Go.bits .xor .u32 t230 t232) t234)) % 4294967296) + (Go.bits .xor .u32 (Go.bits .and .u32 (rd x7_1 4) (rd x7_1 5)) (Go.bits .and .u32 (Go.bits .xor .u32 IntKind.u32.max (rd x7_1 4)) (rd x7_1 6)))) % 4294967296) + (rd t220 x8_1)) % 4294967296) + (rd t217 x8_1)) % 4294967296) + (((Go.bits .xor .u32 (Go.bits .xor .u32 t243 t245) t247) + (Go.bits .xor .u32 (Go.bits .xor .u32 (Go.bits .and .u32 (rd x7_1 0) (rd x7_1 1)) (Go.bits .and .u32 (rd x7_1 0) (rd x7_1 2))) (Go.bits .and .u32 (rd x7_1 1) (rd x7_1 2)))) % 4294967296)) % 4294967296, rd x7_1 0, rd x7_1 1, rd x7_1 2, ((rd x7_1 3) + (((((((((rd x7_1 7) + (Go.bits .xor .u32 (Go.bits .xor .u32 t230 t232) t234)) % 4294967296) + (Go.bits .xor .u32 (Go.bits .and .u32 (rd x7_1 4) (rd x7_1 5)) (Go.bits .and .u32 (Go.bits .xor .u32 IntKind.u32.max (rd x7_1 4)) (rd x7_1 6)))) % 4294967296) + (rd t220 x8_1)) % 4294967296) + (rd t217 x8_1)) % 4294967296)) % 4294967296, rd x7_1 4, rd x7_1 5, rd x7_1 6] : List Int)) (wrap64 (x8_1 + 1))) else (none)) else (none)) else (none))) = some r := H
                          have A24 := Aside0.mk A240
                          clear A240
                          replace H := Option.bind_eq_some_iff.mp H
                          obtain ⟨t247, A250, H⟩ := H
                          replace H : (if 1 < (x7_1.length : Int) then (if 2 < (x7_1.length : Int) then (if 3 < (x7_1.length : Int) then (agoraref03_next.l0 k1 l0 t217 t220 (([((((((((((rd x7_1 7) + (Go.bits .xor .u32 (Go.bits .xor .u32 t230 t232) t234)) % 4294967296) + (Go.bits .xor .u32 (Go.bits .and .u32 (rd x7_1 4) (rd x7_1 5)) (Go.bits .and .u32 (Go.bits .xor .u32 IntKind.u32.max (rd x7_1 4)) (rd x7_1 6)))) % 4294967296) + (rd t220 x8_1)) % 4294967296) + (rd t217 x8_1)) % 4294967296) + (((Go.bits .xor .u32 (Go.bits .xor .u32 t243 t245) t247) + (Go.bits .xor .u32 (Go.bits .xor .u32 (Go.bits .and .u32 (rd x7_1 0) (rd x7_1 1)) (Go.bits .and .u32 (rd x7_1 0) (rd x7_1 2))) (Go.bits .and .u32 (rd x7_1 1) (rd x7_1 2)))) % 4294967296)) % 4294967296, rd x7_1 0, rd x7_1 1, rd x7_1 2, ((rd x7_1 3) + (((((((((rd x7_1 7) + (Go.bits .xor .u32 (Go.bits .xor .u32 t230 t232) t234)) % 4294967296) + (Go.bits .xor .u32 (Go.bits .and .u32 (rd x7_1 4) (rd x7_1 5)) (Go.bits .and .u32 (Go.bits .xor .u32 IntKind.u32.max (rd x7_1 4)) (rd x7_1 6)))) % 4294967296) + (rd t220 x8_1)) % 4294967296) + (rd t217 x8_1)) % 4294967296)) % 4294967296, rd x7_1 4, rd x7_1 5, rd x7_1 6] : List Int)) (wrap64 (x8_1 + 1))) else (none)) else (none)) else (none)) = some r := H
                          have A25 := Aside0.mk A250
                          clear A250
                          by_cases c26 : 1 < (x7_1.length : Int)
                          · rw [if_pos c26] at H
                            have c26b0 : decide (1 < (x7_1.length : Int)) = true := decide_eq_true c26
                            have c26b1 : decide (1 < x7_1.length) = true := decide_eq_true (by omega)
                            clear c26
                            by_cases c27 : 2 < (x7_1.length : Int)
                            · rw [if_pos c27] at H
                              have c27b0 : decide (2 < (x7_1.length : Int)) = true := decide_eq_true c27
                              have c27b1 : decide (2 < x7_1.length) = true := decide_eq_true (by omega)
                              clear c27
                              by_cases c28 : 3 < (x7_1.length : Int)
                              · rw [if_pos c28] at H
                                have c28b0 : decide (3 < (x7_1.length : Int)) = true := decide_eq_true c28
                                have c28b1 : decide (3 < x7_1.length) = true := decide_eq_true (by omega)
                                clear c28
                                obtain ⟨y261, hy261⟩ : ∃ y_ : List Int, y_ = (([((((((((((rd x7_1 7) + (Go.bits .xor .u32 (Go.bits .xor .u32 t230 t232) t234)) % 4294967296) + (Go.bits .xor .u32 (Go.bits .and .u32 (rd x7_1 4) (rd x7_1 5)) (Go.bits .and .u32 (Go.bits .xor .u32 IntKind.u32.max (rd x7_1 4)) (rd x7_1 6)))) % 4294967296) + (rd t220 x8_1)) % 4294967296) + (rd t217 x8_1)) % 4294967296) + (((Go.bits .xor .u32 (Go.bits .xor .u32 t243 t245) t247) + (Go.bits .xor .u32 (Go.bits .xor .u32 (Go.bits .and .u32 (rd x7_1 0) (rd x7_1 1)) (Go.bits .and .u32 (rd x7_1 0) (rd x7_1 2))) (Go.bits .and .u32 (rd x7_1 1) (rd x7_1 2)))) % 4294967296)) % 4294967296, rd x7_1 0, rd x7_1 1, rd x7_1 2, ((rd x7_1 3) + (((((((((rd x7_1 7) + (Go.bits .xor .u32 (Go.bits .xor .u32 t230 t232) t234)) % 4294967296) + (Go.bits .xor .u32 (Go.bits .and .u32 (rd x7_1 4) (rd x7_1 5)) (Go.bits .and .u32 (Go.bits .xor .u32 IntKind.u32.max (rd x7_1 4)) (rd x7_1 6)))) % 4294967296) + (rd t220 x8_1)) % 4294967296) + (rd t217 x8_1)) % 4294967296)) % 4294967296, rd x7_1 4, rd x7_1 5, rd x7_1 6] : List Int)) := ⟨_, rfl⟩
                                replace H : (agoraref03_next.l0 k1 l0 t217 t220 y261 (wrap64 (x8_1 + 1))) = some r := by first | (rw [hy261]; with_reducible exact H) | (have H2_ := (Option.bind_some _ _).symm.trans H; rw [hy261]; with_reducible exact H2_) | (have H2_ := (Option.bind_some _ _).symm.trans H; with_reducible exact H2_) | with_reducible exact H | (rw [hy261]; exact H) | exact H
                                have Ny261 := Aside0.mk hy261
                                clear hy261
                                have H' := Aside0.mk H
                                clear H
                                try go_wp2
                                have n0_ := Aside0.mk (Kd.R_drew HO_5.out)
                                have n1_ := Aside0.mk (Kd.R_drew HO_6.out)
                                have n2_ := Aside0.mk (Kd.R_drew HO_7.out)
                                have n3_ := Aside0.mk (below_drew1 HB.out)
                                clear HO_5
                                clear HO_6
                                clear HO_7
                                clear HB
                                have HO_5 := n0_
                                have HO_6 := n1_
                                have HO_7 := n2_
                                have HB := n3_
                                clear n0_ n1_ n2_ n3_
                                obtain ⟨Ao30, co30, eo30⟩ := Kd.R_slice HO_7.out
                                (first | subst eo30 | (injection eo30 with f1_ f2_ f3_; have f4_ := f1_.symm; have f5_ := f3_.symm; clear f1_ f2_ f3_; subst f4_; subst f5_))
                                have p229 : 0 ≤ (4 : Int) := (by omega)
                                have q229 : 4 < (x7_1.length : Int) := of_decide_eq_true (by first | (with_reducible assumption) | assumption)
                                obtain ⟨ad229, e229, hx229_0⟩ := Kd.at_int (Kd.R_reads' HO_7.out).2.2 4 p229 q229
                                cases e229
                                (try simp only [show (4 : Int).toNat = 4 from rfl, Nat.reduceMul, Nat.reduceEqDiff, Go.Addr.add, ↓reduceIte] at hx229_0)
                                have qi229 : (4 < x7_1.length) = True := eq_true (by omega)
                                (try rw [show ((4 : Int)).toNat = 4 from rfl] at hx229_0)
                                replace p229 := eq_true p229
                                replace q229 := eq_true q229
                                have p231 : 0 ≤ (4 : Int) := (by omega)
                                have q231 : 4 < (x7_1.length : Int) := of_decide_eq_true (by first | (with_reducible assumption) | assumption)
                                obtain ⟨ad231, e231, hx231_0⟩ := Kd.at_int (Kd.R_reads' HO_7.out).2.2 4 p231 q231
                                obtain rfl : ad229 = ad231 := (by injection e231)
                                (try simp only [show (4 : Int).toNat = 4 from rfl, Nat.reduceMul, Nat.reduceEqDiff, Go.Addr.add, ↓reduceIte] at hx231_0)
                                have qi231 : (4 < x7_1.length) = True := eq_true (by omega)
                                (try rw [show ((4 : Int)).toNat = 4 from rfl] at hx231_0)
                                replace p231 := eq_true p231
                                replace q231 := eq_true q231
                                have p233 : 0 ≤ (4 : Int) := (by omega)
                                have q233 : 4 < (x7_1.length : Int) := of_decide_eq_true (by first | (with_reducible assumption) | assumption)
                                obtain ⟨ad233, e233, hx233_0⟩ := Kd.at_int (Kd.R_reads' HO_7.out).2.2 4 p233 q233
                                obtain rfl : ad229 = ad233 := (by injection e233)
                                (try simp only [show (4 : Int).toNat = 4 from rfl, Nat.reduceMul, Nat.reduceEqDiff, Go.Addr.add, ↓reduceIte] at hx233_0)
                                have qi233 : (4 < x7_1.length) = True := eq_true (by omega)
                                (try rw [show ((4 : Int)).toNat = 4 from rfl] at hx233_0)
                                replace p233 := eq_true p233
                                replace q233 := eq_true q233
                                refine start_ (n := 15) (S := fun w' => w'.cell? ⟨ad229.block, ad229.off + 4, none⟩ = some (.int .u32 (rd x7_1 4)) ∧ w'.cell? ⟨ad229.block, ad229.off + 4, none⟩ = some (.int .u32 (rd x7_1 4)) ∧ w'.cell? ⟨ad229.block, ad229.off + 4, none⟩ = some (.int .u32 (rd x7_1 4))) (ds := []) #[false, false, false, false, false, false, false, false, false, false, false, false, false, false, false] (by kernel_rfl) rfl rfl ⟨hx229_0, hx231_0, hx233_0⟩ (fun hHeld => ?_); refine with_tabW agoraref03_next.tab7 agoraref03_next.bits7 (fun HT_ HW_ => ?_)
                                generalize wr.drew = w29 at HO_5 HO_6 HO_7 HB hx229_0 hx231_0 hx233_0 hHeld ⊢
                                refine pure_ (i := 0) (N := some 24) (v := ?_) (a' := ?_) #[true, false, false, false, false, false, false, false, false, false, false, false, false, false, false] rfl rfl (any_of HT_.out (by kernel_rfl)) (fun _ _ _ h => h) (Or.inl ⟨by rfl, ?_⟩) ?_ ?_
                                rotate_left
                                · intro w'
                                  go_simp
                                  with_reducible rfl
                                rotate_left
                                · simp only [Act.put, List.setIfInBounds_toArray, List.set_cons_zero, List.set_cons_succ, i64_w, i32_w]
                                  rfl
                                refine pure_ (i := 1) (N := some 25) (v := ?_) (a' := ?_) #[true, true, false, false, false, false, false, false, false, false, false, false, false, false, false] rfl rfl (any_of HT_.out (by kernel_rfl)) (fun _ _ _ h => h) (Or.inl ⟨by rfl, ?_⟩) ?_ ?_
                                rotate_left
                                · intro w'
                                  go_simp
                                  with_reducible rfl
                                rotate_left
                                · simp only [Act.put, List.setIfInBounds_toArray, List.set_cons_zero, List.set_cons_succ, i64_w, i32_w]
                                  rfl
                                refine pure_ (i := 4) (N := some 28) (v := ?_) (a' := ?_) #[true, true, false, false, true, false, false, false, false, false, false, false, false, false, false] rfl rfl (any_of HT_.out (by kernel_rfl)) (fun _ _ _ h => h) (Or.inl ⟨by rfl, ?_⟩) ?_ ?_
                                rotate_left
                                · intro w'
                                  go_simp
                                  with_reducible rfl
                                rotate_left
                                · simp only [Act.put, List.setIfInBounds_toArray, List.set_cons_zero, List.set_cons_succ, i64_w, i32_w]
                                  rfl
                                refine pure_ (i := 5) (N := some 29) (v := ?_) (a' := ?_) #[true, true, false, false, true, true, false, false, false, false, false, false, false, false, false] rfl rfl (any_of HT_.out (by kernel_rfl)) (fun _ _ _ h => h) (Or.inl ⟨by rfl, ?_⟩) ?_ ?_
                                rotate_left
                                · intro w'
                                  go_simp
                                  with_reducible rfl
                                rotate_left
                                · simp only [Act.put, List.setIfInBounds_toArray, List.set_cons_zero, List.set_cons_succ, i64_w, i32_w]
                                  rfl
                                refine pure_ (i := 9) (N := some 33) (v := ?_) (a' := ?_) #[true, true, false, false, true, true, false, false, false, true, false, false, false, false, false] rfl rfl (any_of HT_.out (by kernel_rfl)) (fun _ _ _ h => h) (Or.inl ⟨by rfl, ?_⟩) ?_ ?_
                                rotate_left
                                · intro w'
                                  go_simp
                                  with_reducible rfl
                                rotate_left
                                · simp only [Act.put, List.setIfInBounds_toArray, List.set_cons_zero, List.set_cons_succ, i64_w, i32_w]
                                  rfl
                                refine pure_ (i := 10) (N := some 34) (v := ?_) (a' := ?_) #[true, true, false, false, true, true, false, false, false, true, true, false, false, false, false] rfl rfl (any_of HT_.out (by kernel_rfl)) (fun _ _ _ h => h) (Or.inl ⟨by rfl, ?_⟩) ?_ ?_
                                rotate_left
                                · intro w'
                                  go_simp
                                  with_reducible rfl
                                rotate_left
                                · simp only [Act.put, List.setIfInBounds_toArray, List.set_cons_zero, List.set_cons_succ, i64_w, i32_w]
                                  rfl
                                refine take_ (i := 2) (N := some 26) (v := ?_) (a' := ?_) #[true, true, true, false, true, true, false, false, false, true, true, false, false, false, false] rfl rfl (take_ofW HT_.out HW_.out (by kernel_rfl)) (fun _ _ _ h => h) (Or.inl ⟨by rfl, ?_⟩) hHeld ?_ ?_
                                rotate_left
                                · rintro w' ⟨s0, s1, s2⟩
                                  go_simp
                                  with_reducible rfl
                                rotate_left
                                · simp only [Act.put, List.setIfInBounds_toArray, List.set_cons_zero, List.set_cons_succ, i64_w, i32_w]
                                  rfl
                                refine take_ (i := 6) (N := some 30) (v := ?_) (a' := ?_) #[true, true, true, false, true, true, true, false, false, true, true, false, false, false, false] rfl rfl (take_ofW HT_.out HW_.out (by kernel_rfl)) (fun _ _ _ h => h) (Or.inl ⟨by rfl, ?_⟩) hHeld ?_ ?_
                                rotate_left
                                · rintro w' ⟨s0, s1, s2⟩
                                  go_simp
                                  with_reducible rfl
                                rotate_left
                                · simp only [Act.put, List.setIfInBounds_toArray, List.set_cons_zero, List.set_cons_succ, i64_w, i32_w]
                                  rfl
                                refine take_ (i := 11) (N := some 35) (v := ?_) (a' := ?_) #[true, true, true, false, true, true, true, false, false, true, true, true, false, false, false] rfl rfl (take_ofW HT_.out HW_.out (by kernel_rfl)) (fun _ _ _ h => h) (Or.inl ⟨by rfl, ?_⟩) hHeld ?_ ?_
                                rotate_left
                                · rintro w' ⟨s0, s1, s2⟩
                                  go_simp
                                  with_reducible rfl
                                rotate_left
                                · simp only [Act.put, List.setIfInBounds_toArray, List.set_cons_zero, List.set_cons_succ, i64_w, i32_w]
                                  rfl
                                refine one_ (i := 3) (N := some 27) #[true, true, true, true, true, true, true, false, false, true, true, true, false, false, false] rfl rfl (one_of HT_.out (by kernel_rfl)) (by decide) (fun K hK => ?_)
                                refine goes_ Try.func67 (by kernel_rfl) rfl #[.int .u32 (rd x7_1 4), .int .i64 6] (by rfl) rfl rfl (by (try simp only [List.map_toArray, List.map_cons, List.map_nil]); first | done | rfl | (simp only [List.length_drop, List.length_take]; rfl)) ?_
                                with_reducible refine (agoraref03_turn.calls (rd x7_1 4) 6 t230 _ A13.out).mono ?_
                                rintro e w' ⟨rfl, ⟨nd, rfl⟩⟩
                                refine ⟨_, rfl, ?_⟩
                                refine hK.out _ _ ⟨hHeld.1, hHeld.2.1, hHeld.2.2⟩ (fun hHeld => ?_)
                                clear hK K
                                refine norm_ (a' := ?_) ?_ ?_
                                rotate_left
                                · show Act.put _ (some 27) _ = _
                                  simp only [Act.put, List.setIfInBounds_toArray, List.set_cons_zero, List.set_cons_succ, i64_w, i32_w]
                                  rfl
                                refine one_ (i := 7) (N := some 31) #[true, true, true, true, true, true, true, true, false, true, true, true, false, false, false] rfl rfl (one_of HT_.out (by kernel_rfl)) (by decide) (fun K hK => ?_)
                                refine goes_ Try.func67 (by kernel_rfl) rfl #[.int .u32 (rd x7_1 4), .int .i64 11] (by rfl) rfl rfl (by (try simp only [List.map_toArray, List.map_cons, List.map_nil]); first | done | rfl | (simp only [List.length_drop, List.length_take]; rfl)) ?_
                                with_reducible refine (agoraref03_turn.calls (rd x7_1 4) 11 t232 _ A14.out).mono ?_
                                rintro e w' ⟨rfl, ⟨nd, rfl⟩⟩
                                refine ⟨_, rfl, ?_⟩
                                refine hK.out _ _ ⟨hHeld.1, hHeld.2.1, hHeld.2.2⟩ (fun hHeld => ?_)
                                clear hK K
                                refine norm_ (a' := ?_) ?_ ?_
                                rotate_left
                                · show Act.put _ (some 31) _ = _
                                  simp only [Act.put, List.setIfInBounds_toArray, List.set_cons_zero, List.set_cons_succ, i64_w, i32_w]
                                  rfl
                                refine pure_ (i := 8) (N := some 32) (v := ?_) (a' := ?_) #[true, true, true, true, true, true, true, true, true, true, true, true, false, false, false] rfl rfl (any_of HT_.out (by kernel_rfl)) (fun _ _ _ h => h) (Or.inl ⟨by rfl, ?_⟩) ?_ ?_
                                rotate_left
                                · intro w'
                                  go_simp
                                  with_reducible rfl
                                rotate_left
                                · simp only [Act.put, List.setIfInBounds_toArray, List.set_cons_zero, List.set_cons_succ, i64_w, i32_w]
                                  rfl
                                refine one_ (i := 12) (N := some 36) #[true, true, true, true, true, true, true, true, true, true, true, true, true, false, false] rfl rfl (one_of HT_.out (by kernel_rfl)) (by decide) (fun K hK => ?_)
                                refine goes_ Try.func67 (by kernel_rfl) rfl #[.int .u32 (rd x7_1 4), .int .i64 25] (by rfl) rfl rfl (by (try simp only [List.map_toArray, List.map_cons, List.map_nil]); first | done | rfl | (simp only [List.length_drop, List.length_take]; rfl)) ?_
                                with_reducible refine (agoraref03_turn.calls (rd x7_1 4) 25 t234 _ A15.out).mono ?_
                                rintro e w' ⟨rfl, ⟨nd, rfl⟩⟩
                                refine ⟨_, rfl, ?_⟩
                                refine hK.out _ _ ⟨hHeld.1, hHeld.2.1, hHeld.2.2⟩ (fun hHeld => ?_)
                                clear hK K
                                refine norm_ (a' := ?_) ?_ ?_
                                rotate_left
                                · show Act.put _ (some 36) _ = _
                                  simp only [Act.put, List.setIfInBounds_toArray, List.set_cons_zero, List.set_cons_succ, i64_w, i32_w]
                                  rfl
                                refine pure_ (i := 13) (N := some 37) (v := ?_) (a' := ?_) #[true, true, true, true, true, true, true, true, true, true, true, true, true, true, false] rfl rfl (any_of HT_.out (by kernel_rfl)) (fun _ _ _ h => h) (Or.inl ⟨by rfl, ?_⟩) ?_ ?_
                                rotate_left
                                · intro w'
                                  go_simp
                                  with_reducible rfl
                                rotate_left
                                · simp only [Act.put, List.setIfInBounds_toArray, List.set_cons_zero, List.set_cons_succ, i64_w, i32_w]
                                  rfl
                                refine pure_ (i := 14) (N := some 9) (v := ?_) (a' := ?_) #[true, true, true, true, true, true, true, true, true, true, true, true, true, true, true] rfl rfl (any_of HT_.out (by kernel_rfl)) (fun _ _ _ h => h) (Or.inl ⟨by rfl, ?_⟩) ?_ ?_
                                rotate_left
                                · intro w'
                                  go_simp
                                  with_reducible rfl
                                rotate_left
                                · simp only [Act.put, List.setIfInBounds_toArray, List.set_cons_zero, List.set_cons_succ, i64_w, i32_w]
                                  rfl
                                refine done_ (done_of HT_.out (by kernel_rfl)) ?_
                                try go_wp2
                                (try simp only [World.drewN_drewN])
                                (try (rw [drewN_self w29]; generalize hq_ : World.drewN w29 _ = w29; have n0_ : Aside0 (Kd.R (Kd.int .u32) 54 w29 w.heap.size (fun k_ => some k_ ≠ (v221 : Value).ownBlock ∧ some k_ ≠ (.slice (some ad229) x7_1.length co30 : Value).ownBlock) v218 t217) := ⟨by rw [← hq_]; exact (by (with_reducible repeat (first | apply Kd.R_alloc | apply Kd.R_drewN | apply Kd.R_drew)); exact HO_5.out)⟩; have n1_ : Aside0 (Kd.R (Kd.int .u32) 54 w29 w.heap.size (fun k_ => some k_ ≠ (v218 : Value).ownBlock ∧ some k_ ≠ (.slice (some ad229) x7_1.length co30 : Value).ownBlock) v221 t220) := ⟨by rw [← hq_]; exact (by (with_reducible repeat (first | apply Kd.R_alloc | apply Kd.R_drewN | apply Kd.R_drew)); exact HO_6.out)⟩; have n2_ : Aside0 (Kd.R (Kd.int .u32) 54 w29 w.heap.size (fun k_ => some k_ ≠ (v218 : Value).ownBlock ∧ some k_ ≠ (v221 : Value).ownBlock) (.slice (some ad229) x7_1.length co30) x7_1) := ⟨by rw [← hq_]; exact (by (with_reducible repeat (first | apply Kd.R_alloc | apply Kd.R_drewN | apply Kd.R_drew)); exact HO_7.out)⟩; have n3_ : Aside0 (Below w.heap.size w w29) := ⟨by rw [← hq_]; exact (by repeat (first | (with_reducible first | exact HB.out | apply below_alloc | apply pw_below_drewN | apply below_drew1) | exact HB.out))⟩; clear HO_5 HO_6 HO_7 HB hq_; have HO_5 := n0_; have HO_6 := n1_; have HO_7 := n2_; have HB := n3_; clear n0_ n1_ n2_ n3_))
                                have n0_ := Aside0.mk (Kd.R_drew HO_5.out)
                                have n1_ := Aside0.mk (Kd.R_drew HO_6.out)
                                have n2_ := Aside0.mk (Kd.R_drew HO_7.out)
                                have n3_ := Aside0.mk (below_drew1 HB.out)
                                clear HO_5
                                clear HO_6
                                clear HO_7
                                clear HB
                                have HO_5 := n0_
                                have HO_6 := n1_
                                have HO_7 := n2_
                                have HB := n3_
                                clear n0_ n1_ n2_ n3_
                                have p235 : 0 ≤ (7 : Int) := (by omega)
                                have q235 : 7 < (x7_1.length : Int) := of_decide_eq_true (by first | (with_reducible assumption) | assumption)
                                obtain ⟨ad235, e235, hx235_0⟩ := Kd.at_int (Kd.R_reads' HO_7.out).2.2 7 p235 q235
                                obtain rfl : ad229 = ad235 := (by injection e235)
                                (try simp only [show (7 : Int).toNat = 7 from rfl, Nat.reduceMul, Nat.reduceEqDiff, Go.Addr.add, ↓reduceIte] at hx235_0)
                                have qi235 : (7 < x7_1.length) = True := eq_true (by omega)
                                (try rw [show ((7 : Int)).toNat = 7 from rfl] at hx235_0)
                                replace p235 := eq_true p235
                                replace q235 := eq_true q235
                                have p236 : 0 ≤ (4 : Int) := (by omega)
                                have q236 : 4 < (x7_1.length : Int) := of_decide_eq_true (by first | (with_reducible assumption) | assumption)
                                obtain ⟨ad236, e236, hx236_0⟩ := Kd.at_int (Kd.R_reads' HO_7.out).2.2 4 p236 q236
                                obtain rfl : ad229 = ad236 := (by injection e236)
                                (try simp only [show (4 : Int).toNat = 4 from rfl, Nat.reduceMul, Nat.reduceEqDiff, Go.Addr.add, ↓reduceIte] at hx236_0)
                                have qi236 : (4 < x7_1.length) = True := eq_true (by omega)
                                (try rw [show ((4 : Int)).toNat = 4 from rfl] at hx236_0)
                                replace p236 := eq_true p236
                                replace q236 := eq_true q236
                                have p237 : 0 ≤ (5 : Int) := (by omega)
                                have q237 : 5 < (x7_1.length : Int) := of_decide_eq_true (by first | (with_reducible assumption) | assumption)
                                obtain ⟨ad237, e237, hx237_0⟩ := Kd.at_int (Kd.R_reads' HO_7.out).2.2 5 p237 q237
                                obtain rfl : ad229 = ad237 := (by injection e237)
                                (try simp only [show (5 : Int).toNat = 5 from rfl, Nat.reduceMul, Nat.reduceEqDiff, Go.Addr.add, ↓reduceIte] at hx237_0)
                                have qi237 : (5 < x7_1.length) = True := eq_true (by omega)
                                (try rw [show ((5 : Int)).toNat = 5 from rfl] at hx237_0)
                                replace p237 := eq_true p237
                                replace q237 := eq_true q237
                                have p238 : 0 ≤ (4 : Int) := (by omega)
                                have q238 : 4 < (x7_1.length : Int) := of_decide_eq_true (by first | (with_reducible assumption) | assumption)
                                obtain ⟨ad238, e238, hx238_0⟩ := Kd.at_int (Kd.R_reads' HO_7.out).2.2 4 p238 q238
                                obtain rfl : ad229 = ad238 := (by injection e238)
                                (try simp only [show (4 : Int).toNat = 4 from rfl, Nat.reduceMul, Nat.reduceEqDiff, Go.Addr.add, ↓reduceIte] at hx238_0)
                                have qi238 : (4 < x7_1.length) = True := eq_true (by omega)
                                (try rw [show ((4 : Int)).toNat = 4 from rfl] at hx238_0)
                                replace p238 := eq_true p238
                                replace q238 := eq_true q238
                                have p239 : 0 ≤ (6 : Int) := (by omega)
                                have q239 : 6 < (x7_1.length : Int) := of_decide_eq_true (by first | (with_reducible assumption) | assumption)
                                obtain ⟨ad239, e239, hx239_0⟩ := Kd.at_int (Kd.R_reads' HO_7.out).2.2 6 p239 q239
                                obtain rfl : ad229 = ad239 := (by injection e239)
                                (try simp only [show (6 : Int).toNat = 6 from rfl, Nat.reduceMul, Nat.reduceEqDiff, Go.Addr.add, ↓reduceIte] at hx239_0)
                                have qi239 : (6 < x7_1.length) = True := eq_true (by omega)
                                (try rw [show ((6 : Int)).toNat = 6 from rfl] at hx239_0)
                                replace p239 := eq_true p239
                                replace q239 := eq_true q239
                                obtain ⟨Ao32, co32, eo32⟩ := Kd.R_slice HO_6.out
                                (first | subst eo32 | (injection eo32 with f1_ f2_ f3_; have f4_ := f1_.symm; have f5_ := f3_.symm; clear f1_ f2_ f3_; subst f4_; subst f5_))
                                have p240 : 0 ≤ (x8_1 : Int) := of_decide_eq_true (by first | (with_reducible assumption) | assumption)
                                have q240 : x8_1 < (t220.length : Int) := of_decide_eq_true (by first | (with_reducible assumption) | assumption)
                                obtain ⟨ad240, e240, hx240_0⟩ := Kd.at_int (Kd.R_reads' HO_6.out).2.2 x8_1 p240 q240
                                cases e240
                                replace p240 := eq_true p240
                                replace q240 := eq_true q240
                                obtain ⟨Ao33, co33, eo33⟩ := Kd.R_slice HO_5.out
                                (first | subst eo33 | (injection eo33 with f1_ f2_ f3_; have f4_ := f1_.symm; have f5_ := f3_.symm; clear f1_ f2_ f3_; subst f4_; subst f5_))
                                have p241 : 0 ≤ (x8_1 : Int) := of_decide_eq_true (by first | (with_reducible assumption) | assumption)
                                have q241 : x8_1 < (t217.length : Int) := of_decide_eq_true (by first | (with_reducible assumption) | assumption)
                                obtain ⟨ad241, e241, hx241_0⟩ := Kd.at_int (Kd.R_reads' HO_5.out).2.2 x8_1 p241 q241
                                cases e241
                                replace p241 := eq_true p241
                                replace q241 := eq_true q241
                                refine start_ (n := 33) (S := fun w' => w'.cell? ⟨ad229.block, ad229.off + 7, none⟩ = some (.int .u32 (rd x7_1 7)) ∧ w'.cell? ⟨ad229.block, ad229.off + 4, none⟩ = some (.int .u32 (rd x7_1 4)) ∧ w'.cell? ⟨ad229.block, ad229.off + 5, none⟩ = some (.int .u32 (rd x7_1 5)) ∧ w'.cell? ⟨ad229.block, ad229.off + 4, none⟩ = some (.int .u32 (rd x7_1 4)) ∧ w'.cell? ⟨ad229.block, ad229.off + 6, none⟩ = some (.int .u32 (rd x7_1 6)) ∧ w'.cell? (ad240.add (x8_1).toNat) = some (.int .u32 (rd t220 x8_1)) ∧ w'.cell? (ad241.add (x8_1).toNat) = some (.int .u32 (rd t217 x8_1))) (ds := []) #[false, false, false, false, false, false, false, false, false, false, false, false, false, false, false, false, false, false, false, false, false, false, false, false, false, false, false, false, false, false, false, false, false] (by kernel_rfl) rfl rfl ⟨hx235_0, hx236_0, hx237_0, hx238_0, hx239_0, hx240_0, hx241_0⟩ (fun hHeld => ?_); refine with_tabW agoraref03_next.tab8 agoraref03_next.bits8 (fun HT_ HW_ => ?_)
                                generalize w29.drew = w31 at HO_5 HO_6 HO_7 HB hx235_0 hx236_0 hx237_0 hx238_0 hx239_0 hx240_0 hx241_0 hHeld ⊢
                                refine pure_ (i := 0) (N := some 38) (v := ?_) (a' := ?_) #[true, false, false, false, false, false, false, false, false, false, false, false, false, false, false, false, false, false, false, false, false, false, false, false, false, false, false, false, false, false, false, false, false] rfl rfl (any_of HT_.out (by kernel_rfl)) (fun _ _ _ h => h) (Or.inl ⟨by rfl, ?_⟩) ?_ ?_
                                rotate_left
                                · intro w'
                                  go_simp
                                  with_reducible rfl
                                rotate_left
                                · simp only [Act.put, List.setIfInBounds_toArray, List.set_cons_zero, List.set_cons_succ, i64_w, i32_w]
                                  rfl
                                refine pure_ (i := 1) (N := some 39) (v := ?_) (a' := ?_) #[true, true, false, false, false, false, false, false, false, false, false, false, false, false, false, false, false, false, false, false, false, false, false, false, false, false, false, false, false, false, false, false, false] rfl rfl (any_of HT_.out (by kernel_rfl)) (fun _ _ _ h => h) (Or.inl ⟨by rfl, ?_⟩) ?_ ?_
                                rotate_left
                                · intro w'
                                  go_simp
                                  with_reducible rfl
                                rotate_left
                                · simp only [Act.put, List.setIfInBounds_toArray, List.set_cons_zero, List.set_cons_succ, i64_w, i32_w]
                                  rfl
                                refine pure_ (i := 3) (N := some 41) (v := ?_) (a' := ?_) #[true, true, false, true, false, false, false, false, false, false, false, false, false, false, false, false, false, false, false, false, false, false, false, false, false, false, false, false, false, false, false, false, false] rfl rfl (any_of HT_.out (by kernel_rfl)) (fun _ _ _ h => h) (Or.inl ⟨by rfl, ?_⟩) ?_ ?_
                                rotate_left
                                · intro w'
                                  go_simp
                                  with_reducible rfl
                                rotate_left
                                · simp only [Act.put, List.setIfInBounds_toArray, List.set_cons_zero, List.set_cons_succ, i64_w, i32_w]
                                  rfl
                                refine pure_ (i := 5) (N := some 43) (v := ?_) (a' := ?_) #[true, true, false, true, false, true, false, false, false, false, false, false, false, false, false, false, false, false, false, false, false, false, false, false, false, false, false, false, false, false, false, false, false] rfl rfl (any_of HT_.out (by kernel_rfl)) (fun _ _ _ h => h) (Or.inl ⟨by rfl, ?_⟩) ?_ ?_
                                rotate_left
                                · intro w'
                                  go_simp
                                  with_reducible rfl
                                rotate_left
                                · simp only [Act.put, List.setIfInBounds_toArray, List.set_cons_zero, List.set_cons_succ, i64_w, i32_w]
                                  rfl
                                refine pure_ (i := 6) (N := some 44) (v := ?_) (a' := ?_) #[true, true, false, true, false, true, true, false, false, false, false, false, false, false, false, false, false, false, false, false, false, false, false, false, false, false, false, false, false, false, false, false, false] rfl rfl (any_of HT_.out (by kernel_rfl)) (fun _ _ _ h => h) (Or.inl ⟨by rfl, ?_⟩) ?_ ?_
                                rotate_left
                                · intro w'
                                  go_simp
                                  with_reducible rfl
                                rotate_left
                                · simp only [Act.put, List.setIfInBounds_toArray, List.set_cons_zero, List.set_cons_succ, i64_w, i32_w]
                                  rfl
                                refine pure_ (i := 8) (N := some 46) (v := ?_) (a' := ?_) #[true, true, false, true, false, true, true, false, true, false, false, false, false, false, false, false, false, false, false, false, false, false, false, false, false, false, false, false, false, false, false, false, false] rfl rfl (any_of HT_.out (by kernel_rfl)) (fun _ _ _ h => h) (Or.inl ⟨by rfl, ?_⟩) ?_ ?_
                                rotate_left
                                · intro w'
                                  go_simp
                                  with_reducible rfl
                                rotate_left
                                · simp only [Act.put, List.setIfInBounds_toArray, List.set_cons_zero, List.set_cons_succ, i64_w, i32_w]
                                  rfl
                                refine pure_ (i := 9) (N := some 47) (v := ?_) (a' := ?_) #[true, true, false, true, false, true, true, false, true, true, false, false, false, false, false, false, false, false, false, false, false, false, false, false, false, false, false, false, false, false, false, false, false] rfl rfl (any_of HT_.out (by kernel_rfl)) (fun _ _ _ h => h) (Or.inl ⟨by rfl, ?_⟩) ?_ ?_
                                rotate_left
                                · intro w'
                                  go_simp
                                  with_reducible rfl
                                rotate_left
                                · simp only [Act.put, List.setIfInBounds_toArray, List.set_cons_zero, List.set_cons_succ, i64_w, i32_w]
                                  rfl
                                refine pure_ (i := 12) (N := some 50) (v := ?_) (a' := ?_) #[true, true, false, true, false, true, true, false, true, true, false, false, true, false, false, false, false, false, false, false, false, false, false, false, false, false, false, false, false, false, false, false, false] rfl rfl (any_of HT_.out (by kernel_rfl)) (fun _ _ _ h => h) (Or.inl ⟨by rfl, ?_⟩) ?_ ?_
                                rotate_left
                                · intro w'
                                  go_simp
                                  with_reducible rfl
                                rotate_left
                                · simp only [Act.put, List.setIfInBounds_toArray, List.set_cons_zero, List.set_cons_succ, i64_w, i32_w]
                                  rfl
                                refine pure_ (i := 13) (N := some 51) (v := ?_) (a' := ?_) #[true, true, false, true, false, true, true, false, true, true, false, false, true, true, false, false, false, false, false, false, false, false, false, false, false, false, false, false, false, false, false, false, false] rfl rfl (any_of HT_.out (by kernel_rfl)) (fun _ _ _ h => h) (Or.inl ⟨by rfl, ?_⟩) ?_ ?_
                                rotate_left
                                · intro w'
                                  go_simp
                                  with_reducible rfl
                                rotate_left
                                · simp only [Act.put, List.setIfInBounds_toArray, List.set_cons_zero, List.set_cons_succ, i64_w, i32_w]
                                  rfl
                                refine pure_ (i := 16) (N := some 54) (v := ?_) (a' := ?_) #[true, true, false, true, false, true, true, false, true, true, false, false, true, true, false, false, true, false, false, false, false, false, false, false, false, false, false, false, false, false, false, false, false] rfl rfl (any_of HT_.out (by kernel_rfl)) (fun _ _ _ h => h) (Or.inl ⟨by rfl, ?_⟩) ?_ ?_
                                rotate_left
                                · intro w'
                                  go_simp
                                  with_reducible rfl
                                rotate_left
                                · simp only [Act.put, List.setIfInBounds_toArray, List.set_cons_zero, List.set_cons_succ, i64_w, i32_w]
                                  rfl
                                refine pure_ (i := 17) (N := some 55) (v := ?_) (a' := ?_) #[true, true, false, true, false, true, true, false, true, true, false, false, true, true, false, false, true, true, false, false, false, false, false, false, false, false, false, false, false, false, false, false, false] rfl rfl (any_of HT_.out (by kernel_rfl)) (fun _ _ _ h => h) (Or.inl ⟨by rfl, ?_⟩) ?_ ?_
                                rotate_left
                                · intro w'
                                  go_simp
                                  with_reducible rfl
                                rotate_left
                                · simp only [Act.put, List.setIfInBounds_toArray, List.set_cons_zero, List.set_cons_succ, i64_w, i32_w]
                                  rfl
                                refine pure_ (i := 22) (N := some 60) (v := ?_) (a' := ?_) #[true, true, false, true, false, true, true, false, true, true, false, false, true, true, false, false, true, true, false, false, false, false, true, false, false, false, false, false, false, false, false, false, false] rfl rfl (any_of HT_.out (by kernel_rfl)) (fun _ _ _ h => h) (Or.inl ⟨by rfl, ?_⟩) ?_ ?_
                                rotate_left
                                · intro w'
                                  go_simp
                                  with_reducible rfl
                                rotate_left
                                · simp only [Act.put, List.setIfInBounds_toArray, List.set_cons_zero, List.set_cons_succ, i64_w, i32_w]
                                  rfl
                                refine pure_ (i := 23) (N := some 61) (v := ?_) (a' := ?_) #[true, true, false, true, false, true, true, false, true, true, false, false, true, true, false, false, true, true, false, false, false, false, true, true, false, false, false, false, false, false, false, false, false] rfl rfl (any_of HT_.out (by kernel_rfl)) (fun _ _ _ h => h) (Or.inl ⟨by rfl, ?_⟩) ?_ ?_
                                rotate_left
                                · intro w'
                                  go_simp
                                  with_reducible rfl
                                rotate_left
                                · simp only [Act.put, List.setIfInBounds_toArray, List.set_cons_zero, List.set_cons_succ, i64_w, i32_w]
                                  rfl
                                refine pure_ (i := 24) (N := some 62) (v := ?_) (a' := ?_) #[true, true, false, true, false, true, true, false, true, true, false, false, true, true, false, false, true, true, false, false, false, false, true, true, true, false, false, false, false, false, false, false, false] rfl rfl (any_of HT_.out (by kernel_rfl)) (fun _ _ _ h => h) (Or.inl ⟨by rfl, ?_⟩) ?_ ?_
                                rotate_left
                                · intro w'
                                  go_simp
                                  with_reducible rfl
                                rotate_left
                                · simp only [Act.put, List.setIfInBounds_toArray, List.set_cons_zero, List.set_cons_succ, i64_w, i32_w]
                                  rfl
                                refine pure_ (i := 27) (N := some 65) (v := ?_) (a' := ?_) #[true, true, false, true, false, true, true, false, true, true, false, false, true, true, false, false, true, true, false, false, false, false, true, true, true, false, false, true, false, false, false, false, false] rfl rfl (any_of HT_.out (by kernel_rfl)) (fun _ _ _ h => h) (Or.inl ⟨by rfl, ?_⟩) ?_ ?_
                                rotate_left
                                · intro w'
                                  go_simp
                                  with_reducible rfl
                                rotate_left
                                · simp only [Act.put, List.setIfInBounds_toArray, List.set_cons_zero, List.set_cons_succ, i64_w, i32_w]
                                  rfl
                                refine pure_ (i := 28) (N := some 66) (v := ?_) (a' := ?_) #[true, true, false, true, false, true, true, false, true, true, false, false, true, true, false, false, true, true, false, false, false, false, true, true, true, false, false, true, true, false, false, false, false] rfl rfl (any_of HT_.out (by kernel_rfl)) (fun _ _ _ h => h) (Or.inl ⟨by rfl, ?_⟩) ?_ ?_
                                rotate_left
                                · intro w'
                                  go_simp
                                  with_reducible rfl
                                rotate_left
                                · simp only [Act.put, List.setIfInBounds_toArray, List.set_cons_zero, List.set_cons_succ, i64_w, i32_w]
                                  rfl
                                refine pure_ (i := 29) (N := some 67) (v := ?_) (a' := ?_) #[true, true, false, true, false, true, true, false, true, true, false, false, true, true, false, false, true, true, false, false, false, false, true, true, true, false, false, true, true, true, false, false, false] rfl rfl (any_of HT_.out (by kernel_rfl)) (fun _ _ _ h => h) (Or.inl ⟨by rfl, ?_⟩) ?_ ?_
                                rotate_left
                                · intro w'
                                  go_simp
                                  with_reducible rfl
                                rotate_left
                                · simp only [Act.put, List.setIfInBounds_toArray, List.set_cons_zero, List.set_cons_succ, i64_w, i32_w]
                                  rfl
                                refine take_ (i := 2) (N := some 40) (v := ?_) (a' := ?_) #[true, true, true, true, false, true, true, false, true, true, false, false, true, true, false, false, true, true, false, false, false, false, true, true, true, false, false, true, true, true, false, false, false] rfl rfl (take_ofW HT_.out HW_.out (by kernel_rfl)) (fun _ _ _ h => h) (Or.inl ⟨by rfl, ?_⟩) hHeld ?_ ?_
                                rotate_left
                                · rintro w' ⟨s0, s1, s2, s3, s4, s5, s6⟩
                                  go_simp
                                  with_reducible rfl
                                rotate_left
                                · simp only [Act.put, List.setIfInBounds_toArray, List.set_cons_zero, List.set_cons_succ, i64_w, i32_w]
                                  rfl
                                refine pure_ (i := 4) (N := some 42) (v := ?_) (a' := ?_) #[true, true, true, true, true, true, true, false, true, true, false, false, true, true, false, false, true, true, false, false, false, false, true, true, true, false, false, true, true, true, false, false, false] rfl rfl (any_of HT_.out (by kernel_rfl)) (fun _ _ _ h => h) (Or.inl ⟨by rfl, ?_⟩) ?_ ?_
                                rotate_left
                                · intro w'
                                  go_simp
                                  with_reducible rfl
                                rotate_left
                                · simp only [Act.put, List.setIfInBounds_toArray, List.set_cons_zero, List.set_cons_succ, i64_w, i32_w]
                                  rfl
                                refine take_ (i := 7) (N := some 45) (v := ?_) (a' := ?_) #[true, true, true, true, true, true, true, true, true, true, false, false, true, true, false, false, true, true, false, false, false, false, true, true, true, false, false, true, true, true, false, false, false] rfl rfl (take_ofW HT_.out HW_.out (by kernel_rfl)) (fun _ _ _ h => h) (Or.inl ⟨by rfl, ?_⟩) hHeld ?_ ?_
                                rotate_left
                                · rintro w' ⟨s0, s1, s2, s3, s4, s5, s6⟩
                                  go_simp
                                  with_reducible rfl
                                rotate_left
                                · simp only [Act.put, List.setIfInBounds_toArray, List.set_cons_zero, List.set_cons_succ, i64_w, i32_w]
                                  rfl
                                refine take_ (i := 10) (N := some 48) (v := ?_) (a' := ?_) #[true, true, true, true, true, true, true, true, true, true, true, false, true, true, false, false, true, true, false, false, false, false, true, true, true, false, false, true, true, true, false, false, false] rfl rfl (take_ofW HT_.out HW_.out (by kernel_rfl)) (fun _ _ _ h => h) (Or.inl ⟨by rfl, ?_⟩) hHeld ?_ ?_
                                rotate_left
                                · rintro w' ⟨s0, s1, s2, s3, s4, s5, s6⟩
                                  go_simp
                                  with_reducible rfl
                                rotate_left
                                · simp only [Act.put, List.setIfInBounds_toArray, List.set_cons_zero, List.set_cons_succ, i64_w, i32_w]
                                  rfl
                                refine pure_ (i := 11) (N := some 49) (v := ?_) (a' := ?_) #[true, true, true, true, true, true, true, true, true, true, true, true, true, true, false, false, true, true, false, false, false, false, true, true, true, false, false, true, true, true, false, false, false] rfl rfl (any_of HT_.out (by kernel_rfl)) (fun _ _ _ h => h) (Or.inl ⟨by rfl, ?_⟩) ?_ ?_
                                rotate_left
                                · intro w'
                                  go_simp
                                  with_reducible rfl
                                rotate_left
                                · simp only [Act.put, List.setIfInBounds_toArray, List.set_cons_zero, List.set_cons_succ, i64_w, i32_w]
                                  rfl
                                refine take_ (i := 14) (N := some 52) (v := ?_) (a' := ?_) #[true, true, true, true, true, true, true, true, true, true, true, true, true, true, true, false, true, true, false, false, false, false, true, true, true, false, false, true, true, true, false, false, false] rfl rfl (take_ofW HT_.out HW_.out (by kernel_rfl)) (fun _ _ _ h => h) (Or.inl ⟨by rfl, ?_⟩) hHeld ?_ ?_
                                rotate_left
                                · rintro w' ⟨s0, s1, s2, s3, s4, s5, s6⟩
                                  go_simp
                                  with_reducible rfl
                                rotate_left
                                · simp only [Act.put, List.setIfInBounds_toArray, List.set_cons_zero, List.set_cons_succ, i64_w, i32_w]
                                  rfl
                                refine pure_ (i := 15) (N := some 53) (v := ?_) (a' := ?_) #[true, true, true, true, true, true, true, true, true, true, true, true, true, true, true, true, true, true, false, false, false, false, true, true, true, false, false, true, true, true, false, false, false] rfl rfl (any_of HT_.out (by kernel_rfl)) (fun _ _ _ h => h) (Or.inl ⟨by rfl, ?_⟩) ?_ ?_
                                rotate_left
                                · intro w'
                                  go_simp
                                  with_reducible rfl
                                rotate_left
                                · simp only [Act.put, List.setIfInBounds_toArray, List.set_cons_zero, List.set_cons_succ, i64_w, i32_w]
                                  rfl
                                refine take_ (i := 18) (N := some 56) (v := ?_) (a' := ?_) #[true, true, true, true, true, true, true, true, true, true, true, true, true, true, true, true, true, true, true, false, false, false, true, true, true, false, false, true, true, true, false, false, false] rfl rfl (take_ofW HT_.out HW_.out (by kernel_rfl)) (fun _ _ _ h => h) (Or.inl ⟨by rfl, ?_⟩) hHeld ?_ ?_
                                rotate_left
                                · rintro w' ⟨s0, s1, s2, s3, s4, s5, s6⟩
                                  go_simp
                                  with_reducible rfl
                                rotate_left
                                · simp only [Act.put, List.setIfInBounds_toArray, List.set_cons_zero, List.set_cons_succ, i64_w, i32_w]
                                  rfl
                                refine pure_ (i := 19) (N := some 57) (v := ?_) (a' := ?_) #[true, true, true, true, true, true, true, true, true, true, true, true, true, true, true, true, true, true, true, true, false, false, true, true, true, false, false, true, true, true, false, false, false] rfl rfl (any_of HT_.out (by kernel_rfl)) (fun _ _ _ h => h) (Or.inl ⟨by rfl, ?_⟩) ?_ ?_
                                rotate_left
                                · intro w'
                                  go_simp
                                  with_reducible rfl
                                rotate_left
                                · simp only [Act.put, List.setIfInBounds_toArray, List.set_cons_zero, List.set_cons_succ, i64_w, i32_w]
                                  rfl
                                refine pure_ (i := 20) (N := some 58) (v := ?_) (a' := ?_) #[true, true, true, true, true, true, true, true, true, true, true, true, true, true, true, true, true, true, true, true, true, false, true, true, true, false, false, true, true, true, false, false, false] rfl rfl (any_of HT_.out (by kernel_rfl)) (fun _ _ _ h => h) (Or.inl ⟨by rfl, ?_⟩) ?_ ?_
                                rotate_left
                                · intro w'
                                  go_simp
                                  with_reducible rfl
                                rotate_left
                                · simp only [Act.put, List.setIfInBounds_toArray, List.set_cons_zero, List.set_cons_succ, i64_w, i32_w]
                                  rfl
                                refine pure_ (i := 21) (N := some 59) (v := ?_) (a' := ?_) #[true, true, true, true, true, true, true, true, true, true, true, true, true, true, true, true, true, true, true, true, true, true, true, true, true, false, false, true, true, true, false, false, false] rfl rfl (any_of HT_.out (by kernel_rfl)) (fun _ _ _ h => h) (Or.inl ⟨by rfl, ?_⟩) ?_ ?_
                                rotate_left
                                · intro w'
                                  go_simp
                                  with_reducible rfl
                                rotate_left
                                · simp only [Act.put, List.setIfInBounds_toArray, List.set_cons_zero, List.set_cons_succ, i64_w, i32_w]
                                  rfl
                                refine take_ (i := 25) (N := some 63) (v := ?_) (a' := ?_) #[true, true, true, true, true, true, true, true, true, true, true, true, true, true, true, true, true, true, true, true, true, true, true, true, true, true, false, true, true, true, false, false, false] rfl rfl (take_ofW HT_.out HW_.out (by kernel_rfl)) (fun _ _ _ h => h) (Or.inl ⟨by rfl, ?_⟩) hHeld ?_ ?_
                                rotate_left
                                · rintro w' ⟨s0, s1, s2, s3, s4, s5, s6⟩
                                  go_simp
                                  with_reducible rfl
                                rotate_left
                                · simp only [Act.put, List.setIfInBounds_toArray, List.set_cons_zero, List.set_cons_succ, i64_w, i32_w]
                                  rfl
                                refine pure_ (i := 26) (N := some 64) (v := ?_) (a' := ?_) #[true, true, true, true, true, true, true, true, true, true, true, true, true, true, true, true, true, true, true, true, true, true, true, true, true, true, true, true, true, true, false, false, false] rfl rfl (any_of HT_.out (by kernel_rfl)) (fun _ _ _ h => h) (Or.inl ⟨by rfl, ?_⟩) ?_ ?_
                                rotate_left
                                · intro w'
                                  go_simp
                                  with_reducible rfl
                                rotate_left
                                · simp only [Act.put, List.setIfInBounds_toArray, List.set_cons_zero, List.set_cons_succ, i64_w, i32_w]
                                  rfl
                                refine take_ (i := 30) (N := some 68) (v := ?_) (a' := ?_) #[true, true, true, true, true, true, true, true, true, true, true, true, true, true, true, true, true, true, true, true, true, true, true, true, true, true, true, true, true, true, true, false, false] rfl rfl (take_ofW HT_.out HW_.out (by kernel_rfl)) (fun _ _ _ h => h) (Or.inl ⟨by rfl, ?_⟩) hHeld ?_ ?_
                                rotate_left
                                · rintro w' ⟨s0, s1, s2, s3, s4, s5, s6⟩
                                  go_simp
                                  with_reducible rfl
                                rotate_left
                                · simp only [Act.put, List.setIfInBounds_toArray, List.set_cons_zero, List.set_cons_succ, i64_w, i32_w]
                                  rfl
                                refine pure_ (i := 31) (N := some 69) (v := ?_) (a' := ?_) #[true, true, true, true, true, true, true, true, true, true, true, true, true, true, true, true, true, true, true, true, true, true, true, true, true, true, true, true, true, true, true, true, false] rfl rfl (any_of HT_.out (by kernel_rfl)) (fun _ _ _ h => h) (Or.inl ⟨by rfl, ?_⟩) ?_ ?_
                                rotate_left
                                · intro w'
                                  go_simp
                                  with_reducible rfl
                                rotate_left
                                · simp only [Act.put, List.setIfInBounds_toArray, List.set_cons_zero, List.set_cons_succ, i64_w, i32_w]
                                  rfl
                                refine pure_ (i := 32) (N := some 10) (v := ?_) (a' := ?_) #[true, true, true, true, true, true, true, true, true, true, true, true, true, true, true, true, true, true, true, true, true, true, true, true, true, true, true, true, true, true, true, true, true] rfl rfl (any_of HT_.out (by kernel_rfl)) (fun _ _ _ h => h) (Or.inl ⟨by rfl, ?_⟩) ?_ ?_
                                rotate_left
                                · intro w'
                                  go_simp
                                  with_reducible rfl
                                rotate_left
                                · simp only [Act.put, List.setIfInBounds_toArray, List.set_cons_zero, List.set_cons_succ, i64_w, i32_w]
                                  rfl
                                refine done_ (done_of HT_.out (by kernel_rfl)) ?_
                                try go_wp2
                                have n0_ := Aside0.mk (Kd.R_drew HO_5.out)
                                have n1_ := Aside0.mk (Kd.R_drew HO_6.out)
                                have n2_ := Aside0.mk (Kd.R_drew HO_7.out)
                                have n3_ := Aside0.mk (below_drew1 HB.out)
                                clear HO_5
                                clear HO_6
                                clear HO_7
                                clear HB
                                have HO_5 := n0_
                                have HO_6 := n1_
                                have HO_7 := n2_
                                have HB := n3_
                                clear n0_ n1_ n2_ n3_
                                have p242 : 0 ≤ (0 : Int) := (by omega)
                                have q242 : 0 < (x7_1.length : Int) := of_decide_eq_true (by first | (with_reducible assumption) | assumption)
                                obtain ⟨ad242, e242, hx242_0⟩ := Kd.at_int (Kd.R_reads' HO_7.out).2.2 0 p242 q242
                                obtain rfl : ad229 = ad242 := (by injection e242)
                                have qi242 : (0 < x7_1.length) = True := eq_true (by omega)
                                (try rw [show ((0 : Int)).toNat = 0 from rfl] at hx242_0)
                                (try rw [Addr.add_zero'] at hx242_0)
                                replace p242 := eq_true p242
                                replace q242 := eq_true q242
                                have p244 : 0 ≤ (0 : Int) := (by omega)
                                have q244 : 0 < (x7_1.length : Int) := of_decide_eq_true (by first | (with_reducible assumption) | assumption)
                                obtain ⟨ad244, e244, hx244_0⟩ := Kd.at_int (Kd.R_reads' HO_7.out).2.2 0 p244 q244
                                obtain rfl : ad229 = ad244 := (by injection e244)
                                have qi244 : (0 < x7_1.length) = True := eq_true (by omega)
                                (try rw [show ((0 : Int)).toNat = 0 from rfl] at hx244_0)
                                (try rw [Addr.add_zero'] at hx244_0)
                                replace p244 := eq_true p244
                                replace q244 := eq_true q244
                                have p246 : 0 ≤ (0 : Int) := (by omega)
                                have q246 : 0 < (x7_1.length : Int) := of_decide_eq_true (by first | (with_reducible assumption) | assumption)
                                obtain ⟨ad246, e246, hx246_0⟩ := Kd.at_int (Kd.R_reads' HO_7.out).2.2 0 p246 q246
                                obtain rfl : ad229 = ad246 := (by injection e246)
                                have qi246 : (0 < x7_1.length) = True := eq_true (by omega)
                                (try rw [show ((0 : Int)).toNat = 0 from rfl] at hx246_0)
                                (try rw [Addr.add_zero'] at hx246_0)
                                replace p246 := eq_true p246
                                replace q246 := eq_true q246
                                refine start_ (n := 15) (S := fun w' => w'.cell? ad229 = some (.int .u32 (rd x7_1 0)) ∧ w'.cell? ad229 = some (.int .u32 (rd x7_1 0)) ∧ w'.cell? ad229 = some (.int .u32 (rd x7_1 0))) (ds := []) #[false, false, false, false, false, false, false, false, false, false, false, false, false, false, false] (by kernel_rfl) rfl rfl ⟨hx242_0, hx244_0, hx246_0⟩ (fun hHeld => ?_); refine with_tabW agoraref03_next.tab9 agoraref03_next.bits9 (fun HT_ HW_ => ?_)
                                generalize w31.drew = w34 at HO_5 HO_6 HO_7 HB hx242_0 hx244_0 hx246_0 hHeld ⊢
                                refine pure_ (i := 0) (N := some 70) (v := ?_) (a' := ?_) #[true, false, false, false, false, false, false, false, false, false, false, false, false, false, false] rfl rfl (any_of HT_.out (by kernel_rfl)) (fun _ _ _ h => h) (Or.inl ⟨by rfl, ?_⟩) ?_ ?_
                                rotate_left
                                · intro w'
                                  go_simp
                                  with_reducible rfl
                                rotate_left
                                · simp only [Act.put, List.setIfInBounds_toArray, List.set_cons_zero, List.set_cons_succ, i64_w, i32_w]
                                  rfl
                                refine pure_ (i := 1) (N := some 71) (v := ?_) (a' := ?_) #[true, true, false, false, false, false, false, false, false, false, false, false, false, false, false] rfl rfl (any_of HT_.out (by kernel_rfl)) (fun _ _ _ h => h) (Or.inl ⟨by rfl, ?_⟩) ?_ ?_
                                rotate_left
                                · intro w'
                                  go_simp
                                  with_reducible rfl
                                rotate_left
                                · simp only [Act.put, List.setIfInBounds_toArray, List.set_cons_zero, List.set_cons_succ, i64_w, i32_w]
                                  rfl
                                refine pure_ (i := 4) (N := some 74) (v := ?_) (a' := ?_) #[true, true, false, false, true, false, false, false, false, false, false, false, false, false, false] rfl rfl (any_of HT_.out (by kernel_rfl)) (fun _ _ _ h => h) (Or.inl ⟨by rfl, ?_⟩) ?_ ?_
                                rotate_left
                                · intro w'
                                  go_simp
                                  with_reducible rfl
                                rotate_left
                                · simp only [Act.put, List.setIfInBounds_toArray, List.set_cons_zero, List.set_cons_succ, i64_w, i32_w]
                                  rfl
                                refine pure_ (i := 5) (N := some 75) (v := ?_) (a' := ?_) #[true, true, false, false, true, true, false, false, false, false, false, false, false, false, false] rfl rfl (any_of HT_.out (by kernel_rfl)) (fun _ _ _ h => h) (Or.inl ⟨by rfl, ?_⟩) ?_ ?_
                                rotate_left
                                · intro w'
                                  go_simp
                                  with_reducible rfl
                                rotate_left
                                · simp only [Act.put, List.setIfInBounds_toArray, List.set_cons_zero, List.set_cons_succ, i64_w, i32_w]
                                  rfl
                                refine pure_ (i := 9) (N := some 79) (v := ?_) (a' := ?_) #[true, true, false, false, true, true, false, false, false, true, false, false, false, false, false] rfl rfl (any_of HT_.out (by kernel_rfl)) (fun _ _ _ h => h) (Or.inl ⟨by rfl, ?_⟩) ?_ ?_
                                rotate_left
                                · intro w'
                                  go_simp
                                  with_reducible rfl
                                rotate_left
                                · simp only [Act.put, List.setIfInBounds_toArray, List.set_cons_zero, List.set_cons_succ, i64_w, i32_w]
                                  rfl
                                refine pure_ (i := 10) (N := some 80) (v := ?_) (a' := ?_) #[true, true, false, false, true, true, false, false, false, true, true, false, false, false, false] rfl rfl (any_of HT_.out (by kernel_rfl)) (fun _ _ _ h => h) (Or.inl ⟨by rfl, ?_⟩) ?_ ?_
                                rotate_left
                                · intro w'
                                  go_simp
                                  with_reducible rfl
                                rotate_left
                                · simp only [Act.put, List.setIfInBounds_toArray, List.set_cons_zero, List.set_cons_succ, i64_w, i32_w]
                                  rfl
                                refine take_ (i := 2) (N := some 72) (v := ?_) (a' := ?_) #[true, true, true, false, true, true, false, false, false, true, true, false, false, false, false] rfl rfl (take_ofW HT_.out HW_.out (by kernel_rfl)) (fun _ _ _ h => h) (Or.inl ⟨by rfl, ?_⟩) hHeld ?_ ?_
                                rotate_left
                                · rintro w' ⟨s0, s1, s2⟩
                                  go_simp
                                  with_reducible rfl
                                rotate_left
                                · simp only [Act.put, List.setIfInBounds_toArray, List.set_cons_zero, List.set_cons_succ, i64_w, i32_w]
                                  rfl
                                refine take_ (i := 6) (N := some 76) (v := ?_) (a' := ?_) #[true, true, true, false, true, true, true, false, false, true, true, false, false, false, false] rfl rfl (take_ofW HT_.out HW_.out (by kernel_rfl)) (fun _ _ _ h => h) (Or.inl ⟨by rfl, ?_⟩) hHeld ?_ ?_
                                rotate_left
                                · rintro w' ⟨s0, s1, s2⟩
                                  go_simp
                                  with_reducible rfl
                                rotate_left
                                · simp only [Act.put, List.setIfInBounds_toArray, List.set_cons_zero, List.set_cons_succ, i64_w, i32_w]
                                  rfl
                                refine take_ (i := 11) (N := some 81) (v := ?_) (a' := ?_) #[true, true, true, false, true, true, true, false, false, true, true, true, false, false, false] rfl rfl (take_ofW HT_.out HW_.out (by kernel_rfl)) (fun _ _ _ h => h) (Or.inl ⟨by rfl, ?_⟩) hHeld ?_ ?_
                                rotate_left
                                · rintro w' ⟨s0, s1, s2⟩
                                  go_simp
                                  with_reducible rfl
                                rotate_left
                                · simp only [Act.put, List.setIfInBounds_toArray, List.set_cons_zero, List.set_cons_succ, i64_w, i32_w]
                                  rfl
                                refine one_ (i := 3) (N := some 73) #[true, true, true, true, true, true, true, false, false, true, true, true, false, false, false] rfl rfl (one_of HT_.out (by kernel_rfl)) (by decide) (fun K hK => ?_)
                                refine goes_ Try.func67 (by kernel_rfl) rfl #[.int .u32 (rd x7_1 0), .int .i64 2] (by rfl) rfl rfl (by (try simp only [List.map_toArray, List.map_cons, List.map_nil]); first | done | rfl | (simp only [List.length_drop, List.length_take]; rfl)) ?_
                                with_reducible refine (agoraref03_turn.calls (rd x7_1 0) 2 t243 _ A23.out).mono ?_
                                rintro e w' ⟨rfl, ⟨nd, rfl⟩⟩
                                refine ⟨_, rfl, ?_⟩
                                refine hK.out _ _ ⟨hHeld.1, hHeld.2.1, hHeld.2.2⟩ (fun hHeld => ?_)
                                clear hK K
                                refine norm_ (a' := ?_) ?_ ?_
                                rotate_left
                                · show Act.put _ (some 73) _ = _
                                  simp only [Act.put, List.setIfInBounds_toArray, List.set_cons_zero, List.set_cons_succ, i64_w, i32_w]
                                  rfl
                                refine one_ (i := 7) (N := some 77) #[true, true, true, true, true, true, true, true, false, true, true, true, false, false, false] rfl rfl (one_of HT_.out (by kernel_rfl)) (by decide) (fun K hK => ?_)
                                refine goes_ Try.func67 (by kernel_rfl) rfl #[.int .u32 (rd x7_1 0), .int .i64 13] (by rfl) rfl rfl (by (try simp only [List.map_toArray, List.map_cons, List.map_nil]); first | done | rfl | (simp only [List.length_drop, List.length_take]; rfl)) ?_
                                with_reducible refine (agoraref03_turn.calls (rd x7_1 0) 13 t245 _ A24.out).mono ?_
                                rintro e w' ⟨rfl, ⟨nd, rfl⟩⟩
                                refine ⟨_, rfl, ?_⟩
                                refine hK.out _ _ ⟨hHeld.1, hHeld.2.1, hHeld.2.2⟩ (fun hHeld => ?_)
                                clear hK K
                                refine norm_ (a' := ?_) ?_ ?_
                                rotate_left
                                · show Act.put _ (some 77) _ = _
                                  simp only [Act.put, List.setIfInBounds_toArray, List.set_cons_zero, List.set_cons_succ, i64_w, i32_w]
                                  rfl
                                refine pure_ (i := 8) (N := some 78) (v := ?_) (a' := ?_) #[true, true, true, true, true, true, true, true, true, true, true, true, false, false, false] rfl rfl (any_of HT_.out (by kernel_rfl)) (fun _ _ _ h => h) (Or.inl ⟨by rfl, ?_⟩) ?_ ?_
                                rotate_left
                                · intro w'
                                  go_simp
                                  with_reducible rfl
                                rotate_left
                                · simp only [Act.put, List.setIfInBounds_toArray, List.set_cons_zero, List.set_cons_succ, i64_w, i32_w]
                                  rfl
                                refine one_ (i := 12) (N := some 82) #[true, true, true, true, true, true, true, true, true, true, true, true, true, false, false] rfl rfl (one_of HT_.out (by kernel_rfl)) (by decide) (fun K hK => ?_)
                                refine goes_ Try.func67 (by kernel_rfl) rfl #[.int .u32 (rd x7_1 0), .int .i64 22] (by rfl) rfl rfl (by (try simp only [List.map_toArray, List.map_cons, List.map_nil]); first | done | rfl | (simp only [List.length_drop, List.length_take]; rfl)) ?_
                                with_reducible refine (agoraref03_turn.calls (rd x7_1 0) 22 t247 _ A25.out).mono ?_
                                rintro e w' ⟨rfl, ⟨nd, rfl⟩⟩
                                refine ⟨_, rfl, ?_⟩
                                refine hK.out _ _ ⟨hHeld.1, hHeld.2.1, hHeld.2.2⟩ (fun hHeld => ?_)
                                clear hK K
                                refine norm_ (a' := ?_) ?_ ?_
                                rotate_left
                                · show Act.put _ (some 82) _ = _
                                  simp only [Act.put, List.setIfInBounds_toArray, List.set_cons_zero, List.set_cons_succ, i64_w, i32_w]
                                  rfl
                                refine pure_ (i := 13) (N := some 83) (v := ?_) (a' := ?_) #[true, true, true, true, true, true, true, true, true, true, true, true, true, true, false] rfl rfl (any_of HT_.out (by kernel_rfl)) (fun _ _ _ h => h) (Or.inl ⟨by rfl, ?_⟩) ?_ ?_
                                rotate_left
                                · intro w'
                                  go_simp
                                  with_reducible rfl
                                rotate_left
                                · simp only [Act.put, List.setIfInBounds_toArray, List.set_cons_zero, List.set_cons_succ, i64_w, i32_w]
                                  rfl
                                refine pure_ (i := 14) (N := some 11) (v := ?_) (a' := ?_) #[true, true, true, true, true, true, true, true, true, true, true, true, true, true, true] rfl rfl (any_of HT_.out (by kernel_rfl)) (fun _ _ _ h => h) (Or.inl ⟨by rfl, ?_⟩) ?_ ?_
                                rotate_left
                                · intro w'
                                  go_simp
                                  with_reducible rfl
                                rotate_left
                                · simp only [Act.put, List.setIfInBounds_toArray, List.set_cons_zero, List.set_cons_succ, i64_w, i32_w]
                                  rfl
                                refine done_ (done_of HT_.out (by kernel_rfl)) ?_
                                try go_wp2
                                (try simp only [World.drewN_drewN])
                                (try (rw [drewN_self w34]; generalize hq_ : World.drewN w34 _ = w34; have n0_ : Aside0 (Kd.R (Kd.int .u32) 54 w34 w.heap.size (fun k_ => some k_ ≠ (.slice (some ad240) t220.length co32 : Value).ownBlock ∧ some k_ ≠ (.slice (some ad229) x7_1.length co30 : Value).ownBlock) (.slice (some ad241) t217.length co33) t217) := ⟨by rw [← hq_]; exact (by (with_reducible repeat (first | apply Kd.R_alloc | apply Kd.R_drewN | apply Kd.R_drew)); exact HO_5.out)⟩; have n1_ : Aside0 (Kd.R (Kd.int .u32) 54 w34 w.heap.size (fun k_ => some k_ ≠ (.slice (some ad241) t217.length co33 : Value).ownBlock ∧ some k_ ≠ (.slice (some ad229) x7_1.length co30 : Value).ownBlock) (.slice (some ad240) t220.length co32) t220) := ⟨by rw [← hq_]; exact (by (with_reducible repeat (first | apply Kd.R_alloc | apply Kd.R_drewN | apply Kd.R_drew)); exact HO_6.out)⟩; have n2_ : Aside0 (Kd.R (Kd.int .u32) 54 w34 w.heap.size (fun k_ => some k_ ≠ (.slice (some ad241) t217.length co33 : Value).ownBlock ∧ some k_ ≠ (.slice (some ad240) t220.length co32 : Value).ownBlock) (.slice (some ad229) x7_1.length co30) x7_1) := ⟨by rw [← hq_]; exact (by (with_reducible repeat (first | apply Kd.R_alloc | apply Kd.R_drewN | apply Kd.R_drew)); exact HO_7.out)⟩; have n3_ : Aside0 (Below w.heap.size w w34) := ⟨by rw [← hq_]; exact (by repeat (first | (with_reducible first | exact HB.out | apply below_alloc | apply pw_below_drewN | apply below_drew1) | exact HB.out))⟩; clear HO_5 HO_6 HO_7 HB hq_; have HO_5 := n0_; have HO_6 := n1_; have HO_7 := n2_; have HB := n3_; clear n0_ n1_ n2_ n3_))
                                have n0_ := Aside0.mk (Kd.R_drew HO_5.out)
                                have n1_ := Aside0.mk (Kd.R_drew HO_6.out)
                                have n2_ := Aside0.mk (Kd.R_drew HO_7.out)
                                have n3_ := Aside0.mk (below_drew1 HB.out)
                                clear HO_5
                                clear HO_6
                                clear HO_7
                                clear HB
                                have HO_5 := n0_
                                have HO_6 := n1_
                                have HO_7 := n2_
                                have HB := n3_
                                clear n0_ n1_ n2_ n3_
                                have p248 : 0 ≤ (0 : Int) := (by omega)
                                have q248 : 0 < (x7_1.length : Int) := of_decide_eq_true (by first | (with_reducible assumption) | assumption)
                                obtain ⟨ad248, e248, hx248_0⟩ := Kd.at_int (Kd.R_reads' HO_7.out).2.2 0 p248 q248
                                obtain rfl : ad229 = ad248 := (by injection e248)
                                have qi248 : (0 < x7_1.length) = True := eq_true (by omega)
                                (try rw [show ((0 : Int)).toNat = 0 from rfl] at hx248_0)
                                (try rw [Addr.add_zero'] at hx248_0)
                                replace p248 := eq_true p248
                                replace q248 := eq_true q248
                                have p249 : 0 ≤ (1 : Int) := (by omega)
                                have q249 : 1 < (x7_1.length : Int) := of_decide_eq_true (by first | (with_reducible assumption) | assumption)
                                obtain ⟨ad249, e249, hx249_0⟩ := Kd.at_int (Kd.R_reads' HO_7.out).2.2 1 p249 q249
                                obtain rfl : ad229 = ad249 := (by injection e249)
                                (try simp only [show (1 : Int).toNat = 1 from rfl, Nat.reduceMul, Nat.reduceEqDiff, Go.Addr.add, ↓reduceIte] at hx249_0)
                                have qi249 : (1 < x7_1.length) = True := eq_true (by omega)
                                (try rw [show ((1 : Int)).toNat = 1 from rfl] at hx249_0)
                                replace p249 := eq_true p249
                                replace q249 := eq_true q249
                                have p250 : 0 ≤ (0 : Int) := (by omega)
                                have q250 : 0 < (x7_1.length : Int) := of_decide_eq_true (by first | (with_reducible assumption) | assumption)
                                obtain ⟨ad250, e250, hx250_0⟩ := Kd.at_int (Kd.R_reads' HO_7.out).2.2 0 p250 q250
                                obtain rfl : ad229 = ad250 := (by injection e250)
                                have qi250 : (0 < x7_1.length) = True := eq_true (by omega)
                                (try rw [show ((0 : Int)).toNat = 0 from rfl] at hx250_0)
                                (try rw [Addr.add_zero'] at hx250_0)
                                replace p250 := eq_true p250
                                replace q250 := eq_true q250
                                have p251 : 0 ≤ (2 : Int) := (by omega)
                                have q251 : 2 < (x7_1.length : Int) := of_decide_eq_true (by first | (with_reducible assumption) | assumption)
                                obtain ⟨ad251, e251, hx251_0⟩ := Kd.at_int (Kd.R_reads' HO_7.out).2.2 2 p251 q251
                                obtain rfl : ad229 = ad251 := (by injection e251)
                                (try simp only [show (2 : Int).toNat = 2 from rfl, Nat.reduceMul, Nat.reduceEqDiff, Go.Addr.add, ↓reduceIte] at hx251_0)
                                have qi251 : (2 < x7_1.length) = True := eq_true (by omega)
                                (try rw [show ((2 : Int)).toNat = 2 from rfl] at hx251_0)
                                replace p251 := eq_true p251
                                replace q251 := eq_true q251
                                have p252 : 0 ≤ (1 : Int) := (by omega)
                                have q252 : 1 < (x7_1.length : Int) := of_decide_eq_true (by first | (with_reducible assumption) | assumption)
                                obtain ⟨ad252, e252, hx252_0⟩ := Kd.at_int (Kd.R_reads' HO_7.out).2.2 1 p252 q252
                                obtain rfl : ad229 = ad252 := (by injection e252)
                                (try simp only [show (1 : Int).toNat = 1 from rfl, Nat.reduceMul, Nat.reduceEqDiff, Go.Addr.add, ↓reduceIte] at hx252_0)
                                have qi252 : (1 < x7_1.length) = True := eq_true (by omega)
                                (try rw [show ((1 : Int)).toNat = 1 from rfl] at hx252_0)
                                replace p252 := eq_true p252
                                replace q252 := eq_true q252
                                have p253 : 0 ≤ (2 : Int) := (by omega)
                                have q253 : 2 < (x7_1.length : Int) := of_decide_eq_true (by first | (with_reducible assumption) | assumption)
                                obtain ⟨ad253, e253, hx253_0⟩ := Kd.at_int (Kd.R_reads' HO_7.out).2.2 2 p253 q253
                                obtain rfl : ad229 = ad253 := (by injection e253)
                                (try simp only [show (2 : Int).toNat = 2 from rfl, Nat.reduceMul, Nat.reduceEqDiff, Go.Addr.add, ↓reduceIte] at hx253_0)
                                have qi253 : (2 < x7_1.length) = True := eq_true (by omega)
                                (try rw [show ((2 : Int)).toNat = 2 from rfl] at hx253_0)
                                replace p253 := eq_true p253
                                replace q253 := eq_true q253
                                refine start_ (n := 26) (S := fun w' => w'.cell? ad229 = some (.int .u32 (rd x7_1 0)) ∧ w'.cell? ⟨ad229.block, ad229.off + 1, none⟩ = some (.int .u32 (rd x7_1 1)) ∧ w'.cell? ad229 = some (.int .u32 (rd x7_1 0)) ∧ w'.cell? ⟨ad229.block, ad229.off + 2, none⟩ = some (.int .u32 (rd x7_1 2)) ∧ w'.cell? ⟨ad229.block, ad229.off + 1, none⟩ = some (.int .u32 (rd x7_1 1)) ∧ w'.cell? ⟨ad229.block, ad229.off + 2, none⟩ = some (.int .u32 (rd x7_1 2))) (ds := []) #[false, false, false, false, false, false, false, false, false, false, false, false, false, false, false, false, false, false, false, false, false, false, false, false, false, false] (by kernel_rfl) rfl rfl ⟨hx248_0, hx249_0, hx250_0, hx251_0, hx252_0, hx253_0⟩ (fun hHeld => ?_); refine with_tabW agoraref03_next.tab10 agoraref03_next.bits10 (fun HT_ HW_ => ?_)
                                generalize w34.drew = w35 at HO_5 HO_6 HO_7 HB hx248_0 hx249_0 hx250_0 hx251_0 hx252_0 hx253_0 hHeld ⊢
                                refine pure_ (i := 0) (N := some 84) (v := ?_) (a' := ?_) #[true, false, false, false, false, false, false, false, false, false, false, false, false, false, false, false, false, false, false, false, false, false, false, false, false, false] rfl rfl (any_of HT_.out (by kernel_rfl)) (fun _ _ _ h => h) (Or.inl ⟨by rfl, ?_⟩) ?_ ?_
                                rotate_left
                                · intro w'
                                  go_simp
                                  with_reducible rfl
                                rotate_left
                                · simp only [Act.put, List.setIfInBounds_toArray, List.set_cons_zero, List.set_cons_succ, i64_w, i32_w]
                                  rfl
                                refine pure_ (i := 1) (N := some 85) (v := ?_) (a' := ?_) #[true, true, false, false, false, false, false, false, false, false, false, false, false, false, false, false, false, false, false, false, false, false, false, false, false, false] rfl rfl (any_of HT_.out (by kernel_rfl)) (fun _ _ _ h => h) (Or.inl ⟨by rfl, ?_⟩) ?_ ?_
                                rotate_left
                                · intro w'
                                  go_simp
                                  with_reducible rfl
                                rotate_left
                                · simp only [Act.put, List.setIfInBounds_toArray, List.set_cons_zero, List.set_cons_succ, i64_w, i32_w]
                                  rfl
                                refine pure_ (i := 2) (N := some 86) (v := ?_) (a' := ?_) #[true, true, true, false, false, false, false, false, false, false, false, false, false, false, false, false, false, false, false, false, false, false, false, false, false, false] rfl rfl (any_of HT_.out (by kernel_rfl)) (fun _ _ _ h => h) (Or.inl ⟨by rfl, ?_⟩) ?_ ?_
                                rotate_left
                                · intro w'
                                  go_simp
                                  with_reducible rfl
                                rotate_left
                                · simp only [Act.put, List.setIfInBounds_toArray, List.set_cons_zero, List.set_cons_succ, i64_w, i32_w]
                                  rfl
                                refine pure_ (i := 4) (N := some 88) (v := ?_) (a' := ?_) #[true, true, true, false, true, false, false, false, false, false, false, false, false, false, false, false, false, false, false, false, false, false, false, false, false, false] rfl rfl (any_of HT_.out (by kernel_rfl)) (fun _ _ _ h => h) (Or.inl ⟨by rfl, ?_⟩) ?_ ?_
                                rotate_left
                                · intro w'
                                  go_simp
                                  with_reducible rfl
                                rotate_left
                                · simp only [Act.put, List.setIfInBounds_toArray, List.set_cons_zero, List.set_cons_succ, i64_w, i32_w]
                                  rfl
                                refine pure_ (i := 5) (N := some 89) (v := ?_) (a' := ?_) #[true, true, true, false, true, true, false, false, false, false, false, false, false, false, false, false, false, false, false, false, false, false, false, false, false, false] rfl rfl (any_of HT_.out (by kernel_rfl)) (fun _ _ _ h => h) (Or.inl ⟨by rfl, ?_⟩) ?_ ?_
                                rotate_left
                                · intro w'
                                  go_simp
                                  with_reducible rfl
                                rotate_left
                                · simp only [Act.put, List.setIfInBounds_toArray, List.set_cons_zero, List.set_cons_succ, i64_w, i32_w]
                                  rfl
                                refine pure_ (i := 8) (N := some 92) (v := ?_) (a' := ?_) #[true, true, true, false, true, true, false, false, true, false, false, false, false, false, false, false, false, false, false, false, false, false, false, false, false, false] rfl rfl (any_of HT_.out (by kernel_rfl)) (fun _ _ _ h => h) (Or.inl ⟨by rfl, ?_⟩) ?_ ?_
                                rotate_left
                                · intro w'
                                  go_simp
                                  with_reducible rfl
                                rotate_left
                                · simp only [Act.put, List.setIfInBounds_toArray, List.set_cons_zero, List.set_cons_succ, i64_w, i32_w]
                                  rfl
                                refine pure_ (i := 9) (N := some 93) (v := ?_) (a' := ?_) #[true, true, true, false, true, true, false, false, true, true, false, false, false, false, false, false, false, false, false, false, false, false, false, false, false, false] rfl rfl (any_of HT_.out (by kernel_rfl)) (fun _ _ _ h => h) (Or.inl ⟨by rfl, ?_⟩) ?_ ?_
                                rotate_left
                                · intro w'
                                  go_simp
                                  with_reducible rfl
                                rotate_left
                                · simp only [Act.put, List.setIfInBounds_toArray, List.set_cons_zero, List.set_cons_succ, i64_w, i32_w]
                                  rfl
                                refine pure_ (i := 11) (N := some 95) (v := ?_) (a' := ?_) #[true, true, true, false, true, true, false, false, true, true, false, true, false, false, false, false, false, false, false, false, false, false, false, false, false, false] rfl rfl (any_of HT_.out (by kernel_rfl)) (fun _ _ _ h => h) (Or.inl ⟨by rfl, ?_⟩) ?_ ?_
                                rotate_left
                                · intro w'
                                  go_simp
                                  with_reducible rfl
                                rotate_left
                                · simp only [Act.put, List.setIfInBounds_toArray, List.set_cons_zero, List.set_cons_succ, i64_w, i32_w]
                                  rfl
                                refine pure_ (i := 12) (N := some 96) (v := ?_) (a' := ?_) #[true, true, true, false, true, true, false, false, true, true, false, true, true, false, false, false, false, false, false, false, false, false, false, false, false, false] rfl rfl (any_of HT_.out (by kernel_rfl)) (fun _ _ _ h => h) (Or.inl ⟨by rfl, ?_⟩) ?_ ?_
                                rotate_left
                                · intro w'
                                  go_simp
                                  with_reducible rfl
                                rotate_left
                                · simp only [Act.put, List.setIfInBounds_toArray, List.set_cons_zero, List.set_cons_succ, i64_w, i32_w]
                                  rfl
                                refine pure_ (i := 16) (N := some 100) (v := ?_) (a' := ?_) #[true, true, true, false, true, true, false, false, true, true, false, true, true, false, false, false, true, false, false, false, false, false, false, false, false, false] rfl rfl (any_of HT_.out (by kernel_rfl)) (fun _ _ _ h => h) (Or.inl ⟨by rfl, ?_⟩) ?_ ?_
                                rotate_left
                                · intro w'
                                  go_simp
                                  with_reducible rfl
                                rotate_left
                                · simp only [Act.put, List.setIfInBounds_toArray, List.set_cons_zero, List.set_cons_succ, i64_w, i32_w]
                                  rfl
                                refine pure_ (i := 17) (N := some 101) (v := ?_) (a' := ?_) #[true, true, true, false, true, true, false, false, true, true, false, true, true, false, false, false, true, true, false, false, false, false, false, false, false, false] rfl rfl (any_of HT_.out (by kernel_rfl)) (fun _ _ _ h => h) (Or.inl ⟨by rfl, ?_⟩) ?_ ?_
                                rotate_left
                                · intro w'
                                  go_simp
                                  with_reducible rfl
                                rotate_left
                                · simp only [Act.put, List.setIfInBounds_toArray, List.set_cons_zero, List.set_cons_succ, i64_w, i32_w]
                                  rfl
                                refine pure_ (i := 19) (N := some 103) (v := ?_) (a' := ?_) #[true, true, true, false, true, true, false, false, true, true, false, true, true, false, false, false, true, true, false, true, false, false, false, false, false, false] rfl rfl (any_of HT_.out (by kernel_rfl)) (fun _ _ _ h => h) (Or.inl ⟨by rfl, ?_⟩) ?_ ?_
                                rotate_left
                                · intro w'
                                  go_simp
                                  with_reducible rfl
                                rotate_left
                                · simp only [Act.put, List.setIfInBounds_toArray, List.set_cons_zero, List.set_cons_succ, i64_w, i32_w]
                                  rfl
                                refine pure_ (i := 20) (N := some 104) (v := ?_) (a' := ?_) #[true, true, true, false, true, true, false, false, true, true, false, true, true, false, false, false, true, true, false, true, true, false, false, false, false, false] rfl rfl (any_of HT_.out (by kernel_rfl)) (fun _ _ _ h => h) (Or.inl ⟨by rfl, ?_⟩) ?_ ?_
                                rotate_left
                                · intro w'
                                  go_simp
                                  with_reducible rfl
                                rotate_left
                                · simp only [Act.put, List.setIfInBounds_toArray, List.set_cons_zero, List.set_cons_succ, i64_w, i32_w]
                                  rfl
                                refine take_ (i := 3) (N := some 87) (v := ?_) (a' := ?_) #[true, true, true, true, true, true, false, false, true, true, false, true, true, false, false, false, true, true, false, true, true, false, false, false, false, false] rfl rfl (take_ofW HT_.out HW_.out (by kernel_rfl)) (fun _ _ _ h => h) (Or.inl ⟨by rfl, ?_⟩) hHeld ?_ ?_
                                rotate_left
                                · rintro w' ⟨s0, s1, s2, s3, s4, s5⟩
                                  go_simp
                                  with_reducible rfl
                                rotate_left
                                · simp only [Act.put, List.setIfInBounds_toArray, List.set_cons_zero, List.set_cons_succ, i64_w, i32_w]
                                  rfl
                                refine take_ (i := 6) (N := some 90) (v := ?_) (a' := ?_) #[true, true, true, true, true, true, true, false, true, true, false, true, true, false, false, false, true, true, false, true, true, false, false, false, false, false] rfl rfl (take_ofW HT_.out HW_.out (by kernel_rfl)) (fun _ _ _ h => h) (Or.inl ⟨by rfl, ?_⟩) hHeld ?_ ?_
                                rotate_left
                                · rintro w' ⟨s0, s1, s2, s3, s4, s5⟩
                                  go_simp
                                  with_reducible rfl
                                rotate_left
                                · simp only [Act.put, List.setIfInBounds_toArray, List.set_cons_zero, List.set_cons_succ, i64_w, i32_w]
                                  rfl
                                refine pure_ (i := 7) (N := some 91) (v := ?_) (a' := ?_) #[true, true, true, true, true, true, true, true, true, true, false, true, true, false, false, false, true, true, false, true, true, false, false, false, false, false] rfl rfl (any_of HT_.out (by kernel_rfl)) (fun _ _ _ h => h) (Or.inl ⟨by rfl, ?_⟩) ?_ ?_
                                rotate_left
                                · intro w'
                                  go_simp
                                  with_reducible rfl
                                rotate_left
                                · simp only [Act.put, List.setIfInBounds_toArray, List.set_cons_zero, List.set_cons_succ, i64_w, i32_w]
                                  rfl
                                refine take_ (i := 10) (N := some 94) (v := ?_) (a' := ?_) #[true, true, true, true, true, true, true, true, true, true, true, true, true, false, false, false, true, true, false, true, true, false, false, false, false, false] rfl rfl (take_ofW HT_.out HW_.out (by kernel_rfl)) (fun _ _ _ h => h) (Or.inl ⟨by rfl, ?_⟩) hHeld ?_ ?_
                                rotate_left
                                · rintro w' ⟨s0, s1, s2, s3, s4, s5⟩
                                  go_simp
                                  with_reducible rfl
                                rotate_left
                                · simp only [Act.put, List.setIfInBounds_toArray, List.set_cons_zero, List.set_cons_succ, i64_w, i32_w]
                                  rfl
                                refine take_ (i := 13) (N := some 97) (v := ?_) (a' := ?_) #[true, true, true, true, true, true, true, true, true, true, true, true, true, true, false, false, true, true, false, true, true, false, false, false, false, false] rfl rfl (take_ofW HT_.out HW_.out (by kernel_rfl)) (fun _ _ _ h => h) (Or.inl ⟨by rfl, ?_⟩) hHeld ?_ ?_
                                rotate_left
                                · rintro w' ⟨s0, s1, s2, s3, s4, s5⟩
                                  go_simp
                                  with_reducible rfl
                                rotate_left
                                · simp only [Act.put, List.setIfInBounds_toArray, List.set_cons_zero, List.set_cons_succ, i64_w, i32_w]
                                  rfl
                                refine pure_ (i := 14) (N := some 98) (v := ?_) (a' := ?_) #[true, true, true, true, true, true, true, true, true, true, true, true, true, true, true, false, true, true, false, true, true, false, false, false, false, false] rfl rfl (any_of HT_.out (by kernel_rfl)) (fun _ _ _ h => h) (Or.inl ⟨by rfl, ?_⟩) ?_ ?_
                                rotate_left
                                · intro w'
                                  go_simp
                                  with_reducible rfl
                                rotate_left
                                · simp only [Act.put, List.setIfInBounds_toArray, List.set_cons_zero, List.set_cons_succ, i64_w, i32_w]
                                  rfl
                                refine pure_ (i := 15) (N := some 99) (v := ?_) (a' := ?_) #[true, true, true, true, true, true, true, true, true, true, true, true, true, true, true, true, true, true, false, true, true, false, false, false, false, false] rfl rfl (any_of HT_.out (by kernel_rfl)) (fun _ _ _ h => h) (Or.inl ⟨by rfl, ?_⟩) ?_ ?_
                                rotate_left
                                · intro w'
                                  go_simp
                                  with_reducible rfl
                                rotate_left
                                · simp only [Act.put, List.setIfInBounds_toArray, List.set_cons_zero, List.set_cons_succ, i64_w, i32_w]
                                  rfl
                                refine take_ (i := 18) (N := some 102) (v := ?_) (a' := ?_) #[true, true, true, true, true, true, true, true, true, true, true, true, true, true, true, true, true, true, true, true, true, false, false, false, false, false] rfl rfl (take_ofW HT_.out HW_.out (by kernel_rfl)) (fun _ _ _ h => h) (Or.inl ⟨by rfl, ?_⟩) hHeld ?_ ?_
                                rotate_left
                                · rintro w' ⟨s0, s1, s2, s3, s4, s5⟩
                                  go_simp
                                  with_reducible rfl
                                rotate_left
                                · simp only [Act.put, List.setIfInBounds_toArray, List.set_cons_zero, List.set_cons_succ, i64_w, i32_w]
                                  rfl
                                refine take_ (i := 21) (N := some 105) (v := ?_) (a' := ?_) #[true, true, true, true, true, true, true, true, true, true, true, true, true, true, true, true, true, true, true, true, true, true, false, false, false, false] rfl rfl (take_ofW HT_.out HW_.out (by kernel_rfl)) (fun _ _ _ h => h) (Or.inl ⟨by rfl, ?_⟩) hHeld ?_ ?_
                                rotate_left
                                · rintro w' ⟨s0, s1, s2, s3, s4, s5⟩
                                  go_simp
                                  with_reducible rfl
                                rotate_left
                                · simp only [Act.put, List.setIfInBounds_toArray, List.set_cons_zero, List.set_cons_succ, i64_w, i32_w]
                                  rfl
                                refine pure_ (i := 22) (N := some 106) (v := ?_) (a' := ?_) #[true, true, true, true, true, true, true, true, true, true, true, true, true, true, true, true, true, true, true, true, true, true, true, false, false, false] rfl rfl (any_of HT_.out (by kernel_rfl)) (fun _ _ _ h => h) (Or.inl ⟨by rfl, ?_⟩) ?_ ?_
                                rotate_left
                                · intro w'
                                  go_simp
                                  with_reducible rfl
                                rotate_left
                                · simp only [Act.put, List.setIfInBounds_toArray, List.set_cons_zero, List.set_cons_succ, i64_w, i32_w]
                                  rfl
                                refine pure_ (i := 23) (N := some 107) (v := ?_) (a' := ?_) #[true, true, true, true, true, true, true, true, true, true, true, true, true, true, true, true, true, true, true, true, true, true, true, true, false, false] rfl rfl (any_of HT_.out (by kernel_rfl)) (fun _ _ _ h => h) (Or.inl ⟨by rfl, ?_⟩) ?_ ?_
                                rotate_left
                                · intro w'
                                  go_simp
                                  with_reducible rfl
                                rotate_left
                                · simp only [Act.put, List.setIfInBounds_toArray, List.set_cons_zero, List.set_cons_succ, i64_w, i32_w]
                                  rfl
                                refine pure_ (i := 24) (N := some 108) (v := ?_) (a' := ?_) #[true, true, true, true, true, true, true, true, true, true, true, true, true, true, true, true, true, true, true, true, true, true, true, true, true, false] rfl rfl (any_of HT_.out (by kernel_rfl)) (fun _ _ _ h => h) (Or.inl ⟨by rfl, ?_⟩) ?_ ?_
                                rotate_left
                                · intro w'
                                  go_simp
                                  with_reducible rfl
                                rotate_left
                                · simp only [Act.put, List.setIfInBounds_toArray, List.set_cons_zero, List.set_cons_succ, i64_w, i32_w]
                                  rfl
                                refine pure_ (i := 25) (N := some 12) (v := ?_) (a' := ?_) #[true, true, true, true, true, true, true, true, true, true, true, true, true, true, true, true, true, true, true, true, true, true, true, true, true, true] rfl rfl (any_of HT_.out (by kernel_rfl)) (fun _ _ _ h => h) (Or.inl ⟨by rfl, ?_⟩) ?_ ?_
                                rotate_left
                                · intro w'
                                  go_simp
                                  with_reducible rfl
                                rotate_left
                                · simp only [Act.put, List.setIfInBounds_toArray, List.set_cons_zero, List.set_cons_succ, i64_w, i32_w]
                                  rfl
                                refine done_ (done_of HT_.out (by kernel_rfl)) ?_
                                try go_wp2
                                have n0_ := Aside0.mk (Kd.R_drew HO_5.out)
                                have n1_ := Aside0.mk (Kd.R_drew HO_6.out)
                                have n2_ := Aside0.mk (Kd.R_drew HO_7.out)
                                have n3_ := Aside0.mk (below_drew1 HB.out)
                                clear HO_5
                                clear HO_6
                                clear HO_7
                                clear HB
                                have HO_5 := n0_
                                have HO_6 := n1_
                                have HO_7 := n2_
                                have HB := n3_
                                clear n0_ n1_ n2_ n3_
                                have p254 : 0 ≤ (0 : Int) := (by omega)
                                have q254 : 0 < (x7_1.length : Int) := of_decide_eq_true (by first | (with_reducible assumption) | assumption)
                                obtain ⟨ad254, e254, hx254_0⟩ := Kd.at_int (Kd.R_reads' HO_7.out).2.2 0 p254 q254
                                obtain rfl : ad229 = ad254 := (by injection e254)
                                have qi254 : (0 < x7_1.length) = True := eq_true (by omega)
                                (try rw [show ((0 : Int)).toNat = 0 from rfl] at hx254_0)
                                (try rw [Addr.add_zero'] at hx254_0)
                                replace p254 := eq_true p254
                                replace q254 := eq_true q254
                                have p255 : 0 ≤ (1 : Int) := (by omega)
                                have q255 : 1 < (x7_1.length : Int) := of_decide_eq_true (by first | (with_reducible assumption) | assumption)
                                obtain ⟨ad255, e255, hx255_0⟩ := Kd.at_int (Kd.R_reads' HO_7.out).2.2 1 p255 q255
                                obtain rfl : ad229 = ad255 := (by injection e255)
                                (try simp only [show (1 : Int).toNat = 1 from rfl, Nat.reduceMul, Nat.reduceEqDiff, Go.Addr.add, ↓reduceIte] at hx255_0)
                                have qi255 : (1 < x7_1.length) = True := eq_true (by omega)
                                (try rw [show ((1 : Int)).toNat = 1 from rfl] at hx255_0)
                                replace p255 := eq_true p255
                                replace q255 := eq_true q255
                                have p256 : 0 ≤ (2 : Int) := (by omega)
                                have q256 : 2 < (x7_1.length : Int) := of_decide_eq_true (by first | (with_reducible assumption) | assumption)
                                obtain ⟨ad256, e256, hx256_0⟩ := Kd.at_int (Kd.R_reads' HO_7.out).2.2 2 p256 q256
                                obtain rfl : ad229 = ad256 := (by injection e256)
                                (try simp only [show (2 : Int).toNat = 2 from rfl, Nat.reduceMul, Nat.reduceEqDiff, Go.Addr.add, ↓reduceIte] at hx256_0)
                                have qi256 : (2 < x7_1.length) = True := eq_true (by omega)
                                (try rw [show ((2 : Int)).toNat = 2 from rfl] at hx256_0)
                                replace p256 := eq_true p256
                                replace q256 := eq_true q256
                                have p257 : 0 ≤ (3 : Int) := (by omega)
                                have q257 : 3 < (x7_1.length : Int) := of_decide_eq_true (by first | (with_reducible assumption) | assumption)
                                obtain ⟨ad257, e257, hx257_0⟩ := Kd.at_int (Kd.R_reads' HO_7.out).2.2 3 p257 q257
                                obtain rfl : ad229 = ad257 := (by injection e257)
                                (try simp only [show (3 : Int).toNat = 3 from rfl, Nat.reduceMul, Nat.reduceEqDiff, Go.Addr.add, ↓reduceIte] at hx257_0)
                                have qi257 : (3 < x7_1.length) = True := eq_true (by omega)
                                (try rw [show ((3 : Int)).toNat = 3 from rfl] at hx257_0)
                                replace p257 := eq_true p257
                                replace q257 := eq_true q257
                                have p258 : 0 ≤ (4 : Int) := (by omega)
                                have q258 : 4 < (x7_1.length : Int) := of_decide_eq_true (by first | (with_reducible assumption) | assumption)
                                obtain ⟨ad258, e258, hx258_0⟩ := Kd.at_int (Kd.R_reads' HO_7.out).2.2 4 p258 q258
                                obtain rfl : ad229 = ad258 := (by injection e258)
                                (try simp only [show (4 : Int).toNat = 4 from rfl, Nat.reduceMul, Nat.reduceEqDiff, Go.Addr.add, ↓reduceIte] at hx258_0)
                                have qi258 : (4 < x7_1.length) = True := eq_true (by omega)
                                (try rw [show ((4 : Int)).toNat = 4 from rfl] at hx258_0)
                                replace p258 := eq_true p258
                                replace q258 := eq_true q258
                                have p259 : 0 ≤ (5 : Int) := (by omega)
                                have q259 : 5 < (x7_1.length : Int) := of_decide_eq_true (by first | (with_reducible assumption) | assumption)
                                obtain ⟨ad259, e259, hx259_0⟩ := Kd.at_int (Kd.R_reads' HO_7.out).2.2 5 p259 q259
                                obtain rfl : ad229 = ad259 := (by injection e259)
                                (try simp only [show (5 : Int).toNat = 5 from rfl, Nat.reduceMul, Nat.reduceEqDiff, Go.Addr.add, ↓reduceIte] at hx259_0)
                                have qi259 : (5 < x7_1.length) = True := eq_true (by omega)
                                (try rw [show ((5 : Int)).toNat = 5 from rfl] at hx259_0)
                                replace p259 := eq_true p259
                                replace q259 := eq_true q259
                                have p260 : 0 ≤ (6 : Int) := (by omega)
                                have q260 : 6 < (x7_1.length : Int) := of_decide_eq_true (by first | (with_reducible assumption) | assumption)
                                obtain ⟨ad260, e260, hx260_0⟩ := Kd.at_int (Kd.R_reads' HO_7.out).2.2 6 p260 q260
                                obtain rfl : ad229 = ad260 := (by injection e260)
                                (try simp only [show (6 : Int).toNat = 6 from rfl, Nat.reduceMul, Nat.reduceEqDiff, Go.Addr.add, ↓reduceIte] at hx260_0)
                                have qi260 : (6 < x7_1.length) = True := eq_true (by omega)
                                (try rw [show ((6 : Int)).toNat = 6 from rfl] at hx260_0)
                                replace p260 := eq_true p260
                                replace q260 := eq_true q260
                                refine start_ (n := 28) (S := fun w' => w'.cell? ad229 = some (.int .u32 (rd x7_1 0)) ∧ w'.cell? ⟨ad229.block, ad229.off + 1, none⟩ = some (.int .u32 (rd x7_1 1)) ∧ w'.cell? ⟨ad229.block, ad229.off + 2, none⟩ = some (.int .u32 (rd x7_1 2)) ∧ w'.cell? ⟨ad229.block, ad229.off + 3, none⟩ = some (.int .u32 (rd x7_1 3)) ∧ w'.cell? ⟨ad229.block, ad229.off + 4, none⟩ = some (.int .u32 (rd x7_1 4)) ∧ w'.cell? ⟨ad229.block, ad229.off + 5, none⟩ = some (.int .u32 (rd x7_1 5)) ∧ w'.cell? ⟨ad229.block, ad229.off + 6, none⟩ = some (.int .u32 (rd x7_1 6))) (ds := []) #[false, false, false, false, false, false, false, false, false, false, false, false, false, false, false, false, false, false, false, false, false, false, false, false, false, false, false, false] (by kernel_rfl) rfl rfl ⟨hx254_0, hx255_0, hx256_0, hx257_0, hx258_0, hx259_0, hx260_0⟩ (fun hHeld => ?_); refine with_tabW agoraref03_next.tab11 agoraref03_next.bits11 (fun HT_ HW_ => ?_)
                                generalize w35.drew = w36 at HO_5 HO_6 HO_7 HB hx254_0 hx255_0 hx256_0 hx257_0 hx258_0 hx259_0 hx260_0 hHeld ⊢
                                refine pure_ (i := 0) (N := some 109) (v := ?_) (a' := ?_) #[true, false, false, false, false, false, false, false, false, false, false, false, false, false, false, false, false, false, false, false, false, false, false, false, false, false, false, false] rfl rfl (any_of HT_.out (by kernel_rfl)) (fun _ _ _ h => h) (Or.inl ⟨by rfl, ?_⟩) ?_ ?_
                                rotate_left
                                · intro w'
                                  go_simp
                                  with_reducible rfl
                                rotate_left
                                · simp only [Act.put, List.setIfInBounds_toArray, List.set_cons_zero, List.set_cons_succ, i64_w, i32_w]
                                  rfl
                                refine pure_ (i := 1) (N := some 110) (v := ?_) (a' := ?_) #[true, true, false, false, false, false, false, false, false, false, false, false, false, false, false, false, false, false, false, false, false, false, false, false, false, false, false, false] rfl rfl (any_of HT_.out (by kernel_rfl)) (fun _ _ _ h => h) (Or.inl ⟨by rfl, ?_⟩) ?_ ?_
                                rotate_left
                                · intro w'
                                  go_simp
                                  with_reducible rfl
                                rotate_left
                                · simp only [Act.put, List.setIfInBounds_toArray, List.set_cons_zero, List.set_cons_succ, i64_w, i32_w]
                                  rfl
                                refine pure_ (i := 2) (N := some 111) (v := ?_) (a' := ?_) #[true, true, true, false, false, false, false, false, false, false, false, false, false, false, false, false, false, false, false, false, false, false, false, false, false, false, false, false] rfl rfl (any_of HT_.out (by kernel_rfl)) (fun _ _ _ h => h) (Or.inl ⟨by rfl, ?_⟩) ?_ ?_
                                rotate_left
                                · intro w'
                                  go_simp
                                  with_reducible rfl
                                rotate_left
                                · simp only [Act.put, List.setIfInBounds_toArray, List.set_cons_zero, List.set_cons_succ, i64_w, i32_w]
                                  rfl
                                refine pure_ (i := 3) (N := some 112) (v := ?_) (a' := ?_) #[true, true, true, true, false, false, false, false, false, false, false, false, false, false, false, false, false, false, false, false, false, false, false, false, false, false, false, false] rfl rfl (any_of HT_.out (by kernel_rfl)) (fun _ _ _ h => h) (Or.inl ⟨by rfl, ?_⟩) ?_ ?_
                                rotate_left
                                · intro w'
                                  go_simp
                                  with_reducible rfl
                                rotate_left
                                · simp only [Act.put, List.setIfInBounds_toArray, List.set_cons_zero, List.set_cons_succ, i64_w, i32_w]
                                  rfl
                                refine pure_ (i := 4) (N := some 113) (v := ?_) (a' := ?_) #[true, true, true, true, true, false, false, false, false, false, false, false, false, false, false, false, false, false, false, false, false, false, false, false, false, false, false, false] rfl rfl (any_of HT_.out (by kernel_rfl)) (fun _ _ _ h => h) (Or.inl ⟨by rfl, ?_⟩) ?_ ?_
                                rotate_left
                                · intro w'
                                  go_simp
                                  with_reducible rfl
                                rotate_left
                                · simp only [Act.put, List.setIfInBounds_toArray, List.set_cons_zero, List.set_cons_succ, i64_w, i32_w]
                                  rfl
                                refine pure_ (i := 6) (N := some 115) (v := ?_) (a' := ?_) #[true, true, true, true, true, false, true, false, false, false, false, false, false, false, false, false, false, false, false, false, false, false, false, false, false, false, false, false] rfl rfl (any_of HT_.out (by kernel_rfl)) (fun _ _ _ h => h) (Or.inl ⟨by rfl, ?_⟩) ?_ ?_
                                rotate_left
                                · intro w'
                                  go_simp
                                  with_reducible rfl
                                rotate_left
                                · simp only [Act.put, List.setIfInBounds_toArray, List.set_cons_zero, List.set_cons_succ, i64_w, i32_w]
                                  rfl
                                refine pure_ (i := 7) (N := some 116) (v := ?_) (a' := ?_) #[true, true, true, true, true, false, true, true, false, false, false, false, false, false, false, false, false, false, false, false, false, false, false, false, false, false, false, false] rfl rfl (any_of HT_.out (by kernel_rfl)) (fun _ _ _ h => h) (Or.inl ⟨by rfl, ?_⟩) ?_ ?_
                                rotate_left
                                · intro w'
                                  go_simp
                                  with_reducible rfl
                                rotate_left
                                · simp only [Act.put, List.setIfInBounds_toArray, List.set_cons_zero, List.set_cons_succ, i64_w, i32_w]
                                  rfl
                                refine pure_ (i := 9) (N := some 118) (v := ?_) (a' := ?_) #[true, true, true, true, true, false, true, true, false, true, false, false, false, false, false, false, false, false, false, false, false, false, false, false, false, false, false, false] rfl rfl (any_of HT_.out (by kernel_rfl)) (fun _ _ _ h => h) (Or.inl ⟨by rfl, ?_⟩) ?_ ?_
                                rotate_left
                                · intro w'
                                  go_simp
                                  with_reducible rfl
                                rotate_left
                                · simp only [Act.put, List.setIfInBounds_toArray, List.set_cons_zero, List.set_cons_succ, i64_w, i32_w]
                                  rfl
                                refine pure_ (i := 10) (N := some 119) (v := ?_) (a' := ?_) #[true, true, true, true, true, false, true, true, false, true, true, false, false, false, false, false, false, false, false, false, false, false, false, false, false, false, false, false] rfl rfl (any_of HT_.out (by kernel_rfl)) (fun _ _ _ h => h) (Or.inl ⟨by rfl, ?_⟩) ?_ ?_
                                rotate_left
                                · intro w'
                                  go_simp
                                  with_reducible rfl
                                rotate_left
                                · simp only [Act.put, List.setIfInBounds_toArray, List.set_cons_zero, List.set_cons_succ, i64_w, i32_w]
                                  rfl
                                refine pure_ (i := 12) (N := some 121) (v := ?_) (a' := ?_) #[true, true, true, true, true, false, true, true, false, true, true, false, true, false, false, false, false, false, false, false, false, false, false, false, false, false, false, false] rfl rfl (any_of HT_.out (by kernel_rfl)) (fun _ _ _ h => h) (Or.inl ⟨by rfl, ?_⟩) ?_ ?_
                                rotate_left
                                · intro w'
                                  go_simp
                                  with_reducible rfl
                                rotate_left
                                · simp only [Act.put, List.setIfInBounds_toArray, List.set_cons_zero, List.set_cons_succ, i64_w, i32_w]
                                  rfl
                                refine pure_ (i := 13) (N := some 122) (v := ?_) (a' := ?_) #[true, true, true, true, true, false, true, true, false, true, true, false, true, true, false, false, false, false, false, false, false, false, false, false, false, false, false, false] rfl rfl (any_of HT_.out (by kernel_rfl)) (fun _ _ _ h => h) (Or.inl ⟨by rfl, ?_⟩) ?_ ?_
                                rotate_left
                                · intro w'
                                  go_simp
                                  with_reducible rfl
                                rotate_left
                                · simp only [Act.put, List.setIfInBounds_toArray, List.set_cons_zero, List.set_cons_succ, i64_w, i32_w]
                                  rfl
                                refine pure_ (i := 15) (N := some 124) (v := ?_) (a' := ?_) #[true, true, true, true, true, false, true, true, false, true, true, false, true, true, false, true, false, false, false, false, false, false, false, false, false, false, false, false] rfl rfl (any_of HT_.out (by kernel_rfl)) (fun _ _ _ h => h) (Or.inl ⟨by rfl, ?_⟩) ?_ ?_
                                rotate_left
                                · intro w'
                                  go_simp
                                  with_reducible rfl
                                rotate_left
                                · simp only [Act.put, List.setIfInBounds_toArray, List.set_cons_zero, List.set_cons_succ, i64_w, i32_w]
                                  rfl
                                refine pure_ (i := 17) (N := some 126) (v := ?_) (a' := ?_) #[true, true, true, true, true, false, true, true, false, true, true, false, true, true, false, true, false, true, false, false, false, false, false, false, false, false, false, false] rfl rfl (any_of HT_.out (by kernel_rfl)) (fun _ _ _ h => h) (Or.inl ⟨by rfl, ?_⟩) ?_ ?_
                                rotate_left
                                · intro w'
                                  go_simp
                                  with_reducible rfl
                                rotate_left
                                · simp only [Act.put, List.setIfInBounds_toArray, List.set_cons_zero, List.set_cons_succ, i64_w, i32_w]
                                  rfl
                                refine pure_ (i := 18) (N := some 127) (v := ?_) (a' := ?_) #[true, true, true, true, true, false, true, true, false, true, true, false, true, true, false, true, false, true, true, false, false, false, false, false, false, false, false, false] rfl rfl (any_of HT_.out (by kernel_rfl)) (fun _ _ _ h => h) (Or.inl ⟨by rfl, ?_⟩) ?_ ?_
                                rotate_left
                                · intro w'
                                  go_simp
                                  with_reducible rfl
                                rotate_left
                                · simp only [Act.put, List.setIfInBounds_toArray, List.set_cons_zero, List.set_cons_succ, i64_w, i32_w]
                                  rfl
                                refine pure_ (i := 20) (N := some 129) (v := ?_) (a' := ?_) #[true, true, true, true, true, false, true, true, false, true, true, false, true, true, false, true, false, true, true, false, true, false, false, false, false, false, false, false] rfl rfl (any_of HT_.out (by kernel_rfl)) (fun _ _ _ h => h) (Or.inl ⟨by rfl, ?_⟩) ?_ ?_
                                rotate_left
                                · intro w'
                                  go_simp
                                  with_reducible rfl
                                rotate_left
                                · simp only [Act.put, List.setIfInBounds_toArray, List.set_cons_zero, List.set_cons_succ, i64_w, i32_w]
                                  rfl
                                refine pure_ (i := 21) (N := some 130) (v := ?_) (a' := ?_) #[true, true, true, true, true, false, true, true, false, true, true, false, true, true, false, true, false, true, true, false, true, true, false, false, false, false, false, false] rfl rfl (any_of HT_.out (by kernel_rfl)) (fun _ _ _ h => h) (Or.inl ⟨by rfl, ?_⟩) ?_ ?_
                                rotate_left
                                · intro w'
                                  go_simp
                                  with_reducible rfl
                                rotate_left
                                · simp only [Act.put, List.setIfInBounds_toArray, List.set_cons_zero, List.set_cons_succ, i64_w, i32_w]
                                  rfl
                                refine pure_ (i := 23) (N := some 132) (v := ?_) (a' := ?_) #[true, true, true, true, true, false, true, true, false, true, true, false, true, true, false, true, false, true, true, false, true, true, false, true, false, false, false, false] rfl rfl (any_of HT_.out (by kernel_rfl)) (fun _ _ _ h => h) (Or.inl ⟨by rfl, ?_⟩) ?_ ?_
                                rotate_left
                                · intro w'
                                  go_simp
                                  with_reducible rfl
                                rotate_left
                                · simp only [Act.put, List.setIfInBounds_toArray, List.set_cons_zero, List.set_cons_succ, i64_w, i32_w]
                                  rfl
                                refine pure_ (i := 24) (N := some 133) (v := ?_) (a' := ?_) #[true, true, true, true, true, false, true, true, false, true, true, false, true, true, false, true, false, true, true, false, true, true, false, true, true, false, false, false] rfl rfl (any_of HT_.out (by kernel_rfl)) (fun _ _ _ h => h) (Or.inl ⟨by rfl, ?_⟩) ?_ ?_
                                rotate_left
                                · intro w'
                                  go_simp
                                  with_reducible rfl
                                rotate_left
                                · simp only [Act.put, List.setIfInBounds_toArray, List.set_cons_zero, List.set_cons_succ, i64_w, i32_w]
                                  rfl
                                refine take_ (i := 5) (N := some 114) (v := ?_) (a' := ?_) #[true, true, true, true, true, true, true, true, false, true, true, false, true, true, false, true, false, true, true, false, true, true, false, true, true, false, false, false] rfl rfl (take_ofW HT_.out HW_.out (by kernel_rfl)) (fun _ _ _ h => h) (Or.inl ⟨by rfl, ?_⟩) hHeld ?_ ?_
                                rotate_left
                                · rintro w' ⟨s0, s1, s2, s3, s4, s5, s6⟩
                                  go_simp
                                  with_reducible rfl
                                rotate_left
                                · simp only [Act.put, List.setIfInBounds_toArray, List.set_cons_zero, List.set_cons_succ, i64_w, i32_w]
                                  rfl
                                refine take_ (i := 8) (N := some 117) (v := ?_) (a' := ?_) #[true, true, true, true, true, true, true, true, true, true, true, false, true, true, false, true, false, true, true, false, true, true, false, true, true, false, false, false] rfl rfl (take_ofW HT_.out HW_.out (by kernel_rfl)) (fun _ _ _ h => h) (Or.inl ⟨by rfl, ?_⟩) hHeld ?_ ?_
                                rotate_left
                                · rintro w' ⟨s0, s1, s2, s3, s4, s5, s6⟩
                                  go_simp
                                  with_reducible rfl
                                rotate_left
                                · simp only [Act.put, List.setIfInBounds_toArray, List.set_cons_zero, List.set_cons_succ, i64_w, i32_w]
                                  rfl
                                refine take_ (i := 11) (N := some 120) (v := ?_) (a' := ?_) #[true, true, true, true, true, true, true, true, true, true, true, true, true, true, false, true, false, true, true, false, true, true, false, true, true, false, false, false] rfl rfl (take_ofW HT_.out HW_.out (by kernel_rfl)) (fun _ _ _ h => h) (Or.inl ⟨by rfl, ?_⟩) hHeld ?_ ?_
                                rotate_left
                                · rintro w' ⟨s0, s1, s2, s3, s4, s5, s6⟩
                                  go_simp
                                  with_reducible rfl
                                rotate_left
                                · simp only [Act.put, List.setIfInBounds_toArray, List.set_cons_zero, List.set_cons_succ, i64_w, i32_w]
                                  rfl
                                refine take_ (i := 14) (N := some 123) (v := ?_) (a' := ?_) #[true, true, true, true, true, true, true, true, true, true, true, true, true, true, true, true, false, true, true, false, true, true, false, true, true, false, false, false] rfl rfl (take_ofW HT_.out HW_.out (by kernel_rfl)) (fun _ _ _ h => h) (Or.inl ⟨by rfl, ?_⟩) hHeld ?_ ?_
                                rotate_left
                                · rintro w' ⟨s0, s1, s2, s3, s4, s5, s6⟩
                                  go_simp
                                  with_reducible rfl
                                rotate_left
                                · simp only [Act.put, List.setIfInBounds_toArray, List.set_cons_zero, List.set_cons_succ, i64_w, i32_w]
                                  rfl
                                refine pure_ (i := 16) (N := some 125) (v := ?_) (a' := ?_) #[true, true, true, true, true, true, true, true, true, true, true, true, true, true, true, true, true, true, true, false, true, true, false, true, true, false, false, false] rfl rfl (any_of HT_.out (by kernel_rfl)) (fun _ _ _ h => h) (Or.inl ⟨by rfl, ?_⟩) ?_ ?_
                                rotate_left
                                · intro w'
                                  go_simp
                                  with_reducible rfl
                                rotate_left
                                · simp only [Act.put, List.setIfInBounds_toArray, List.set_cons_zero, List.set_cons_succ, i64_w, i32_w]
                                  rfl
                                refine take_ (i := 19) (N := some 128) (v := ?_) (a' := ?_) #[true, true, true, true, true, true, true, true, true, true, true, true, true, true, true, true, true, true, true, true, true, true, false, true, true, false, false, false] rfl rfl (take_ofW HT_.out HW_.out (by kernel_rfl)) (fun _ _ _ h => h) (Or.inl ⟨by rfl, ?_⟩) hHeld ?_ ?_
                                rotate_left
                                · rintro w' ⟨s0, s1, s2, s3, s4, s5, s6⟩
                                  go_simp
                                  with_reducible rfl
                                rotate_left
                                · simp only [Act.put, List.setIfInBounds_toArray, List.set_cons_zero, List.set_cons_succ, i64_w, i32_w]
                                  rfl
                                refine take_ (i := 22) (N := some 131) (v := ?_) (a' := ?_) #[true, true, true, true, true, true, true, true, true, true, true, true, true, true, true, true, true, true, true, true, true, true, true, true, true, false, false, false] rfl rfl (take_ofW HT_.out HW_.out (by kernel_rfl)) (fun _ _ _ h => h) (Or.inl ⟨by rfl, ?_⟩) hHeld ?_ ?_
                                rotate_left
                                · rintro w' ⟨s0, s1, s2, s3, s4, s5, s6⟩
                                  go_simp
                                  with_reducible rfl
                                rotate_left
                                · simp only [Act.put, List.setIfInBounds_toArray, List.set_cons_zero, List.set_cons_succ, i64_w, i32_w]
                                  rfl
                                refine take_ (i := 25) (N := some 134) (v := ?_) (a' := ?_) #[true, true, true, true, true, true, true, true, true, true, true, true, true, true, true, true, true, true, true, true, true, true, true, true, true, true, false, false] rfl rfl (take_ofW HT_.out HW_.out (by kernel_rfl)) (fun _ _ _ h => h) (Or.inl ⟨by rfl, ?_⟩) hHeld ?_ ?_
                                rotate_left
                                · rintro w' ⟨s0, s1, s2, s3, s4, s5, s6⟩
                                  go_simp
                                  with_reducible rfl
                                rotate_left
                                · simp only [Act.put, List.setIfInBounds_toArray, List.set_cons_zero, List.set_cons_succ, i64_w, i32_w]
                                  rfl
                                refine one_ (i := 26) (N := some 135) #[true, true, true, true, true, true, true, true, true, true, true, true, true, true, true, true, true, true, true, true, true, true, true, true, true, true, true, false] rfl rfl (one_of HT_.out (by kernel_rfl)) (by decide) (fun K hK => ?_)
                                refine Kd.R_lit_step (Kd.int .u32) _ 54 ?hg (N := 135) ?hd (xs := ([((((((((((rd x7_1 7) + (Go.bits .xor .u32 (Go.bits .xor .u32 t230 t232) t234)) % 4294967296) + (Go.bits .xor .u32 (Go.bits .and .u32 (rd x7_1 4) (rd x7_1 5)) (Go.bits .and .u32 (Go.bits .xor .u32 IntKind.u32.max (rd x7_1 4)) (rd x7_1 6)))) % 4294967296) + (rd t220 x8_1)) % 4294967296) + (rd t217 x8_1)) % 4294967296) + (((Go.bits .xor .u32 (Go.bits .xor .u32 t243 t245) t247) + (Go.bits .xor .u32 (Go.bits .xor .u32 (Go.bits .and .u32 (rd x7_1 0) (rd x7_1 1)) (Go.bits .and .u32 (rd x7_1 0) (rd x7_1 2))) (Go.bits .and .u32 (rd x7_1 1) (rd x7_1 2)))) % 4294967296)) % 4294967296, rd x7_1 0, rd x7_1 1, rd x7_1 2, ((rd x7_1 3) + (((((((((rd x7_1 7) + (Go.bits .xor .u32 (Go.bits .xor .u32 t230 t232) t234)) % 4294967296) + (Go.bits .xor .u32 (Go.bits .and .u32 (rd x7_1 4) (rd x7_1 5)) (Go.bits .and .u32 (Go.bits .xor .u32 IntKind.u32.max (rd x7_1 4)) (rd x7_1 6)))) % 4294967296) + (rd t220 x8_1)) % 4294967296) + (rd t217 x8_1)) % 4294967296)) % 4294967296, rd x7_1 4, rd x7_1 5, rd x7_1 6] : List Int)) (inner := [.int .u32 (((((((((((rd x7_1 7) + (Go.bits .xor .u32 (Go.bits .xor .u32 t230 t232) t234)) % 4294967296) + (Go.bits .xor .u32 (Go.bits .and .u32 (rd x7_1 4) (rd x7_1 5)) (Go.bits .and .u32 (Go.bits .xor .u32 IntKind.u32.max (rd x7_1 4)) (rd x7_1 6)))) % 4294967296) + (rd t220 x8_1)) % 4294967296) + (rd t217 x8_1)) % 4294967296) + (((Go.bits .xor .u32 (Go.bits .xor .u32 t243 t245) t247) + (Go.bits .xor .u32 (Go.bits .xor .u32 (Go.bits .and .u32 (rd x7_1 0) (rd x7_1 1)) (Go.bits .and .u32 (rd x7_1 0) (rd x7_1 2))) (Go.bits .and .u32 (rd x7_1 1) (rd x7_1 2)))) % 4294967296)) % 4294967296), .int .u32 (rd x7_1 0), .int .u32 (rd x7_1 1), .int .u32 (rd x7_1 2), .int .u32 (((rd x7_1 3) + (((((((((rd x7_1 7) + (Go.bits .xor .u32 (Go.bits .xor .u32 t230 t232) t234)) % 4294967296) + (Go.bits .xor .u32 (Go.bits .and .u32 (rd x7_1 4) (rd x7_1 5)) (Go.bits .and .u32 (Go.bits .xor .u32 IntKind.u32.max (rd x7_1 4)) (rd x7_1 6)))) % 4294967296) + (rd t220 x8_1)) % 4294967296) + (rd t217 x8_1)) % 4294967296)) % 4294967296), .int .u32 (rd x7_1 4), .int .u32 (rd x7_1 5), .int .u32 (rd x7_1 6)]) (ok := fun _ => True) (okp := fun _ => True) ?hr ?hp (fun _ hk => hk) trivial (Below.refl _ _) (Nat.le_refl _) (by simp) ?_; (case hd => rfl); (case hg => rfl); (case hr => first | (go_simp; done) | (go_simp; rfl) | (go_simp; simp only [IntKind.wrap_u32', Int.emod_add_emod, Int.add_emod_emod])); (case hp => exact (Reps.one (show Kd.M (Kd.int .u32) _ _ _ (((((((((((rd x7_1 7) + (Go.bits .xor .u32 (Go.bits .xor .u32 t230 t232) t234)) % 4294967296) + (Go.bits .xor .u32 (Go.bits .and .u32 (rd x7_1 4) (rd x7_1 5)) (Go.bits .and .u32 (Go.bits .xor .u32 IntKind.u32.max (rd x7_1 4)) (rd x7_1 6)))) % 4294967296) + (rd t220 x8_1)) % 4294967296) + (rd t217 x8_1)) % 4294967296) + (((Go.bits .xor .u32 (Go.bits .xor .u32 t243 t245) t247) + (Go.bits .xor .u32 (Go.bits .xor .u32 (Go.bits .and .u32 (rd x7_1 0) (rd x7_1 1)) (Go.bits .and .u32 (rd x7_1 0) (rd x7_1 2))) (Go.bits .and .u32 (rd x7_1 1) (rd x7_1 2)))) % 4294967296)) % 4294967296) [.int .u32 (((((((((((rd x7_1 7) + (Go.bits .xor .u32 (Go.bits .xor .u32 t230 t232) t234)) % 4294967296) + (Go.bits .xor .u32 (Go.bits .and .u32 (rd x7_1 4) (rd x7_1 5)) (Go.bits .and .u32 (Go.bits .xor .u32 IntKind.u32.max (rd x7_1 4)) (rd x7_1 6)))) % 4294967296) + (rd t220 x8_1)) % 4294967296) + (rd t217 x8_1)) % 4294967296) + (((Go.bits .xor .u32 (Go.bits .xor .u32 t243 t245) t247) + (Go.bits .xor .u32 (Go.bits .xor .u32 (Go.bits .and .u32 (rd x7_1 0) (rd x7_1 1)) (Go.bits .and .u32 (rd x7_1 0) (rd x7_1 2))) (Go.bits .and .u32 (rd x7_1 1) (rd x7_1 2)))) % 4294967296)) % 4294967296)] from rfl) (Reps.one (show Kd.M (Kd.int .u32) _ _ _ (rd x7_1 0) [.int .u32 (rd x7_1 0)] from rfl) (Reps.one (show Kd.M (Kd.int .u32) _ _ _ (rd x7_1 1) [.int .u32 (rd x7_1 1)] from rfl) (Reps.one (show Kd.M (Kd.int .u32) _ _ _ (rd x7_1 2) [.int .u32 (rd x7_1 2)] from rfl) (Reps.one (show Kd.M (Kd.int .u32) _ _ _ (((rd x7_1 3) + (((((((((rd x7_1 7) + (Go.bits .xor .u32 (Go.bits .xor .u32 t230 t232) t234)) % 4294967296) + (Go.bits .xor .u32 (Go.bits .and .u32 (rd x7_1 4) (rd x7_1 5)) (Go.bits .and .u32 (Go.bits .xor .u32 IntKind.u32.max (rd x7_1 4)) (rd x7_1 6)))) % 4294967296) + (rd t220 x8_1)) % 4294967296) + (rd t217 x8_1)) % 4294967296)) % 4294967296) [.int .u32 (((rd x7_1 3) + (((((((((rd x7_1 7) + (Go.bits .xor .u32 (Go.bits .xor .u32 t230 t232) t234)) % 4294967296) + (Go.bits .xor .u32 (Go.bits .and .u32 (rd x7_1 4) (rd x7_1 5)) (Go.bits .and .u32 (Go.bits .xor .u32 IntKind.u32.max (rd x7_1 4)) (rd x7_1 6)))) % 4294967296) + (rd t220 x8_1)) % 4294967296) + (rd t217 x8_1)) % 4294967296)) % 4294967296)] from rfl) (Reps.one (show Kd.M (Kd.int .u32) _ _ _ (rd x7_1 4) [.int .u32 (rd x7_1 4)] from rfl) (Reps.one (show Kd.M (Kd.int .u32) _ _ _ (rd x7_1 5) [.int .u32 (rd x7_1 5)] from rfl) (Reps.one (show Kd.M (Kd.int .u32) _ _ _ (rd x7_1 6) [.int .u32 (rd x7_1 6)] from rfl) (Reps.none _ _))))))))))
                                intro v262 w37 ho38 hb hg_ hnew_
                                have HS0_ := (hb.cell (World.block_lt_of_cell? _ _ (hHeld.1))).trans (hHeld.1)
                                have HS1_ := (hb.cell (World.block_lt_of_cell? _ _ (hHeld.2.1))).trans (hHeld.2.1)
                                have HS2_ := (hb.cell (World.block_lt_of_cell? _ _ (hHeld.2.2.1))).trans (hHeld.2.2.1)
                                have HS3_ := (hb.cell (World.block_lt_of_cell? _ _ (hHeld.2.2.2.1))).trans (hHeld.2.2.2.1)
                                have HS4_ := (hb.cell (World.block_lt_of_cell? _ _ (hHeld.2.2.2.2.1))).trans (hHeld.2.2.2.2.1)
                                have HS5_ := (hb.cell (World.block_lt_of_cell? _ _ (hHeld.2.2.2.2.2.1))).trans (hHeld.2.2.2.2.2.1)
                                have HS6_ := (hb.cell (World.block_lt_of_cell? _ _ (hHeld.2.2.2.2.2.2))).trans (hHeld.2.2.2.2.2.2)
                                clear hg_ hnew_
                                (first | rw [← Ny261.out] at ho38 | (simp only [Int.reduceToNat] at ho38; rw [← Ny261.out] at ho38))
                                have n0_ := Aside0.mk (Kd.R_elder' (by (with_reducible repeat (first | apply Kd.R_alloc | apply Kd.R_drewN | apply Kd.R_drew)); exact HO_5.out) (Kd.R_base ho38) hb)
                                have n1_ := Aside0.mk (Kd.R_elder' (by (with_reducible repeat (first | apply Kd.R_alloc | apply Kd.R_drewN | apply Kd.R_drew)); exact HO_6.out) (Kd.R_base ho38) hb)
                                have n2_ := Aside0.mk (Kd.R_elder' (by (with_reducible repeat (first | apply Kd.R_alloc | apply Kd.R_drewN | apply Kd.R_drew)); exact HO_7.out) (Kd.R_base ho38) hb)
                                have n3_ := Aside0.mk (Kd.R_lower (Kd.R_new' (Kd.R_new' (Kd.R_new' ho38 (Kd.R_lt (by (with_reducible repeat (first | apply Kd.R_alloc | apply Kd.R_drewN | apply Kd.R_drew)); exact HO_5.out))) (Kd.R_lt (by (with_reducible repeat (first | apply Kd.R_alloc | apply Kd.R_drewN | apply Kd.R_drew)); exact HO_6.out))) (Kd.R_lt (by (with_reducible repeat (first | apply Kd.R_alloc | apply Kd.R_drewN | apply Kd.R_drew)); exact HO_7.out))) (below_size (by repeat (first | (with_reducible first | exact HB.out | apply below_alloc | apply pw_below_drewN | apply below_drew1) | exact HB.out))))
                                have n4_ := Aside0.mk (below_step (by repeat (first | (with_reducible first | exact HB.out | apply below_alloc | apply pw_below_drewN | apply below_drew1) | exact HB.out)) hb)
                                clear HO_5
                                clear HO_6
                                clear HO_7
                                clear HB
                                have HO_5 := n0_
                                have HO_6 := n1_
                                have HO_7 := n2_
                                have HO263 := n3_
                                have HB := n4_
                                clear n0_ n1_ n2_ n3_ n4_
                                clear hb ho38
                                refine hK.out _ _ ⟨HS0_, HS1_, HS2_, HS3_, HS4_, HS5_, HS6_⟩ (fun hHeld => ?_)
                                clear hK K
                                refine norm_ (a' := ?_) ?_ ?_
                                rotate_left
                                · show Act.put _ (some 135) _ = _
                                  simp only [Act.put, List.setIfInBounds_toArray, List.set_cons_zero, List.set_cons_succ, i64_w, i32_w]
                                  rfl
                                refine pure_ (i := 27) (N := some 7) (v := ?_) (a' := ?_) #[true, true, true, true, true, true, true, true, true, true, true, true, true, true, true, true, true, true, true, true, true, true, true, true, true, true, true, true] rfl rfl (any_of HT_.out (by kernel_rfl)) (fun _ _ _ h => h) (Or.inl ⟨by rfl, ?_⟩) ?_ ?_
                                rotate_left
                                · intro w'
                                  go_simp
                                  with_reducible rfl
                                rotate_left
                                · simp only [Act.put, List.setIfInBounds_toArray, List.set_cons_zero, List.set_cons_succ, i64_w, i32_w]
                                  rfl
                                refine done_ (done_of HT_.out (by kernel_rfl)) ?_
                                try go_wp2
                                go_roundg k1
                                case measure => have := HK1.out; omega
                                case rel => exact ⟨(y261), (wrap64 (x8_1 + 1)), (by first | rfl | (simp; done) | (simp [*]; done)), H', ⟨by have := HK1.out; omega⟩, ⟨by (with_reducible repeat (first | apply Kd.R_alloc | apply Kd.R_drewN | apply Kd.R_drew)); exact Kd.R_mono HO_5.out (fun _ hk => ⟨hk.1.1, hk.2⟩)⟩, ⟨by (with_reducible repeat (first | apply Kd.R_alloc | apply Kd.R_drewN | apply Kd.R_drew)); exact Kd.R_mono HO_6.out (fun _ hk => ⟨hk.1.1, hk.2⟩)⟩, ⟨by (with_reducible repeat (first | apply Kd.R_alloc | apply Kd.R_drewN | apply Kd.R_drew)); exact Kd.R_mono HO263.out (fun _ hk => ⟨hk.1.1.2, hk.1.2⟩)⟩, ⟨by repeat (first | (with_reducible first | exact HB.out | apply below_alloc | apply pw_below_drewN | apply below_drew1) | exact HB.out)⟩⟩
                              · rw [if_neg c28] at H
                                exact absurd H (by simp)
                            · rw [if_neg c27] at H
                              exact absurd H (by simp)
                          · rw [if_neg c26] at H
                            exact absurd H (by simp)
                        · rw [if_neg c22] at H
                          exact absurd H (by simp)
                      · rw [if_neg c21] at H
                        exact absurd H (by simp)
                    · rw [if_neg c20] at H
                      exact absurd H (by simp)
                  · rw [if_neg c19] at H
                    exact absurd H (by simp)
                · rw [if_neg c18] at H
                  exact absurd H (by simp)
              · rw [if_neg c17] at H
                exact absurd H (by simp)
            · rw [if_neg c16] at H
              exact absurd H (by simp)
          · rw [if_neg c12] at H
            exact absurd H (by simp)
        · rw [if_neg c11] at H
          have c11b0 : decide (x8_1 < 64) = false := decide_eq_false c11
          clear c11
          have H' := Aside0.mk H
          clear H
          go_wp2
          go_loopg [13] k1 (fun kq v13 w' => ∃ (x7_2 : List Int) (x13_2 : Int), v13 = .int .i64 x13_2 ∧ Aside0 (agoraref03_next.l1 kq l0 x7_2 x13_2 = some r) ∧ Aside0 (kq ≤ k1) ∧ Aside0 (Kd.R (Kd.int .u32) 54 w' w.heap.size (fun _ => True) u7 x7_2) ∧ Aside0 (Below w.heap.size w w'))
          case atStart => exact ⟨(x7_1), (0), (by first | rfl | (simp; done) | (simp [*]; done)), H', ⟨Nat.le_refl _⟩, ⟨by (with_reducible repeat (first | apply Kd.R_alloc | apply Kd.R_drewN | apply Kd.R_drew)); exact Kd.R_mono HO_7.out (fun _ hk => trivial)⟩, ⟨by repeat (first | (with_reducible first | exact HB.out | apply below_alloc | apply pw_below_drewN | apply below_drew1) | exact HB.out)⟩⟩
          case round =>
            clear H'
            try clear c1
            try clear c2
            try clear p2
            try clear q2
            try clear hx2
            try clear qi2
            try clear p6
            try clear c11
            try clear c11b0
            try clear c12
            try clear c16
            try clear c17
            try clear c18
            try clear c19
            try clear c20
            try clear c21
            try clear c22
            try clear hx24
            try clear p25
            try clear q25
            try clear hx25
            try clear qi25
            try clear c26
            try clear p26
            try clear q26
            try clear hx26
            try clear qi26
            try clear c27
            try clear c28
            try clear hx248_0
            try clear hx249_0
            try clear hx250_0
            try clear hx251_0
            try clear hx252_0
            try clear hx253_0
            try clear hx254_0
            try clear hx255_0
            try clear hx256_0
            try clear hx257_0
            try clear hx258_0
            try clear hx259_0
            try clear hx260_0
            try clear p251
            try clear p252
            try clear p253
            try clear p254
            try clear p255
            try clear p256
            try clear p257
            try clear p258
            try clear p259
            try clear p260
            try clear q251
            try clear q252
            try clear q253
            try clear q254
            try clear q255
            try clear q256
            try clear q257
            try clear q258
            try clear q259
            try clear q260
            obtain ⟨x7_2, x13_2, rfl, HA, HK2, HO_7, HB⟩ := hrel
            cases gk with
            | zero => exact absurd HA.out (by simp [agoraref03_next.l1])
            | succ k2 =>
              have H := HA.out
              clear HA
              simp only [agoraref03_next.l1] at H
              by_cases c39 : x13_2 < 8
              · rw [if_pos c39] at H
                have c39b0 : decide (x13_2 < 8) = true := decide_eq_true c39
                clear c39
                by_cases c40 : 0 ≤ x13_2
                · rw [if_pos c40] at H
                  have c40b0 : decide (0 ≤ x13_2) = true := decide_eq_true c40
                  clear c40
                  by_cases c41 : x13_2 < (x7_2.length : Int)
                  · rw [if_pos c41] at H
                    have c41b0 : decide (x13_2 < (x7_2.length : Int)) = true := decide_eq_true c41
                    clear c41
                    by_cases c42 : x13_2 < (l0.length : Int)
                    · rw [if_pos c42] at H
                      have c42b0 : decide (x13_2 < (l0.length : Int)) = true := decide_eq_true c42
                      clear c42
                      obtain ⟨y266, hy266⟩ : ∃ y_ : List Int, y_ = (x7_2.set (x13_2 : Int).toNat (((rd x7_2 x13_2) + (rd l0 x13_2)) % 4294967296)) := ⟨_, rfl⟩
                      replace H : (agoraref03_next.l1 k2 l0 y266 (wrap64 (x13_2 + 1))) = some r := by first | (rw [hy266]; with_reducible exact H) | (have H2_ := (Option.bind_some _ _).symm.trans H; rw [hy266]; with_reducible exact H2_) | (have H2_ := (Option.bind_some _ _).symm.trans H; with_reducible exact H2_) | with_reducible exact H | (rw [hy266]; exact H) | exact H
                      have Ny266 := Aside0.mk hy266
                      clear hy266
                      have H' := Aside0.mk H
                      clear H
                      try go_wp2
                      have n0_ := Aside0.mk (Kd.R_drew HO_7.out)
                      have n1_ := Aside0.mk (below_drew1 HB.out)
                      clear HO_7
                      clear HB
                      have HO_7 := n0_
                      have HB := n1_
                      clear n0_ n1_
                      obtain ⟨Ao45, co45, eo45⟩ := Kd.R_slice HO_7.out
                      (first | subst eo45 | (injection eo45 with f1_ f2_ f3_; have f4_ := f1_.symm; have f5_ := f3_.symm; clear f1_ f2_ f3_; subst f4_; subst f5_))
                      have p264 : 0 ≤ (x13_2 : Int) := of_decide_eq_true (by first | (with_reducible assumption) | assumption)
                      have q264 : x13_2 < (x7_2.length : Int) := of_decide_eq_true (by first | (with_reducible assumption) | assumption)
                      obtain ⟨ad264, e264, hx264_0⟩ := Kd.at_int (Kd.R_reads' HO_7.out).2.2 x13_2 p264 q264
                      cases e264
                      replace p264 := eq_true p264
                      replace q264 := eq_true q264
                      have p265 : 0 ≤ (x13_2 : Int) := of_decide_eq_true (by first | (with_reducible assumption) | assumption)
                      have q265 : x13_2 < (l0.length : Int) := of_decide_eq_true (by first | (with_reducible assumption) | assumption)
                      obtain ⟨ad265, e265, hx265_0⟩ := Kd.at_int HR0.out x13_2 p265 q265
                      have hw265_0 := hx265_0
                      cases e265
                      replace hx265_0 := (HB.out.cell (World.block_lt_of_cell? w _ hx265_0)).trans hx265_0
                      replace p265 := eq_true p265
                      replace q265 := eq_true q265
                      have p43 : 0 ≤ (x13_2 : Int) := of_decide_eq_true (by first | (with_reducible assumption) | assumption)
                      have q43 : (x13_2 : Int) < ((x7_2.length : Int) : Int) := of_decide_eq_true (by first | (with_reducible assumption) | assumption)
                      obtain ⟨go43, co43, eo43, gb43, gl43, cl43, HG43⟩ := Kd.R_form HO_7.out (by omega)
                      (first | cases eo43 | (injection eo43 with ea_ en_ ec_; (first | subst ea_ | (injection ea_ with ea_; subst ea_)); subst ec_; clear en_))
                      have GB43 := Aside0.mk gb43
                      have GG43 := Aside0.mk HG43
                      clear gb43 gl43 HG43
                      (first | simp only [add_plain] at hx264_0 | skip)
                      obtain ⟨hx43_0, hf43_0⟩ := Kd.R_celln 0 HO_7.out (x13_2 : Int) p43 q43
                      replace p43 := eq_true p43
                      replace q43 := eq_true q43
                      have HP46 := Kd.R_putn HO_7.out (x13_2 : Int) (((rd x7_2 x13_2) + (rd l0 x13_2)) % 4294967296)
                      rw [← Ny266.out] at HP46
                      have HQ46 := Aside0.mk HP46
                      clear HP46
                      refine start_ (n := 13) (S := fun w' => w'.cell? ⟨go43, (x13_2).toNat, none⟩ = some (.int .u32 (rd x7_2 x13_2)) ∧ w'.cell? (ad265.add (x13_2).toNat) = some (.int .u32 (rd l0 x13_2))) (ds := [12]) #[false, false, false, false, false, false, false, false, false, false, false, false, false] (by kernel_rfl) rfl rfl ⟨hx264_0, ((HB.out.cell (World.block_lt_of_cell? w _ hw265_0)).trans hw265_0)⟩ (fun hHeld => ?_); refine with_tabW agoraref03_next.tab15 agoraref03_next.bits15 (fun HT_ HW_ => ?_)
                      generalize wr.drew = w44 at HO_7 HB GG43 HQ46 hf43_0 hx264_0 hx265_0 hx43_0 hHeld ⊢
                      refine pure_ (i := 0) (N := some 140) (v := ?_) (a' := ?_) #[true, false, false, false, false, false, false, false, false, false, false, false, false] rfl rfl (any_of HT_.out (by kernel_rfl)) (fun _ _ _ h => h) (Or.inl ⟨by rfl, ?_⟩) ?_ ?_
                      rotate_left
                      · intro w'
                        go_simp
                        with_reducible rfl
                      rotate_left
                      · simp only [Act.put, List.setIfInBounds_toArray, List.set_cons_zero, List.set_cons_succ, i64_w, i32_w]
                        rfl
                      refine pure_ (i := 1) (N := some 141) (v := ?_) (a' := ?_) #[true, true, false, false, false, false, false, false, false, false, false, false, false] rfl rfl (any_of HT_.out (by kernel_rfl)) (fun _ _ _ h => h) (Or.inl ⟨by rfl, ?_⟩) ?_ ?_
                      rotate_left
                      · intro w'
                        go_simp
                        with_reducible rfl
                      rotate_left
                      · simp only [Act.put, List.setIfInBounds_toArray, List.set_cons_zero, List.set_cons_succ, i64_w, i32_w]
                        rfl
                      refine pure_ (i := 2) (N := some 142) (v := ?_) (a' := ?_) #[true, true, true, false, false, false, false, false, false, false, false, false, false] rfl rfl (any_of HT_.out (by kernel_rfl)) (fun _ _ _ h => h) (Or.inl ⟨by rfl, ?_⟩) ?_ ?_
                      rotate_left
                      · intro w'
                        go_simp
                        with_reducible rfl
                      rotate_left
                      · simp only [Act.put, List.setIfInBounds_toArray, List.set_cons_zero, List.set_cons_succ, i64_w, i32_w]
                        rfl
                      refine pure_ (i := 3) (N := some 143) (v := ?_) (a' := ?_) #[true, true, true, true, false, false, false, false, false, false, false, false, false] rfl rfl (any_of HT_.out (by kernel_rfl)) (fun _ _ _ h => h) (Or.inl ⟨by rfl, ?_⟩) ?_ ?_
                      rotate_left
                      · intro w'
                        go_simp
                        with_reducible rfl
                      rotate_left
                      · simp only [Act.put, List.setIfInBounds_toArray, List.set_cons_zero, List.set_cons_succ, i64_w, i32_w]
                        rfl
                      refine pure_ (i := 4) (N := some 144) (v := ?_) (a' := ?_) #[true, true, true, true, true, false, false, false, false, false, false, false, false] rfl rfl (any_of HT_.out (by kernel_rfl)) (fun _ _ _ h => h) (Or.inl ⟨by rfl, ?_⟩) ?_ ?_
                      rotate_left
                      · intro w'
                        go_simp
                        with_reducible rfl
                      rotate_left
                      · simp only [Act.put, List.setIfInBounds_toArray, List.set_cons_zero, List.set_cons_succ, i64_w, i32_w]
                        rfl
                      refine pure_ (i := 6) (N := some 146) (v := ?_) (a' := ?_) #[true, true, true, true, true, false, true, false, false, false, false, false, false] rfl rfl (any_of HT_.out (by kernel_rfl)) (fun _ _ _ h => h) (Or.inl ⟨by rfl, ?_⟩) ?_ ?_
                      rotate_left
                      · intro w'
                        go_simp
                        with_reducible rfl
                      rotate_left
                      · simp only [Act.put, List.setIfInBounds_toArray, List.set_cons_zero, List.set_cons_succ, i64_w, i32_w]
                        rfl
                      refine pure_ (i := 7) (N := some 147) (v := ?_) (a' := ?_) #[true, true, true, true, true, false, true, true, false, false, false, false, false] rfl rfl (any_of HT_.out (by kernel_rfl)) (fun _ _ _ h => h) (Or.inl ⟨by rfl, ?_⟩) ?_ ?_
                      rotate_left
                      · intro w'
                        go_simp
                        with_reducible rfl
                      rotate_left
                      · simp only [Act.put, List.setIfInBounds_toArray, List.set_cons_zero, List.set_cons_succ, i64_w, i32_w]
                        rfl
                      refine pure_ (i := 8) (N := some 148) (v := ?_) (a' := ?_) #[true, true, true, true, true, false, true, true, true, false, false, false, false] rfl rfl (any_of HT_.out (by kernel_rfl)) (fun _ _ _ h => h) (Or.inl ⟨by rfl, ?_⟩) ?_ ?_
                      rotate_left
                      · intro w'
                        go_simp
                        with_reducible rfl
                      rotate_left
                      · simp only [Act.put, List.setIfInBounds_toArray, List.set_cons_zero, List.set_cons_succ, i64_w, i32_w]
                        rfl
                      refine take_ (i := 5) (N := some 145) (v := ?_) (a' := ?_) #[true, true, true, true, true, true, true, true, true, false, false, false, false] rfl rfl (take_ofW HT_.out HW_.out (by kernel_rfl)) (fun _ _ _ h => h) (Or.inl ⟨by rfl, ?_⟩) hHeld ?_ ?_
                      rotate_left
                      · rintro w' ⟨s0, s1⟩
                        go_simp
                        with_reducible rfl
                      rotate_left
                      · simp only [Act.put, List.setIfInBounds_toArray, List.set_cons_zero, List.set_cons_succ, i64_w, i32_w]
                        rfl
                      refine take_ (i := 9) (N := some 149) (v := ?_) (a' := ?_) #[true, true, true, true, true, true, true, true, true, true, false, false, false] rfl rfl (take_ofW HT_.out HW_.out (by kernel_rfl)) (fun _ _ _ h => h) (Or.inl ⟨by rfl, ?_⟩) hHeld ?_ ?_
                      rotate_left
                      · rintro w' ⟨s0, s1⟩
                        go_simp
                        with_reducible rfl
                      rotate_left
                      · simp only [Act.put, List.setIfInBounds_toArray, List.set_cons_zero, List.set_cons_succ, i64_w, i32_w]
                        rfl
                      refine pure_ (i := 10) (N := some 150) (v := ?_) (a' := ?_) #[true, true, true, true, true, true, true, true, true, true, true, false, false] rfl rfl (any_of HT_.out (by kernel_rfl)) (fun _ _ _ h => h) (Or.inl ⟨by rfl, ?_⟩) ?_ ?_
                      rotate_left
                      · intro w'
                        go_simp
                        with_reducible rfl
                      rotate_left
                      · simp only [Act.put, List.setIfInBounds_toArray, List.set_cons_zero, List.set_cons_succ, i64_w, i32_w]
                        rfl
                      refine pure_ (i := 11) (N := some 151) (v := ?_) (a' := ?_) #[true, true, true, true, true, true, true, true, true, true, true, true, false] rfl rfl (any_of HT_.out (by kernel_rfl)) (fun _ _ _ h => h) (Or.inl ⟨by rfl, ?_⟩) ?_ ?_
                      rotate_left
                      · intro w'
                        go_simp
                        with_reducible rfl
                      rotate_left
                      · simp only [Act.put, List.setIfInBounds_toArray, List.set_cons_zero, List.set_cons_succ, i64_w, i32_w]
                        rfl
                      refine last_ (i := 12) (N := none) #[true, true, true, true, true, true, true, true, true, true, true, true, true] rfl rfl (one_of HT_.out (by kernel_rfl)) (by decide) (fun K hK => ?_)
                      refine skip_ (w1 := ?_) (by rfl) rfl ?_ ?_
                      rotate_left
                      · go_simp
                        rfl
                      refine hK.out _ _ ?_
                      clear hK K
                      refine done_ (done_of HT_.out (by kernel_rfl)) ?_
                      try go_wp2
                      go_roundg k2
                      case measure => have := HK1.out; have := HK2.out; omega
                      case rel => exact ⟨(y266), (wrap64 (x13_2 + 1)), (by first | rfl | (simp; done) | (simp [*]; done)), H', ⟨by have := HK1.out; have := HK2.out; omega⟩, ⟨by (with_reducible repeat (first | apply Kd.R_alloc | apply Kd.R_drewN | apply Kd.R_drew)); exact HQ46.out⟩, ⟨by repeat (first | (with_reducible first | exact HB.out | apply below_alloc | apply pw_below_drewN | apply below_drew1 | refine below_set ?_ GB43.out) | exact HB.out)⟩⟩
                    · rw [if_neg c42] at H
                      exact absurd H (by simp)
                  · rw [if_neg c41] at H
                    exact absurd H (by simp)
                · rw [if_neg c40] at H
                  exact absurd H (by simp)
              · rw [if_neg c39] at H
                have c39b0 : decide (x13_2 < 8) = false := decide_eq_false c39
                clear c39
                obtain rfl := Option.some.inj H
                go_wp2
                go_ret
                exact ⟨_, by first | rfl | (simp [errW_none, errW_some] <;> rfl) | (simp [*, errW_none, errW_some] <;> rfl), by (with_reducible repeat (first | apply Kd.R_alloc | apply Kd.R_drewN | apply Kd.R_drew)); exact HO_7.out, by repeat (first | (with_reducible first | exact HB.out | apply below_alloc | apply pw_below_drewN | apply below_drew1) | exact HB.out)⟩
  · rw [if_neg c5] at H
    exact absurd H (by simp)
end Go.Proofs.Ytdmeclmniooedaa.P
end P13_
section Next_
namespace Go.Proofs.Ytdmeclmniooedaa.Sch
open Go.RowKit Go.Proofs.Ytdmeclmniooedaa.P Go.Proofs.Ytdmeclmniooedaa.ShaL Go.Proofs.YtdmeclmniooedaaW.PrintWords Go.Proofs.YtdmeclmniooedaaW.PrintLast Go.Proofs.YtdmeclmniooedaaW.PrintMore
set_option linter.unusedVariables false
def nt (l : List Nat) : List Int := l.map fun n : Nat => (n : Int)
theorem nt_length (l : List Nat) : (nt l).length = l.length := by simp [nt]
theorem rd_nt (l : List Nat) (i : Nat) : rd (nt l) (i : Int) = ((l.getD i 0 : Nat) : Int) := by
  simp only [rd, nt, Int.toNat_natCast, List.getD_eq_getElem?_getD, List.getElem?_map]
  cases l[i]? <;> rfl
theorem turn_eq (x n : Nat) (hx : x < 4294967296) (h0 : 0 < n) (hn : n < 32) : agoraref03_turn.f (x : Int) (n : Int) = some ((rotr x n : Nat) : Int) := by
  unfold agoraref03_turn.f
  have e2 : wrap64 (32 - (n : Int)) = ((32 - n : Nat) : Int) := by rw [wrap64]; omega
  rw [e2, if_pos (by omega), if_pos (by omega)]
  have e3 : shl .u32 (x : Int) ((32 - n : Nat) : Int) = (((x <<< (32 - n)) % 4294967296 : Nat) : Int) := by
    unfold shl
    rw [Int.toNat_natCast, show min (32 - n) IntKind.u32.bits = 32 - n by have : IntKind.u32.bits = 32 := rfl; omega, IntKind.wrap_u32', Nat.shiftLeft_eq]
    simp only [Int.natCast_emod, Int.natCast_mul, Int.natCast_pow]; rfl
  have e4 : shr .u32 (x : Int) (n : Int) = ((x >>> n : Nat) : Int) := by
    unfold shr
    rw [Int.toNat_natCast, show min n IntKind.u32.bits = n by have : IntKind.u32.bits = 32 := rfl; omega, Nat.shiftRight_eq_div_pow]
    simp only [Int.natCast_ediv, Int.natCast_pow]; rfl
  rw [e3, e4, or_nat _ _ (Nat.lt_of_le_of_lt (Nat.shiftRight_le x n) hx) (Nat.mod_lt _ (by decide))]
  rfl
theorem getLt256 {l : List Nat} (h : ∀ n ∈ l, n < 256) (j : Nat) : l.getD j 0 < 256 := by
  rw [List.getD_eq_getElem?_getD]
  cases e : l[j]? with
  | none => simp
  | some x => simpa using h x (List.mem_of_getElem? e)
theorem wNext_ge (b l : List Nat) (i : Nat) (h : 16 ≤ i) : wNext b l i = (l.getD (i - 16) 0 + sg0 (l.getD (i - 15) 0) + l.getD (i - 7) 0 + sg1 (l.getD (i - 2) 0)) % 4294967296 := if_neg (Nat.not_lt.2 h)
theorem wNext_lt (b l : List Nat) (i : Nat) (h : i < 16) : wNext b l i = b.getD (4 * i) 0 * 16777216 + b.getD (4 * i + 1) 0 * 65536 + b.getD (4 * i + 2) 0 * 256 + b.getD (4 * i + 3) 0 := if_pos h
theorem sum_mod (a b c d e : Int) : ((((a + b) % 4294967296 + c) % 4294967296 + d) % 4294967296 + e) % 4294967296 = (a + b + c + d + e) % 4294967296 := by
  rw [Int.emod_add_emod (a + b) _ c, Int.emod_add_emod (a + b + c) _ d, Int.emod_add_emod (a + b + c + d) _ e]
theorem four (x16 y0 x7 y1 : Nat) : ((((x16 : Int) + (y0 : Int)) % 4294967296 + (x7 : Int)) % 4294967296 + (y1 : Int)) % 4294967296 = (((x16 + y0 + x7 + y1) % 4294967296 : Nat) : Int) := by
  rw [Int.emod_add_emod ((x16 : Int) + y0) _ x7, Int.emod_add_emod ((x16 : Int) + y0 + x7) _ y1]; omega
theorem bytes4 (x0 x1 x2 x3 : Nat) (g0 : x0 < 256) (g1 : x1 < 256) (g2 : x2 < 256) (g3 : x3 < 256) : (((((((x0 : Int) % 4294967296 * 16777216) % 4294967296 + ((x1 : Int) % 4294967296 * 65536) % 4294967296) % 4294967296) + ((x2 : Int) % 4294967296 * 256) % 4294967296) % 4294967296 + (x3 : Int) % 4294967296) % 4294967296) = ((x0 * 16777216 + x1 * 65536 + x2 * 256 + x3 : Nat) : Int) := by
  have e0 : (x0 : Int) % 4294967296 * 16777216 % 4294967296 = ((x0 * 16777216 : Nat) : Int) := by omega
  have e1 : (x1 : Int) % 4294967296 * 65536 % 4294967296 = ((x1 * 65536 : Nat) : Int) := by omega
  have e2 : (x2 : Int) % 4294967296 * 256 % 4294967296 = ((x2 * 256 : Nat) : Int) := by omega
  have e3 : (x3 : Int) % 4294967296 = (x3 : Int) := by omega
  rw [e0, e1, e2, e3]; clear e0 e1 e2 e3
  rw [Int.emod_add_emod ((x0 * 16777216 : Nat) + (x1 * 65536 : Nat) : Int) _ (x2 * 256 : Nat), Int.emod_add_emod _ _ (x3 : Int)]
  omega
theorem words_l1_step (k : Nat) (X : List Int) (i : Nat) (hX : X.length = i) (h16 : 16 ≤ i) (h64 : i < 64) (x16 x15 x7 x2 : Nat) (l15 : x15 < 4294967296) (l2 : x2 < 4294967296) :
    (rd X ((i - 16 : Nat) : Int) = (x16 : Int)) → (rd X ((i - 15 : Nat) : Int) = (x15 : Int)) → (rd X ((i - 7 : Nat) : Int) = (x7 : Int)) → (rd X ((i - 2 : Nat) : Int) = (x2 : Int)) → 
    agoraref03_words.l1 (k + 1) X (i : Int) = agoraref03_words.l1 k (X ++ [(((x16 + sg0 x15 + x7 + sg1 x2) % 4294967296 : Nat) : Int)]) ((i + 1 : Nat) : Int) := by
  have c0 : (i : Int) < 64 := by omega
  have c1 : (0 : Int) ≤ ((i - 15 : Nat) : Int) := by omega
  have c2 : ((i - 15 : Nat) : Int) < (i : Int) := by omega
  have c3 : (0 : Int) ≤ ((i - 2 : Nat) : Int) := by omega
  have c4 : ((i - 2 : Nat) : Int) < (i : Int) := by omega
  have c5 : (0 : Int) ≤ ((i - 16 : Nat) : Int) := by omega
  have c6 : ((i - 16 : Nat) : Int) < (i : Int) := by omega
  have c7 : (0 : Int) ≤ ((i - 7 : Nat) : Int) := by omega
  have c8 : ((i - 7 : Nat) : Int) < (i : Int) := by omega
  have c9 : i < 35184372088832 := by omega
  have C := Lib.hid (And.intro c0 (And.intro c1 (And.intro c2 (And.intro c3 (And.intro c4 (And.intro c5 (And.intro c6 (And.intro c7 (And.intro c8 c9)))))))))
  clear c0 c1 c2 c3 c4 c5 c6 c7 c8 c9
  have w15 : wrap64 ((i : Int) - 15) = ((i - 15 : Nat) : Int) := by rw [wrap64]; omega
  have w2 : wrap64 ((i : Int) - 2) = ((i - 2 : Nat) : Int) := by rw [wrap64]; omega
  have w16 : wrap64 ((i : Int) - 16) = ((i - 16 : Nat) : Int) := by rw [wrap64]; omega
  have w7 : wrap64 ((i : Int) - 7) = ((i - 7 : Nat) : Int) := by rw [wrap64]; omega
  have w1 : wrap64 ((i : Int) + 1) = ((i + 1 : Nat) : Int) := by rw [wrap64]; omega
  have r1 : agoraref03_turn.f (x15 : Int) 7 = _ := turn_eq x15 7 l15 (by decide) (by decide)
  have r2 : agoraref03_turn.f (x15 : Int) 18 = _ := turn_eq x15 18 l15 (by decide) (by decide)
  have r3 : agoraref03_turn.f (x2 : Int) 17 = _ := turn_eq x2 17 l2 (by decide) (by decide)
  have r4 : agoraref03_turn.f (x2 : Int) 19 = _ := turn_eq x2 19 l2 (by decide) (by decide)
  have s0 := sg0_int x15 l15
  have s1 := sg1_int x2 l2
  obtain ⟨c0, c1, c2, c3, c4, c5, c6, c7, c8, c9⟩ := C.out
  intro e16 e15 e7 e2
  rw [agoraref03_words.l1, if_pos c0, w15, w2, w16, w7, w1, e16, e15, e7, e2, hX, if_pos c1, if_pos c2, if_pos c3, if_pos c4, r1, Option.bind_some, r2, Option.bind_some, r3, Option.bind_some, r4, Option.bind_some, if_pos c5, if_pos c6, if_pos c7, if_pos c8, if_pos c9, s0, s1]
  generalize sg0 x15 = y0
  generalize sg1 x2 = y1
  clear r1 r2 r3 r4 s0 s1 e16 e15 e7 e2
  rw [four]
theorem nt_snoc (l : List Nat) (n : Nat) : nt (l ++ [n]) = nt l ++ [(n : Int)] := by simp only [nt, List.map_append, List.map_cons, List.map_nil]
theorem wTo_succ (b : List Nat) (i : Nat) : wTo b (i + 1) = wTo b i ++ [wNext b (wTo b i) i] := rfl
theorem words_l1 (b : List Nat) (hb : ∀ n ∈ b, n < 256) (m : Nat) : ∀ k i, i + m = 64 → 16 ≤ i → m + 1 ≤ k → agoraref03_words.l1 k (nt (wTo b i)) (i : Int) = some (nt (wTo b 64)) := by
  induction m with
  | zero =>
    intro k i hi h16 hk
    obtain ⟨k, rfl⟩ : ∃ k', k = k' + 1 := ⟨k - 1, by omega⟩
    obtain rfl : i = 64 := by omega
    rw [agoraref03_words.l1, if_neg (by omega)]
  | succ m ih =>
    intro k i hi h16 hk
    obtain ⟨k, rfl⟩ : ∃ k', k = k' + 1 := ⟨k - 1, by omega⟩
    have hi' : i < 64 := by omega
    have := ih k (i + 1) (by omega) (by omega) (by omega)
    rw [words_l1_step k (nt (wTo b i)) i (by rw [nt_length, wTo_length]) h16 hi' _ _ _ _ (getLt (wTo_lt b hb i) (i - 15)) (getLt (wTo_lt b hb i) (i - 2)) (rd_nt _ _) (rd_nt _ _) (rd_nt _ _) (rd_nt _ _)]
    rw [wTo_succ, wNext_ge _ _ _ h16, nt_snoc] at this
    exact this
theorem words_l0_step (k : Nat) (B X : List Int) (i : Nat) (hB : B.length = 64) (hX : X.length = i) (h16 : i < 16) (x0 x1 x2 x3 : Nat) (g0 : x0 < 256) (g1 : x1 < 256) (g2 : x2 < 256) (g3 : x3 < 256) :
    (rd B ((4 * i : Nat) : Int) = (x0 : Int)) → (rd B ((4 * i + 1 : Nat) : Int) = (x1 : Int)) → (rd B ((4 * i + 2 : Nat) : Int) = (x2 : Int)) → (rd B ((4 * i + 3 : Nat) : Int) = (x3 : Int)) → 
    agoraref03_words.l0 (k + 1) B X (i : Int) = agoraref03_words.l0 k B (X ++ [((x0 * 16777216 + x1 * 65536 + x2 * 256 + x3 : Nat) : Int)]) ((i + 1 : Nat) : Int) := by
  have c0 : (i : Int) < 16 := by omega
  have c1 : (0 : Int) ≤ ((4 * i : Nat) : Int) := by omega
  have c2 : ((4 * i : Nat) : Int) < ((64 : Nat) : Int) := by omega
  have c3 : (0 : Int) ≤ ((4 * i + 1 : Nat) : Int) := by omega
  have c4 : ((4 * i + 1 : Nat) : Int) < ((64 : Nat) : Int) := by omega
  have c5 : (0 : Int) ≤ ((4 * i + 2 : Nat) : Int) := by omega
  have c6 : ((4 * i + 2 : Nat) : Int) < ((64 : Nat) : Int) := by omega
  have c7 : (0 : Int) ≤ ((4 * i + 3 : Nat) : Int) := by omega
  have c8 : ((4 * i + 3 : Nat) : Int) < ((64 : Nat) : Int) := by omega
  have c9 : i < 35184372088832 := by omega
  have C := Lib.hid (And.intro c0 (And.intro c1 (And.intro c2 (And.intro c3 (And.intro c4 (And.intro c5 (And.intro c6 (And.intro c7 (And.intro c8 c9)))))))))
  clear c0 c1 c2 c3 c4 c5 c6 c7 c8 c9
  have q0 : wrap64 (4 * (i : Int)) = ((4 * i : Nat) : Int) := by rw [wrap64]; omega
  have q1 : wrap64 (((4 * i : Nat) : Int) + 1) = ((4 * i + 1 : Nat) : Int) := by rw [wrap64]; omega
  have q2 : wrap64 (((4 * i : Nat) : Int) + 2) = ((4 * i + 2 : Nat) : Int) := by rw [wrap64]; omega
  have q3 : wrap64 (((4 * i : Nat) : Int) + 3) = ((4 * i + 3 : Nat) : Int) := by rw [wrap64]; omega
  have w1 : wrap64 ((i : Int) + 1) = ((i + 1 : Nat) : Int) := by rw [wrap64]; omega
  obtain ⟨c0, c1, c2, c3, c4, c5, c6, c7, c8, c9⟩ := C.out
  intro e0 e1 e2 e3
  rw [agoraref03_words.l0, if_pos c0, q0, q1, q2, q3, w1, e0, e1, e2, e3, hB, hX, if_pos c1, if_pos c2, if_pos c3, if_pos c4, if_pos c5, if_pos c6, if_pos c7, if_pos c8, if_pos c9]
  rw [bytes4 x0 x1 x2 x3 g0 g1 g2 g3]
theorem words_l0 (b : List Nat) (hb : ∀ n ∈ b, n < 256) (hl : b.length = 64) (m : Nat) : ∀ k i, i + m = 16 → m + 100 ≤ k → agoraref03_words.l0 k (nt b) (nt (wTo b i)) (i : Int) = some (nt (wTo b 64)) := by
  induction m with
  | zero =>
    intro k i hi hk
    obtain ⟨k, rfl⟩ : ∃ k', k = k' + 1 := ⟨k - 1, by omega⟩
    obtain rfl : i = 16 := by omega
    rw [agoraref03_words.l0, if_neg (by omega)]
    exact words_l1 b hb 48 k 16 rfl (Nat.le_refl _) (by omega)
  | succ m ih =>
    intro k i hi hk
    obtain ⟨k, rfl⟩ : ∃ k', k = k' + 1 := ⟨k - 1, by omega⟩
    have hi' : i < 16 := by omega
    have := ih k (i + 1) (by omega) (by omega)
    rw [words_l0_step k (nt b) (nt (wTo b i)) i (by rw [nt_length, hl]) (by rw [nt_length, wTo_length]) hi' _ _ _ _ (getLt256 hb (4 * i)) (getLt256 hb (4 * i + 1)) (getLt256 hb (4 * i + 2)) (getLt256 hb (4 * i + 3)) (rd_nt _ _) (rd_nt _ _) (rd_nt _ _) (rd_nt _ _)]
    rw [wTo_succ, wNext_lt _ _ _ hi', nt_snoc] at this
    exact this
theorem words_at (b : List Nat) (hb : ∀ n ∈ b, n < 256) (hl : b.length = 64) (k : Nat) (hk : 200 ≤ k) : agoraref03_words.f k (nt b) = some (nt (wTo b 64)) :=
  words_l0 b hb hl 16 k 0 rfl (by omega)
theorem nt_set (l : List Nat) (j n : Nat) : (nt l).set j (n : Int) = nt (l.set j n) := by simp only [nt, List.map_set]
theorem next_l1 (r h : List Nat) (hr : r.length = 8) (hh : h.length = 8) (m : Nat) : ∀ k j, j + m = 8 → m + 1 ≤ k → agoraref03_next.l1 k (nt h) (nt (midL r h j)) (j : Int) = some (nt (midL r h 8)) := by
  induction m with
  | zero =>
    intro k j hj hk
    obtain ⟨k, rfl⟩ : ∃ k', k = k' + 1 := ⟨k - 1, by omega⟩
    obtain rfl : j = 8 := by omega
    rw [agoraref03_next.l1, if_neg (by omega)]
  | succ m ih =>
    intro k j hj hk
    obtain ⟨k, rfl⟩ : ∃ k', k = k' + 1 := ⟨k - 1, by omega⟩
    have w1 : wrap64 ((j : Int) + 1) = ((j + 1 : Nat) : Int) := by rw [wrap64]; omega
    have l1 : (nt (midL r h j)).length = 8 := by rw [nt_length, midL_length hr hh j (by omega)]
    have l2 : (nt h).length = 8 := by rw [nt_length, hh]
    have := ih k (j + 1) (by omega) (by omega)
    rw [agoraref03_next.l1, if_pos (by omega), if_pos (by omega), l1, l2, if_pos (by omega), if_pos (by omega), w1, rd_nt, rd_nt, midL_get hr hh j (by omega), Int.toNat_natCast,
      show (((r.getD j 0 : Nat) : Int) + ((h.getD j 0 : Nat) : Int)) % 4294967296 = (((r.getD j 0 + h.getD j 0) % 4294967296 : Nat) : Int) by omega, nt_set, midL_set hr hh j (by omega)]
    exact this
theorem bs1_int (x : Nat) (hx : x < 4294967296) : Go.bits .xor .u32 (Go.bits .xor .u32 ((rotr x 6 : Nat) : Int) ((rotr x 11 : Nat) : Int)) ((rotr x 25 : Nat) : Int) = ((bs1 x : Nat) : Int) := by
  rw [xor_nat _ _ (rotr_lt _ _ hx) (rotr_lt _ _ hx), xor_nat _ _ (xor_lt _ _ (rotr_lt _ _ hx) (rotr_lt _ _ hx)) (rotr_lt _ _ hx)]; rfl
theorem bs0_int (x : Nat) (hx : x < 4294967296) : Go.bits .xor .u32 (Go.bits .xor .u32 ((rotr x 2 : Nat) : Int) ((rotr x 13 : Nat) : Int)) ((rotr x 22 : Nat) : Int) = ((bs0 x : Nat) : Int) := by
  rw [xor_nat _ _ (rotr_lt _ _ hx) (rotr_lt _ _ hx), xor_nat _ _ (xor_lt _ _ (rotr_lt _ _ hx) (rotr_lt _ _ hx)) (rotr_lt _ _ hx)]; rfl
theorem next_l0 (h b : List Nat) (hh : h.length = 8) (hlt : ∀ n ∈ h, n < 4294967296) (m : Nat) : ∀ k i, i + m = 64 → m + 20 ≤ k →
    agoraref03_next.l0 k (nt h) (nt (wTo b 64)) (nt kL) (nt (rTo h b i)) (i : Int) = some (nt (stepL h b)) := by
  induction m with
  | zero =>
    intro k i hi hk
    obtain ⟨k, rfl⟩ : ∃ k', k = k' + 1 := ⟨k - 1, by omega⟩
    obtain rfl : i = 64 := by omega
    have hr := rTo_length b hh 64
    have := next_l1 (rTo h b 64) h hr hh 8 k 0 (by omega) (by omega)
    rw [midL_end hr hh, show midL (rTo h b 64) h 0 = rTo h b 64 by rw [midL, List.take_zero, List.drop_zero, List.nil_append]] at this
    rw [agoraref03_next.l0, if_neg (by omega)]
    exact this
  | succ m ih =>
    intro k i hi hk
    obtain ⟨k, rfl⟩ : ∃ k', k = k' + 1 := ⟨k - 1, by omega⟩
    have hR := rTo_length b hh i
    have hRl := rTo_lt b hlt i
    have := ih k (i + 1) (by omega) (by omega)
    have w1 : wrap64 ((i : Int) + 1) = ((i + 1 : Nat) : Int) := by rw [wrap64]; omega
    have hW : (nt (wTo b 64)).length = 64 := by rw [nt_length, wTo_length]
    have hK : (nt kL).length = 64 := by rw [nt_length, kL_length]
    have rW := rd_nt (wTo b 64) i
    have rK := rd_nt kL i
    rw [show rTo h b (i + 1) = round (rTo h b i) (kL.getD i 0) ((wTo b 64).getD i 0) from rfl] at this
    generalize rTo h b i = v at hR hRl this ⊢
    generalize (wTo b 64).getD i 0 = ww at rW this
    generalize kL.getD i 0 = kk at rK this
    generalize nt (wTo b 64) = W at hW rW this ⊢
    generalize nt kL = K at hK rK this ⊢
    match v, hR with
    | [a0, a1, a2, a3, a4, a5, a6, a7], _ =>
    have l0 : a0 < 4294967296 := hRl a0 (by simp)
    have l1 : a1 < 4294967296 := hRl a1 (by simp)
    have l2 : a2 < 4294967296 := hRl a2 (by simp)
    have l3 : a3 < 4294967296 := hRl a3 (by simp)
    have l4 : a4 < 4294967296 := hRl a4 (by simp)
    have l5 : a5 < 4294967296 := hRl a5 (by simp)
    have l6 : a6 < 4294967296 := hRl a6 (by simp)
    have l7 : a7 < 4294967296 := hRl a7 (by simp)
    obtain ⟨X, hX⟩ : ∃ X, X = nt [a0, a1, a2, a3, a4, a5, a6, a7] := ⟨_, rfl⟩
    have hL : X.length = 8 := by rw [hX]; rfl
    have x0 : rd X 0 = (a0 : Int) := by rw [hX]; rfl
    have x1 : rd X 1 = (a1 : Int) := by rw [hX]; rfl
    have x2 : rd X 2 = (a2 : Int) := by rw [hX]; rfl
    have x3 : rd X 3 = (a3 : Int) := by rw [hX]; rfl
    have x4 : rd X 4 = (a4 : Int) := by rw [hX]; rfl
    have x5 : rd X 5 = (a5 : Int) := by rw [hX]; rfl
    have x6 : rd X 6 = (a6 : Int) := by rw [hX]; rfl
    have x7 : rd X 7 = (a7 : Int) := by rw [hX]; rfl
    have t6 : agoraref03_turn.f (a4 : Int) 6 = _ := turn_eq a4 6 l4 (by decide) (by decide)
    have t11 : agoraref03_turn.f (a4 : Int) 11 = _ := turn_eq a4 11 l4 (by decide) (by decide)
    have t25 : agoraref03_turn.f (a4 : Int) 25 = _ := turn_eq a4 25 l4 (by decide) (by decide)
    have t2 : agoraref03_turn.f (a0 : Int) 2 = _ := turn_eq a0 2 l0 (by decide) (by decide)
    have t13 : agoraref03_turn.f (a0 : Int) 13 = _ := turn_eq a0 13 l0 (by decide) (by decide)
    have t22 : agoraref03_turn.f (a0 : Int) 22 = _ := turn_eq a0 22 l0 (by decide) (by decide)
    have e1 := tOne_int a4 a5 a6 a7 kk ww l4 l5 l6
    have e2 := tTwo_int a0 a1 a2 l0 l1 l2
    rw [← sum_mod] at e1
    rw [← hX, agoraref03_next.l0, if_pos (by omega), if_pos (by omega), x4, t6, Option.bind_some, t11, Option.bind_some, t25, Option.bind_some, if_pos (by omega), if_pos (by omega), if_pos (by omega), if_pos (by omega), if_pos (by omega), if_pos (by omega), if_pos (by omega),
      x0, t2, Option.bind_some, t13, Option.bind_some, t22, Option.bind_some, if_pos (by omega), if_pos (by omega), if_pos (by omega), x7, x5, x6, x1, x2, x3, rW, rK, w1, bs1_int a4 l4, bs0_int a0 l0, e1, e2]
    rw [show [(((tOne a4 a5 a6 a7 kk ww : Nat) : Int) + ((tTwo a0 a1 a2 : Nat) : Int)) % 4294967296, (a0 : Int), (a1 : Int), (a2 : Int), ((a3 : Int) + ((tOne a4 a5 a6 a7 kk ww : Nat) : Int)) % 4294967296, (a4 : Int), (a5 : Int), (a6 : Int)] = nt (round [a0, a1, a2, a3, a4, a5, a6, a7] kk ww) from rfl]
    exact this
theorem next_at (h b : List Nat) (hh : h.length = 8) (hlt : ∀ n ∈ h, n < 4294967296) (hb : ∀ n ∈ b, n < 256) (hl : b.length = 64) (k : Nat) (hk : 200 ≤ k) : agoraref03_next.f k (nt h) (nt b) = some (nt (stepL h b)) := by
  have ha : agoraref03_adds.f = some (nt kL) := by rfl
  have h0 := next_l0 h b hh hlt 64 k 0 (by omega) (by omega)
  unfold agoraref03_next.f
  rw [words_at b hb hl k hk, Option.bind_some, ha, Option.bind_some, Option.bind_some, List.nil_append, if_pos (by rw [nt_length, hh]; simp)]
  exact h0
end Go.Proofs.Ytdmeclmniooedaa.Sch
end Next_
