/- Texts of this claim, merged: what the functions that the law reaches compute, and what that says. -/
import Derived.Test.YtkhkppehdgkboaaKA4
import Derived.Test.YtkhkppehdgkboaaKA6
import Derived.Test.YtkhkppehdgkboaaKA10
import Derived.Test.YtkhkppehdgkboaaKA15
section P10_
namespace Go.Proofs.Ytkhkppehdgkboaa.P
open Go.RowKit Go.Proofs.YtkhkppehdgkboaaW.PrintWords Go.Proofs.YtkhkppehdgkboaaW.PrintLast Go.Proofs.YtkhkppehdgkboaaW.PrintMore
attribute [local go_sem] max2_int min2_int max_two min_two max_three min_three max_four min_four   -- for this text's walks alone
set_option linter.unusedVariables false
set_option linter.unusedSimpArgs false
mutual
def agoraref03_next.l0 : Nat → List Int → List Int → List Int → List Int → Int → Option (List Int)
  | 0, _, _, _, _, _ => none
  | k + 1, x0, x5, x6, x7, x8 => if x8 < 64 then (if 4 < (x7.length : Int) then ((agoraref03_turn.f (rd x7 4) 6).bind fun t220 => ((agoraref03_turn.f (rd x7 4) 11).bind fun t222 => ((agoraref03_turn.f (rd x7 4) 25).bind fun t224 => (if 7 < (x7.length : Int) then (if 5 < (x7.length : Int) then (if 6 < (x7.length : Int) then (if 0 ≤ x8 then (if x8 < (x6.length : Int) then (if x8 < (x5.length : Int) then (if 0 < (x7.length : Int) then ((agoraref03_turn.f (rd x7 0) 2).bind fun t233 => ((agoraref03_turn.f (rd x7 0) 13).bind fun t235 => ((agoraref03_turn.f (rd x7 0) 22).bind fun t237 => (if 1 < (x7.length : Int) then (if 2 < (x7.length : Int) then (if 3 < (x7.length : Int) then (agoraref03_next.l0 k x0 x5 x6 (([((((((((((rd x7 7) + (Go.bits .xor .u32 (Go.bits .xor .u32 t220 t222) t224)) % 4294967296) + (Go.bits .xor .u32 (Go.bits .and .u32 (rd x7 4) (rd x7 5)) (Go.bits .and .u32 (Go.bits .xor .u32 IntKind.u32.max (rd x7 4)) (rd x7 6)))) % 4294967296) + (rd x6 x8)) % 4294967296) + (rd x5 x8)) % 4294967296) + (((Go.bits .xor .u32 (Go.bits .xor .u32 t233 t235) t237) + (Go.bits .xor .u32 (Go.bits .xor .u32 (Go.bits .and .u32 (rd x7 0) (rd x7 1)) (Go.bits .and .u32 (rd x7 0) (rd x7 2))) (Go.bits .and .u32 (rd x7 1) (rd x7 2)))) % 4294967296)) % 4294967296, rd x7 0, rd x7 1, rd x7 2, ((rd x7 3) + (((((((((rd x7 7) + (Go.bits .xor .u32 (Go.bits .xor .u32 t220 t222) t224)) % 4294967296) + (Go.bits .xor .u32 (Go.bits .and .u32 (rd x7 4) (rd x7 5)) (Go.bits .and .u32 (Go.bits .xor .u32 IntKind.u32.max (rd x7 4)) (rd x7 6)))) % 4294967296) + (rd x6 x8)) % 4294967296) + (rd x5 x8)) % 4294967296)) % 4294967296, rd x7 4, rd x7 5, rd x7 6] : List Int)) (wrap64 (x8 + 1))) else (none)) else (none)) else (none))))) else (none)) else (none)) else (none)) else (none)) else (none)) else (none)) else (none))))) else (none)) else (agoraref03_next.l1 k x0 x7 0)
def agoraref03_next.l1 : Nat → List Int → List Int → Int → Option (List Int)
  | 0, _, _, _ => none
  | k + 1, x0, x7, x13 => if x13 < 8 then (if 0 ≤ x13 then (if x13 < (x7.length : Int) then (if x13 < (x0.length : Int) then (agoraref03_next.l1 k x0 (x7.set (x13 : Int).toNat (((rd x7 x13) + (rd x0 x13)) % 4294967296)) (wrap64 (x13 + 1))) else (none)) else (none)) else (none)) else (some x7)
end
def agoraref03_next.f (k : Nat) (l0 : List Int) (l1 : List Int) : Option (List Int) := (agoraref03_words.f k l1).bind fun t207 => ((agoraref03_adds.f).bind fun t210 => ((some (([] : List Int) : List Int)).bind fun y213 => (if y213.length + l0.length < 35184372088832 then (agoraref03_next.l0 k l0 t207 t210 (y213 ++ l0) 0) else (none))))
def agoraref03_next.T7 : Bool × List (List Nat × List Nat) := (true, [([], []), ([0], [0]), ([1], [1]), ([2], [2]), ([], []), ([4], [4]), ([5], [5]), ([6, 3], [6]), ([3, 7], [3, 7]), ([], []), ([9], [9]), ([10], [10]), ([11, 7], [11]), ([8, 12], [8, 12]), ([13, 12, 0, 1, 2, 3, 4, 5, 6, 7, 8, 9, 10, 11, 12, 13], [13])])
def agoraref03_next.B7 : List Nat := [0, 1, 3, 7, 0, 16, 48, 127, 255, 0, 512, 1536, 3839, 8191, 16383]
theorem agoraref03_next.tab7 : rtab .any (opsOf Try.f44 7) = agoraref03_next.T7 := by kernel_rfl
theorem agoraref03_next.bits7 : waitsOk agoraref03_next.T7.2 agoraref03_next.B7 = true := by kernel_rfl
def agoraref03_next.T8 : Bool × List (List Nat × List Nat) := (true, [([], []), ([0], [0]), ([1], [1]), ([], []), ([2, 3], [2, 3]), ([], []), ([5], [5]), ([6], [6]), ([], []), ([8], [8]), ([9], [9]), ([7, 10], [7, 10]), ([], []), ([12], [12]), ([13], [13]), ([14], [14]), ([], []), ([16], [16]), ([17], [17]), ([15, 18], [15, 18]), ([11, 19], [11, 19]), ([4, 20], [4, 20]), ([], []), ([], []), ([22, 23], [22, 23]), ([24], [24]), ([21, 25], [21, 25]), ([], []), ([], []), ([27, 28], [27, 28]), ([29], [29]), ([26, 30], [26, 30]), ([31, 0, 1, 2, 3, 4, 5, 6, 7, 8, 9, 10, 11, 12, 13, 14, 15, 16, 17, 18, 19, 20, 21, 22, 23, 24, 25, 26, 27, 28, 29, 30, 31], [31])])
def agoraref03_next.B8 : List Nat := [0, 1, 3, 0, 15, 0, 32, 96, 0, 256, 768, 2016, 0, 4096, 12288, 28672, 0, 65536, 196608, 520192, 1048544, 2097151, 0, 0, 12582912, 29360128, 67108863, 0, 0, 402653184, 939524096, 2147483647, 4294967295]
theorem agoraref03_next.tab8 : rtab .any (opsOf Try.f44 8) = agoraref03_next.T8 := by kernel_rfl
theorem agoraref03_next.bits8 : waitsOk agoraref03_next.T8.2 agoraref03_next.B8 = true := by kernel_rfl
def agoraref03_next.T9 : Bool × List (List Nat × List Nat) := (true, [([], []), ([0], [0]), ([1], [1]), ([2], [2]), ([], []), ([4], [4]), ([5], [5]), ([6, 3], [6]), ([3, 7], [3, 7]), ([], []), ([9], [9]), ([10], [10]), ([11, 7], [11]), ([8, 12], [8, 12]), ([13, 12, 0, 1, 2, 3, 4, 5, 6, 7, 8, 9, 10, 11, 12, 13], [13])])
def agoraref03_next.B9 : List Nat := [0, 1, 3, 7, 0, 16, 48, 127, 255, 0, 512, 1536, 3839, 8191, 16383]
theorem agoraref03_next.tab9 : rtab .any (opsOf Try.f44 9) = agoraref03_next.T9 := by kernel_rfl
theorem agoraref03_next.bits9 : waitsOk agoraref03_next.T9.2 agoraref03_next.B9 = true := by kernel_rfl
def agoraref03_next.T10 : Bool × List (List Nat × List Nat) := (true, [([], []), ([], []), ([1], [1]), ([2], [2]), ([], []), ([4], [4]), ([5], [5]), ([3, 6], [3, 6]), ([], []), ([8], [8]), ([9], [9]), ([], []), ([11], [11]), ([12], [12]), ([10, 13], [10, 13]), ([7, 14], [7, 14]), ([], []), ([16], [16]), ([17], [17]), ([], []), ([19], [19]), ([20], [20]), ([18, 21], [18, 21]), ([15, 22], [15, 22]), ([0, 23], [0, 23]), ([24, 0, 1, 2, 3, 4, 5, 6, 7, 8, 9, 10, 11, 12, 13, 14, 15, 16, 17, 18, 19, 20, 21, 22, 23, 24], [24])])
def agoraref03_next.B10 : List Nat := [0, 0, 2, 6, 0, 16, 48, 126, 0, 256, 768, 0, 2048, 6144, 16128, 32766, 0, 65536, 196608, 0, 524288, 1572864, 4128768, 8388606, 16777215, 33554431]
theorem agoraref03_next.tab10 : rtab .any (opsOf Try.f44 10) = agoraref03_next.T10 := by kernel_rfl
theorem agoraref03_next.bits10 : waitsOk agoraref03_next.T10.2 agoraref03_next.B10 = true := by kernel_rfl
def agoraref03_next.T11 : Bool × List (List Nat × List Nat) := (true, [([], []), ([], []), ([0, 1], [0, 1]), ([], []), ([3], [3]), ([4], [4]), ([], []), ([6], [6]), ([7], [7]), ([], []), ([9], [9]), ([10], [10]), ([], []), ([12], [12]), ([13], [13]), ([], []), ([14, 15], [14, 15]), ([], []), ([17], [17]), ([18], [18]), ([], []), ([20], [20]), ([21], [21]), ([], []), ([23], [23]), ([24], [24]), ([2, 5, 8, 11, 16, 19, 22, 25], [2, 5, 8, 11, 16, 19, 22, 25]), ([26, 0, 1, 2, 3, 4, 5, 6, 7, 8, 9, 10, 11, 12, 13, 14, 15, 16, 17, 18, 19, 20, 21, 22, 23, 24, 25, 26], [3, 6, 9, 12, 17, 20, 23, 26])])
def agoraref03_next.B11 : List Nat := [0, 0, 3, 0, 8, 24, 0, 64, 192, 0, 512, 1536, 0, 4096, 12288, 0, 61440, 0, 131072, 393216, 0, 1048576, 3145728, 0, 8388608, 25165824, 67108863, 134217727]
theorem agoraref03_next.tab11 : rtab .any (opsOf Try.f44 11) = agoraref03_next.T11 := by kernel_rfl
theorem agoraref03_next.bits11 : waitsOk agoraref03_next.T11.2 agoraref03_next.B11 = true := by kernel_rfl
def agoraref03_next.T15 : Bool × List (List Nat × List Nat) := (true, [([], []), ([], []), ([], []), ([], []), ([2, 3], [2, 3]), ([4], [4]), ([], []), ([], []), ([6, 7], [6, 7]), ([8], [8]), ([5, 9], [5, 9]), ([0, 1, 0, 1, 2, 3, 4, 5, 6, 7, 8, 9, 10], [0, 1]), ([11, 10, 0, 1, 2, 3, 4, 5, 6, 7, 8, 9, 10], [10, 11])])
def agoraref03_next.B15 : List Nat := [0, 0, 0, 0, 12, 28, 0, 0, 192, 448, 1020, 2047, 4095]
theorem agoraref03_next.tab15 : rtab .any (opsOf Try.f44 15) = agoraref03_next.T15 := by kernel_rfl
theorem agoraref03_next.bits15 : waitsOk agoraref03_next.T15.2 agoraref03_next.B15 = true := by kernel_rfl
set_option maxHeartbeats 8000000 in
set_option maxRecDepth 100000 in
theorem agoraref03_next.calls (k : Nat) (A0 : Option Addr) (c0 : Nat) (l0 : List Int) (A1 : Option Addr) (c1 : Nat) (l1 : List Int) (r : List Int) (w : World) (hr0 : Kd.C (Kd.int .u32) w A0 l0.length l0) (hc0 : l0.length ≤ c0) (hr1 : Kd.C (Kd.int .u8) w A1 l1.length l1) (hc1 : l1.length ≤ c1) (h : agoraref03_next.f k l0 l1 = some r) :
    Calls Try.prog 44 #[.slice A0 l0.length c0, .slice A1 l1.length c1] w fun e w' => ∃ v0_ : Value, e = .returned (v0_) ∧ Kd.R (Kd.int .u32) 54 w' w.heap.size (fun _ => True) v0_ r ∧ Below w.heap.size w w' := by
  have HR0 := Aside0.mk hr0
  have HC0 := Aside0.mk hc0
  clear hr0 hc0
  have HR1 := Aside0.mk hr1
  have HC1 := Aside0.mk hc1
  clear hr1 hc1
  have HB := Aside0.mk (Below.refl w.heap.size w)
  have H : ((agoraref03_words.f k l1).bind fun t207 => ((agoraref03_adds.f).bind fun t210 => ((some (([] : List Int) : List Int)).bind fun y213 => (if y213.length + l0.length < 35184372088832 then (agoraref03_next.l0 k l0 t207 t210 (y213 ++ l0) 0) else (none))))) = some r := h
  clear h
  replace H := Option.bind_eq_some_iff.mp H
  obtain ⟨t207, A30, H⟩ := H
  replace H : ((agoraref03_adds.f).bind fun t210 => ((some (([] : List Int) : List Int)).bind fun y213 => (if y213.length + l0.length < 35184372088832 then (agoraref03_next.l0 k l0 t207 t210 (y213 ++ l0) 0) else (none)))) = some r := H
  have A3 := Aside0.mk A30
  clear A30
  replace H := Option.bind_eq_some_iff.mp H
  obtain ⟨t210, A40, H⟩ := H
  replace H : ((some (([] : List Int) : List Int)).bind fun y213 => (if y213.length + l0.length < 35184372088832 then (agoraref03_next.l0 k l0 t207 t210 (y213 ++ l0) 0) else (none))) = some r := H
  have A4 := Aside0.mk A40
  clear A40
  obtain ⟨y213, hy213⟩ : ∃ y_ : List Int, y_ = (([] : List Int)) := ⟨_, rfl⟩
  replace H : (if y213.length + l0.length < 35184372088832 then (agoraref03_next.l0 k l0 t207 t210 (y213 ++ l0) 0) else (none)) = some r := by first | (rw [hy213]; with_reducible exact H) | (have H2_ := (Option.bind_some _ _).symm.trans H; rw [hy213]; with_reducible exact H2_) | (have H2_ := (Option.bind_some _ _).symm.trans H; with_reducible exact H2_) | with_reducible exact H | (rw [hy213]; exact H) | exact H
  have Ny213 := Aside0.mk hy213
  clear hy213
  by_cases c5 : y213.length + l0.length < 35184372088832
  · rw [if_pos c5] at H
    have LMc5 := Aside0.mk c5
    clear c5
    obtain ⟨y216, hy216⟩ : ∃ y_ : List Int, y_ = (y213 ++ l0) := ⟨_, rfl⟩
    replace H : (agoraref03_next.l0 k l0 t207 t210 y216 0) = some r := by first | (rw [hy216]; with_reducible exact H) | (have H2_ := (Option.bind_some _ _).symm.trans H; rw [hy216]; with_reducible exact H2_) | (have H2_ := (Option.bind_some _ _).symm.trans H; with_reducible exact H2_) | with_reducible exact H | (rw [hy216]; exact H) | exact H
    have Ny216 := Aside0.mk hy216
    clear hy216
    have H' := Aside0.mk H
    clear H
    go_enter Try.func44, Try.ntmps44
    go_wp2_with (first | ((with_reducible refine gate_callee (f := 53) rfl ?_); refine goesL_ (some 15) rfl rfl Try.func53 (by kernel_rfl) rfl #[.slice A1 l1.length c1] rfl (by (try simp only [List.map_toArray, List.map_cons, List.map_nil]); first | done | rfl | (simp only [List.length_drop, List.length_take]; rfl)) ?_; (with_reducible refine (agoraref03_words.calls k _ _ l1 t207 _ ?side1 ?side2 A3.out).mono ?_); (case side1 => repeat (first | exact HR1.out | (with_reducible refine Kd.C_alloc ?_ _) | (with_reducible refine Kd.C_drewN ?_ _) | (with_reducible refine Kd.C_drew ?_))); (case side2 => exact HC1.out); rintro e w6 ⟨v208, rfl, ho0, hb⟩; refine ⟨_, rfl, ?_⟩; have n0_ := Aside0.mk (Kd.R_lower ho0 (below_size (by repeat (first | (with_reducible first | exact HB.out | apply below_alloc | apply pw_below_drewN | apply below_drew1) | exact HB.out)))); have n1_ := Aside0.mk (below_step (by repeat (first | (with_reducible first | exact HB.out | apply below_alloc | apply pw_below_drewN | apply below_drew1) | exact HB.out)) hb); clear HB; have HO209 := n0_; have HB := n1_; clear n0_ n1_; (try clear hb); (try clear hb2); (try clear hk); (try clear hi); (try clear ho0)) | ((with_reducible refine gate_callee (f := 54) rfl ?_); refine goesL_ (some 16) rfl rfl Try.func54 (by kernel_rfl) rfl #[] rfl (by (try simp only [List.map_toArray, List.map_cons, List.map_nil]); first | done | rfl | (simp only [List.length_drop, List.length_take]; rfl)) ?_; (with_reducible refine (agoraref03_adds.calls  t210 _ A4.out).mono ?_); rintro e w7 ⟨v211, rfl, ho0, hb⟩; refine ⟨_, rfl, ?_⟩; have n0_ := Aside0.mk (Kd.R_elder' (by (with_reducible repeat (first | apply Kd.R_alloc | apply Kd.R_drewN | apply Kd.R_drew)); exact HO209.out) (Kd.R_base ho0) hb); have n1_ := Aside0.mk (Kd.R_lower (Kd.R_new' ho0 (Kd.R_lt (by (with_reducible repeat (first | apply Kd.R_alloc | apply Kd.R_drewN | apply Kd.R_drew)); exact HO209.out))) (below_size (by repeat (first | (with_reducible first | exact HB.out | apply below_alloc | apply pw_below_drewN | apply below_drew1) | exact HB.out)))); have n2_ := Aside0.mk (below_step (by repeat (first | (with_reducible first | exact HB.out | apply below_alloc | apply pw_below_drewN | apply below_drew1) | exact HB.out)) hb); clear HO209; clear HB; have HO209 := n0_; have HO212 := n1_; have HB := n2_; clear n0_ n1_ n2_; (try clear hb); (try clear hb2); (try clear hk); (try clear hi); (try clear ho0)) | ((with_reducible refine gate_dst (N := 17) rfl ?_); refine Kd.R_lit (Kd.int .u32) _ 54 ?hg (N := 17) ?hd (xs := ([] : List Int)) (inner := []) (ok := fun _ => True) (okp := fun _ => True) ?hr ?hp (fun _ hk => hk) trivial (Below.refl _ _) (Nat.le_refl _) (by simp) ?_; (case hd => rfl); (case hg => rfl); (case hr => first | (go_simp; done) | (go_simp; rfl) | (go_simp; simp only [IntKind.wrap_u32', Int.emod_add_emod, Int.add_emod_emod])); (case hp => exact (Reps.none _ _)); intro v214 w8 ho9 hb hg_ hnew_; clear hg_ hnew_; (first | rw [← Ny213.out] at ho9 | (simp only [Int.reduceToNat] at ho9; rw [← Ny213.out] at ho9)); have n0_ := Aside0.mk (Kd.R_elder' (by (with_reducible repeat (first | apply Kd.R_alloc | apply Kd.R_drewN | apply Kd.R_drew)); exact HO209.out) (Kd.R_base ho9) hb); have n1_ := Aside0.mk (Kd.R_elder' (by (with_reducible repeat (first | apply Kd.R_alloc | apply Kd.R_drewN | apply Kd.R_drew)); exact HO212.out) (Kd.R_base ho9) hb); have n2_ := Aside0.mk (Kd.R_lower (Kd.R_new' (Kd.R_new' ho9 (Kd.R_lt (by (with_reducible repeat (first | apply Kd.R_alloc | apply Kd.R_drewN | apply Kd.R_drew)); exact HO209.out))) (Kd.R_lt (by (with_reducible repeat (first | apply Kd.R_alloc | apply Kd.R_drewN | apply Kd.R_drew)); exact HO212.out))) (below_size (by repeat (first | (with_reducible first | exact HB.out | apply below_alloc | apply pw_below_drewN | apply below_drew1) | exact HB.out)))); have n3_ := Aside0.mk (below_step (by repeat (first | (with_reducible first | exact HB.out | apply below_alloc | apply pw_below_drewN | apply below_drew1) | exact HB.out)) hb); clear HO209; clear HO212; clear HB; have HO209 := n0_; have HO212 := n1_; have HO215 := n2_; have HB := n3_; clear n0_ n1_ n2_ n3_; clear hb ho9) | ((with_reducible refine gate_builtin (b := .append) (xs := #[.tmp 17, .tmp 18]) rfl ?_); at_builtin; refine Kd.R_append_rows (Kd.int .u32) (w0 := w) w.heap.size rfl (.tmp 17) (.tmp 18) 62 54 (.int .u32 0) 4 rfl Try.underlying62 info54 rfl (by decide) (by omega) v214 y213 l0 _ _ _ (fun k_ => some k_ ≠ (v208 : Value).ownBlock ∧ some k_ ≠ (v211 : Value).ownBlock) (fun _ => False) rfl rfl ?aO ?aR (fun _ _ h => h) (fun _ h => h.elim) ?aF ?aB ?aS ?aL ?_; (case aR => repeat (first | exact (Kd.C_below HR0.out HB.out) | (with_reducible refine Kd.C_alloc ?_ _) | (with_reducible refine Kd.C_drewN ?_ _) | (with_reducible refine Kd.C_drew ?_))); (case aB => exact (by repeat (first | (with_reducible first | exact HB.out | apply below_alloc | apply pw_below_drewN | apply below_drew1) | exact HB.out))); (case aF => exact (fun k_ hk => ⟨Kd.fresh' (Kd.R_lt (by (with_reducible repeat (first | apply Kd.R_alloc | apply Kd.R_drewN | apply Kd.R_drew)); exact HO209.out)) k_ hk, Kd.fresh' (Kd.R_lt (by (with_reducible repeat (first | apply Kd.R_alloc | apply Kd.R_drewN | apply Kd.R_drew)); exact HO212.out)) k_ hk⟩)); (case aO => exact (by (with_reducible repeat (first | apply Kd.R_alloc | apply Kd.R_drewN | apply Kd.R_drew)); exact Kd.R_mono HO215.out (fun _ hk => ⟨hk.1.2, hk.2⟩))); (case aS => exact (below_size (by repeat (first | (with_reducible first | exact HB.out | apply below_alloc | apply pw_below_drewN | apply below_drew1) | exact HB.out)))); (case aL => have := LMc5.out; omega); intro v217 w10 ho hb hg hat; rw [← Ny216.out] at ho; have n0_ := Aside0.mk (Kd.R_after (ok := (fun k_ => some k_ ≠ (v211 : Value).ownBlock)) (by (with_reducible repeat (first | apply Kd.R_alloc | apply Kd.R_drewN | apply Kd.R_drew)); exact Kd.R_mono HO209.out (fun _ hk => ⟨hk.1.2, hk.2⟩)) hg hat); have n1_ := Aside0.mk (Kd.R_after (ok := (fun k_ => some k_ ≠ (v208 : Value).ownBlock)) (by (with_reducible repeat (first | apply Kd.R_alloc | apply Kd.R_drewN | apply Kd.R_drew)); exact Kd.R_mono HO212.out (fun _ hk => ⟨hk.1.2, hk.2⟩)) hg hat); have n2_ := Aside0.mk (hb); have n3_ := Aside0.mk (ho); clear HO209; clear HO212; clear HB; clear HO215; have HO209 := n0_; have HO212 := n1_; have HB := n2_; have HO218 := n3_; clear n0_ n1_ n2_ n3_; clear ho hb hg hat))
    go_loopg [7, 8] k (fun kq v7 v8 w' => ∃ (x7_1 : List Int) (x8_1 : Int), v8 = .int .i64 x8_1 ∧ Aside0 (agoraref03_next.l0 kq l0 t207 t210 x7_1 x8_1 = some r) ∧ Aside0 (kq ≤ k) ∧ Aside0 (Kd.R (Kd.int .u32) 54 w' w.heap.size (fun k_ => some k_ ≠ (v211 : Value).ownBlock ∧ some k_ ≠ (v7 : Value).ownBlock) v208 t207) ∧ Aside0 (Kd.R (Kd.int .u32) 54 w' w.heap.size (fun k_ => some k_ ≠ (v208 : Value).ownBlock ∧ some k_ ≠ (v7 : Value).ownBlock) v211 t210) ∧ Aside0 (Kd.R (Kd.int .u32) 54 w' w.heap.size (fun k_ => some k_ ≠ (v208 : Value).ownBlock ∧ some k_ ≠ (v211 : Value).ownBlock) v7 x7_1) ∧ Aside0 (Below w.heap.size w w'))
    case atStart => exact ⟨(y216), (0), (by first | rfl | (simp; done) | (simp [*]; done)), H', ⟨Nat.le_refl _⟩, ⟨by (with_reducible repeat (first | apply Kd.R_alloc | apply Kd.R_drewN | apply Kd.R_drew)); exact HO209.out⟩, ⟨by (with_reducible repeat (first | apply Kd.R_alloc | apply Kd.R_drewN | apply Kd.R_drew)); exact HO212.out⟩, ⟨by (with_reducible repeat (first | apply Kd.R_alloc | apply Kd.R_drewN | apply Kd.R_drew)); exact HO218.out⟩, ⟨by repeat (first | (with_reducible first | exact HB.out | apply below_alloc | apply pw_below_drewN | apply below_drew1) | exact HB.out)⟩⟩
    case round =>
      clear H'
      try clear c1
      try clear p2
      try clear c4
      try clear c5
      obtain ⟨x7_1, x8_1, rfl, HA, HK1, HO_5, HO_6, HO_7, HB⟩ := hrel
      cases gk with
      | zero => exact absurd HA.out (by simp [agoraref03_next.l0])
      | succ k1 =>
        have H := HA.out
        clear HA
        simp only [agoraref03_next.l0] at H
        by_cases c11 : x8_1 < 64
        · rw [if_pos c11] at H
          have c11b0 : decide (x8_1 < 64) = true := decide_eq_true c11
          clear c11
          by_cases c12 : 4 < (x7_1.length : Int)
          · rw [if_pos c12] at H
            have c12b0 : decide (4 < (x7_1.length : Int)) = true := decide_eq_true c12
            have c12b1 : decide (4 < x7_1.length) = true := decide_eq_true (by omega)
            clear c12
            replace H := Option.bind_eq_some_iff.mp H
            obtain ⟨t220, A130, H⟩ := H
            replace H : ((agoraref03_turn.f (rd x7_1 4) 11).bind fun t222 => ((agoraref03_turn.f (rd x7_1 4) 25).bind fun t224 => (if 7 < (x7_1.length : Int) then (if 5 < (x7_1.length : Int) then (if 6 < (x7_1.length : Int) then (if 0 ≤ x8_1 then (if x8_1 < (t210.length : Int) then (if x8_1 < (t207.length : Int) then (if 0 < (x7_1.length : Int) then ((agoraref03_turn.f (rd x7_1 0) 2).bind fun t233 => ((agoraref03_turn.f (rd x7_1 0) 13).bind fun t235 => ((agoraref03_turn.f (rd x7_1 0) 22).bind fun t237 => (if 1 < (x7_1.length : Int) then (if 2 < (x7_1.length : Int) then (if 3 < (x7_1.length : Int) then (agoraref03_next.l0 k1 l0 t207 t210 (([((((((((((rd x7_1 7) + (Go.bits .xor .u32 (Go.bits .xor .u32 t220 t222) t224)) % 4294967296) + (Go.bits .xor .u32 (Go.bits .and .u32 (rd x7_1 4) (rd x7_1 5)) (Go.bits .and .u32 (Go.bits .xor .u32 IntKind.u32.max (rd x7_1 4)) (rd x7_1 6)))) % 4294967296) + (rd t210 x8_1)) % 4294967296) + (rd t207 x8_1)) % 4294967296) + (((Go.bits .xor .u32 (Go.bits .xor .u32 t233 t235) t237) + (Go.bits .xor .u32 (Go.bits .xor .u32 (Go.bits .and .u32 (rd x7_1 0) (rd x7_1 1)) (Go.bits .and .u32 (rd x7_1 0) (rd x7_1 2))) (Go.bits .and .u32 (rd x7_1 1) (rd x7_1 2)))) % 4294967296)) % 4294967296, rd x7_1 0, rd x7_1 1, rd x7_1 2, ((rd x7_1 3) + (((((((((rd x7_1 7) + (Go.bits .xor .u32 (Go.bits .xor .u32 t220 t222) t224)) % 4294967296) + (Go.bits .xor .u32 (Go.bits .and .u32 (rd x7_1 4) (rd x7_1 5)) (Go.bits .and .u32 (Go.bits .xor .u32 IntKind.u32.max (rd x7_1 4)) (rd x7_1 6)))) % 4294967296) + (rd t210 x8_1)) % 4294967296) + (rd t207 x8_1)) % 4294967296)) % 4294967296, rd x7_1 4, rd x7_1 5, rd x7_1 6] : List Int)) (wrap64 (x8_1 + 1))) else (none)) else (none)) else (none))))) else (none)) else (none)) else (none)) else (none)) else (none)) else (none)) else (none)))) = some r := H
            have A13 := Aside0.mk A130
            clear A130
            replace H := Option.bind_eq_some_iff.mp H
            obtain ⟨t222, A140, H⟩ := H
            replace H : ((agoraref03_turn.f (rd x7_1 4) 25).bind fun t224 => (if 7 < (x7_1.length : Int) then (if 5 < (x7_1.length : Int) then (if 6 < (x7_1.length : Int) then (if 0 ≤ x8_1 then (if x8_1 < (t210.length : Int) then (if x8_1 < (t207.length : Int) then (if 0 < (x7_1.length : Int) then ((agoraref03_turn.f (rd x7_1 0) 2).bind fun t233 => ((agoraref03_turn.f (rd x7_1 0) 13).bind fun t235 => ((agoraref03_turn.f (rd x7_1 0) 22).bind fun t237 => (if 1 < (x7_1.length : Int) then (if 2 < (x7_1.length : Int) then (if 3 < (x7_1.length : Int) then (agoraref03_next.l0 k1 l0 t207 t210 (([((((((((((rd x7_1 7) + (Go.bits .xor .u32 (Go.bits .xor .u32 t220 t222) t224)) % 4294967296) + (Go.bits .xor .u32 (Go.bits .and .u32 (rd x7_1 4) (rd x7_1 5)) (Go.bits .and .u32 (Go.bits .xor .u32 IntKind.u32.max (rd x7_1 4)) (rd x7_1 6)))) % 4294967296) + (rd t210 x8_1)) % 4294967296) + (rd t207 x8_1)) % 4294967296) + (((Go.bits .xor .u32 (Go.bits .xor .u32 t233 t235) t237) + (Go.bits .xor .u32 (Go.bits .xor .u32 (Go.bits .and .u32 (rd x7_1 0) (rd x7_1 1)) (Go.bits .and .u32 (rd x7_1 0) (rd x7_1 2))) (Go.bits .and .u32 (rd x7_1 1) (rd x7_1 2)))) % 4294967296)) % 4294967296, rd x7_1 0, rd x7_1 1, rd x7_1 2, ((rd x7_1 3) + (((((((((rd x7_1 7) + (Go.bits .xor .u32 (Go.bits .xor .u32 t220 t222) t224)) % 4294967296) + (Go.bits .xor .u32 (Go.bits .and .u32 (rd x7_1 4) (rd x7_1 5)) (Go.bits .and .u32 (Go.bits .xor .u32 IntKind.u32.max (rd x7_1 4)) (rd x7_1 6)))) % 4294967296) + (rd t210 x8_1)) % 4294967296) + (rd t207 x8_1)) % 4294967296)) % 4294967296, rd x7_1 4, rd x7_1 5, rd x7_1 6] : List Int)) (wrap64 (x8_1 + 1))) else (none)) else (none)) else (none))))) else (none)) else (none)) else (none)) else (none)) else (none)) else (none)) else (none))) = some r := H
            have A14 := Aside0.mk A140
            clear A140
            replace H := Option.bind_eq_some_iff.mp H
            obtain ⟨t224, A150, H⟩ := H
            replace H : (if 7 < (x7_1.length : Int) then (if 5 < (x7_1.length : Int) then (if 6 < (x7_1.length : Int) then (if 0 ≤ x8_1 then (if x8_1 < (t210.length : Int) then (if x8_1 < (t207.length : Int) then (if 0 < (x7_1.length : Int) then ((agoraref03_turn.f (rd x7_1 0) 2).bind fun t233 => ((agoraref03_turn.f (rd x7_1 0) 13).bind fun t235 => ((agoraref03_turn.f (rd x7_1 0) 22).bind fun t237 => (if 1 < (x7_1.length : Int) then (if 2 < (x7_1.length : Int) then (if 3 < (x7_1.length : Int) then (agoraref03_next.l0 k1 l0 t207 t210 (([((((((((((rd x7_1 7) + (Go.bits .xor .u32 (Go.bits .xor .u32 t220 t222) t224)) % 4294967296) + (Go.bits .xor .u32 (Go.bits .and .u32 (rd x7_1 4) (rd x7_1 5)) (Go.bits .and .u32 (Go.bits .xor .u32 IntKind.u32.max (rd x7_1 4)) (rd x7_1 6)))) % 4294967296) + (rd t210 x8_1)) % 4294967296) + (rd t207 x8_1)) % 4294967296) + (((Go.bits .xor .u32 (Go.bits .xor .u32 t233 t235) t237) + (Go.bits .xor .u32 (Go.bits .xor .u32 (Go.bits .and .u32 (rd x7_1 0) (rd x7_1 1)) (Go.bits .and .u32 (rd x7_1 0) (rd x7_1 2))) (Go.bits .and .u32 (rd x7_1 1) (rd x7_1 2)))) % 4294967296)) % 4294967296, rd x7_1 0, rd x7_1 1, rd x7_1 2, ((rd x7_1 3) + (((((((((rd x7_1 7) + (Go.bits .xor .u32 (Go.bits .xor .u32 t220 t222) t224)) % 4294967296) + (Go.bits .xor .u32 (Go.bits .and .u32 (rd x7_1 4) (rd x7_1 5)) (Go.bits .and .u32 (Go.bits .xor .u32 IntKind.u32.max (rd x7_1 4)) (rd x7_1 6)))) % 4294967296) + (rd t210 x8_1)) % 4294967296) + (rd t207 x8_1)) % 4294967296)) % 4294967296, rd x7_1 4, rd x7_1 5, rd x7_1 6] : List Int)) (wrap64 (x8_1 + 1))) else (none)) else (none)) else (none))))) else (none)) else (none)) else (none)) else (none)) else (none)) else (none)) else (none)) = some r := H
            have A15 := Aside0.mk A150
            clear A150
            by_cases c16 : 7 < (x7_1.length : Int)
            · rw [if_pos c16] at H
              have c16b0 : decide (7 < (x7_1.length : Int)) = true := decide_eq_true c16
              have c16b1 : decide (7 < x7_1.length) = true := decide_eq_true (by omega)
              clear c16
              by_cases c17 : 5 < (x7_1.length : Int)
              · rw [if_pos c17] at H
                have c17b0 : decide (5 < (x7_1.length : Int)) = true := decide_eq_true c17
                have c17b1 : decide (5 < x7_1.length) = true := decide_eq_true (by omega)
                clear c17
                by_cases c18 : 6 < (x7_1.length : Int)
                · rw [if_pos c18] at H
                  have c18b0 : decide (6 < (x7_1.length : Int)) = true := decide_eq_true c18
                  have c18b1 : decide (6 < x7_1.length) = true := decide_eq_true (by omega)
                  clear c18
                  by_cases c19 : 0 ≤ x8_1
                  · rw [if_pos c19] at H
                    have c19b0 : decide (0 ≤ x8_1) = true := decide_eq_true c19
                    clear c19
                    by_cases c20 : x8_1 < (t210.length : Int)
                    · rw [if_pos c20] at H
                      have c20b0 : decide (x8_1 < (t210.length : Int)) = true := decide_eq_true c20
                      clear c20
                      by_cases c21 : x8_1 < (t207.length : Int)
                      · rw [if_pos c21] at H
                        have c21b0 : decide (x8_1 < (t207.length : Int)) = true := decide_eq_true c21
                        clear c21
                        by_cases c22 : 0 < (x7_1.length : Int)
                        · rw [if_pos c22] at H
                          have c22b0 : decide (0 < (x7_1.length : Int)) = true := decide_eq_true c22
                          have c22b1 : decide (0 < x7_1.length) = true := decide_eq_true (by omega)
                          clear c22
                          replace H := Option.bind_eq_some_iff.mp H
                          obtain ⟨t233, A230, H⟩ := H
                          replace H : ((agoraref03_turn.f (rd x7_1 0) 13).bind fun t235 => ((agoraref03_turn.f (rd x7_1 0) 22).bind fun t237 => (if 1 < (x7_1.length : Int) then (if 2 < (x7_1.length : Int) then (if 3 < (x7_1.length : Int) then (agoraref03_next.l0 k1 l0 t207 t210 (([((((((((((rd x7_1 7) + (Go.bits .xor .u32 (Go.bits .xor .u32 t220 t222) t224)) % 4294967296) + (Go.bits .xor .u32 (Go.bits .and .u32 (rd x7_1 4) (rd x7_1 5)) (Go.bits .and .u32 (Go.bits .xor .u32 IntKind.u32.max (rd x7_1 4)) (rd x7_1 6)))) % 4294967296) + (rd t210 x8_1)) % 4294967296) + (rd t207 x8_1)) % 4294967296) + (((Go.bits .xor .u32 (Go.bits .xor .u32 t233 t235) t237) + (Go.bits .xor .u32 (Go.bits .xor .u32 (Go.bits .and .u32 (rd x7_1 0) (rd x7_1 1)) (Go.bits .and .u32 (rd x7_1 0) (rd x7_1 2))) (Go.bits .and .u32 (rd x7_1 1) (rd x7_1 2)))) % 4294967296)) % 4294967296, rd x7_1 0, rd x7_1 1, rd x7_1 2, ((rd x7_1 3) + (((((((((rd x7_1 7) + (Go.bits .xor .u32 (Go.bits .xor .u32 t220 t222) t224)) % 4294967296) + (Go.bits .xor .u32 (Go.bits .and .u32 (rd x7_1 4) (rd x7_1 5)) (Go.bits .and .u32 (Go.bits .xor .u32 IntKind.u32.max (rd x7_1 4)) (rd x7_1 6)))) % 4294967296) + (rd t210 x8_1)) % 4294967296) + (rd t207 x8_1)) % 4294967296)) % 4294967296, rd x7_1 4, rd x7_1 5, rd x7_1 6] : List Int)) (wrap64 (x8_1 + 1))) else (none)) else (none)) else (none)))) = some r := H
                          have A23 := Aside0.mk A230
                          clear A230
                          replace H := Option.bind_eq_some_iff.mp H
                          obtain ⟨t235, A240, H⟩ := H
                          replace H : ((agoraref03_turn.f (rd x7_1 0) 22).bind fun t237 => (if 1 < (x7_1.length : Int) then (if 2 < (x7_1.length : Int) then (if 3 < (x7_1.length : Int) then (agoraref03_next.l0 k1 l0 t207 t210 (([((((((((((rd x7_1 7) + (Go.bits .xor .u32 (Go.bits .xor .u32 t220 t222) t224)) % 4294967296) + (Go.bits .xor .u32 (Go.bits .and .u32 (rd x7_1 4) (rd x7_1 5)) (Go.bits .and .u32 (Go.bits .xor .u32 IntKind.u32.max (rd x7_1 4)) (rd x7_1 6)))) % 4294967296) + (rd t210 x8_1)) % 4294967296) + (rd t207 x8_1)) % 4294967296) + (((Go.bits .xor .u32 (Go.bits .xor .u32 t233 t235) t237) + (Go.bits .xor .u32 (Go.bits .xor .u32 (Go.bits .and .u32 (rd x7_1 0) (rd x7_1 1)) (Go.bits .and .u32 (rd x7_1 0) (rd x7_1 2))) (Go.bits .and .u32 (rd x7_1 1) (rd x7_1 2)))) % 4294967296)) % 4294967296, rd x7_1 0, rd x7_1 1, rd x7_1 2, ((rd x7_1 3) + (((((((((rd x7_1 7) + (Go.bits .xor .u32 (Go.bits .xor .u32 t220 t222) t224)) % 4294967296) + (Go.bits .xor .u32 (Go.bits .and .u32 (rd x7_1 4) (rd x7_1 5)) (Go.bits .and .u32 (Go.bits .xor .u32 IntKind.u32.max (rd x7_1 4)) (rd x7_1 6)))) % 4294967296) + (rd t210 x8_1)) % 4294967296) + (rd t207 x8_1)) % 4294967296)) % 4294967296, rd x7_1 4, rd x7_1 5, rd x7_1 6] : List Int)) (wrap64 (x8_1 + 1))) else (none)) else (none)) else (none))) = some r := H
                          have A24 := Aside0.mk A240
                          clear A240
                          replace H := Option.bind_eq_some_iff.mp H
                          obtain ⟨t237, A250, H⟩ := H
                          replace H : (if 1 < (x7_1.length : Int) then (if 2 < (x7_1.length : Int) then (if 3 < (x7_1.length : Int) then (agoraref03_next.l0 k1 l0 t207 t210 (([((((((((((rd x7_1 7) + (Go.bits .xor .u32 (Go.bits .xor .u32 t220 t222) t224)) % 4294967296) + (Go.bits .xor .u32 (Go.bits .and .u32 (rd x7_1 4) (rd x7_1 5)) (Go.bits .and .u32 (Go.bits .xor .u32 IntKind.u32.max (rd x7_1 4)) (rd x7_1 6)))) % 4294967296) + (rd t210 x8_1)) % 4294967296) + (rd t207 x8_1)) % 4294967296) + (((Go.bits .xor .u32 (Go.bits .xor .u32 t233 t235) t237) + (Go.bits .xor .u32 (Go.bits .xor .u32 (Go.bits .and .u32 (rd x7_1 0) (rd x7_1 1)) (Go.bits .and .u32 (rd x7_1 0) (rd x7_1 2))) (Go.bits .and .u32 (rd x7_1 1) (rd x7_1 2)))) % 4294967296)) % 4294967296, rd x7_1 0, rd x7_1 1, rd x7_1 2, ((rd x7_1 3) + (((((((((rd x7_1 7) + (Go.bits .xor .u32 (Go.bits .xor .u32 t220 t222) t224)) % 4294967296) + (Go.bits .xor .u32 (Go.bits .and .u32 (rd x7_1 4) (rd x7_1 5)) (Go.bits .and .u32 (Go.bits .xor .u32 IntKind.u32.max (rd x7_1 4)) (rd x7_1 6)))) % 4294967296) + (rd t210 x8_1)) % 4294967296) + (rd t207 x8_1)) % 4294967296)) % 4294967296, rd x7_1 4, rd x7_1 5, rd x7_1 6] : List Int)) (wrap64 (x8_1 + 1))) else (none)) else (none)) else (none)) = some r := H
                          have A25 := Aside0.mk A250
                          clear A250
                          by_cases c26 : 1 < (x7_1.length : Int)
                          · rw [if_pos c26] at H
                            have c26b0 : decide (1 < (x7_1.length : Int)) = true := decide_eq_true c26
                            have c26b1 : decide (1 < x7_1.length) = true := decide_eq_true (by omega)
                            clear c26
                            by_cases c27 : 2 < (x7_1.length : Int)
                            · rw [if_pos c27] at H
                              have c27b0 : decide (2 < (x7_1.length : Int)) = true := decide_eq_true c27
                              have c27b1 : decide (2 < x7_1.length) = true := decide_eq_true (by omega)
                              clear c27
                              by_cases c28 : 3 < (x7_1.length : Int)
                              · rw [if_pos c28] at H
                                have c28b0 : decide (3 < (x7_1.length : Int)) = true := decide_eq_true c28
                                have c28b1 : decide (3 < x7_1.length) = true := decide_eq_true (by omega)
                                clear c28
                                obtain ⟨y251, hy251⟩ : ∃ y_ : List Int, y_ = (([((((((((((rd x7_1 7) + (Go.bits .xor .u32 (Go.bits .xor .u32 t220 t222) t224)) % 4294967296) + (Go.bits .xor .u32 (Go.bits .and .u32 (rd x7_1 4) (rd x7_1 5)) (Go.bits .and .u32 (Go.bits .xor .u32 IntKind.u32.max (rd x7_1 4)) (rd x7_1 6)))) % 4294967296) + (rd t210 x8_1)) % 4294967296) + (rd t207 x8_1)) % 4294967296) + (((Go.bits .xor .u32 (Go.bits .xor .u32 t233 t235) t237) + (Go.bits .xor .u32 (Go.bits .xor .u32 (Go.bits .and .u32 (rd x7_1 0) (rd x7_1 1)) (Go.bits .and .u32 (rd x7_1 0) (rd x7_1 2))) (Go.bits .and .u32 (rd x7_1 1) (rd x7_1 2)))) % 4294967296)) % 4294967296, rd x7_1 0, rd x7_1 1, rd x7_1 2, ((rd x7_1 3) + (((((((((rd x7_1 7) + (Go.bits .xor .u32 (Go.bits .xor .u32 t220 t222) t224)) % 4294967296) + (Go.bits .xor .u32 (Go.bits .and .u32 (rd x7_1 4) (rd x7_1 5)) (Go.bits .and .u32 (Go.bits .xor .u32 IntKind.u32.max (rd x7_1 4)) (rd x7_1 6)))) % 4294967296) + (rd t210 x8_1)) % 4294967296) + (rd t207 x8_1)) % 4294967296)) % 4294967296, rd x7_1 4, rd x7_1 5, rd x7_1 6] : List Int)) := ⟨_, rfl⟩
                                replace H : (agoraref03_next.l0 k1 l0 t207 t210 y251 (wrap64 (x8_1 + 1))) = some r := by first | (rw [hy251]; with_reducible exact H) | (have H2_ := (Option.bind_some _ _).symm.trans H; rw [hy251]; with_reducible exact H2_) | (have H2_ := (Option.bind_some _ _).symm.trans H; with_reducible exact H2_) | with_reducible exact H | (rw [hy251]; exact H) | exact H
                                have Ny251 := Aside0.mk hy251
                                clear hy251
                                have H' := Aside0.mk H
                                clear H
                                try go_wp2
                                have n0_ := Aside0.mk (Kd.R_drew HO_5.out)
                                have n1_ := Aside0.mk (Kd.R_drew HO_6.out)
                                have n2_ := Aside0.mk (Kd.R_drew HO_7.out)
                                have n3_ := Aside0.mk (below_drew1 HB.out)
                                clear HO_5
                                clear HO_6
                                clear HO_7
                                clear HB
                                have HO_5 := n0_
                                have HO_6 := n1_
                                have HO_7 := n2_
                                have HB := n3_
                                clear n0_ n1_ n2_ n3_
                                obtain ⟨Ao30, co30, eo30⟩ := Kd.R_slice HO_7.out
                                (first | subst eo30 | (injection eo30 with f1_ f2_ f3_; have f4_ := f1_.symm; have f5_ := f3_.symm; clear f1_ f2_ f3_; subst f4_; subst f5_))
                                have p219 : 0 ≤ (4 : Int) := (by omega)
                                have q219 : 4 < (x7_1.length : Int) := of_decide_eq_true (by first | (with_reducible assumption) | assumption)
                                obtain ⟨ad219, e219, hx219_0⟩ := Kd.at_int (Kd.R_reads' HO_7.out).2.2 4 p219 q219
                                cases e219
                                (try simp only [show (4 : Int).toNat = 4 from rfl, Nat.reduceMul, Nat.reduceEqDiff, Go.Addr.add, ↓reduceIte] at hx219_0)
                                have qi219 : (4 < x7_1.length) = True := eq_true (by omega)
                                (try rw [show ((4 : Int)).toNat = 4 from rfl] at hx219_0)
                                replace p219 := eq_true p219
                                replace q219 := eq_true q219
                                have p221 : 0 ≤ (4 : Int) := (by omega)
                                have q221 : 4 < (x7_1.length : Int) := of_decide_eq_true (by first | (with_reducible assumption) | assumption)
                                obtain ⟨ad221, e221, hx221_0⟩ := Kd.at_int (Kd.R_reads' HO_7.out).2.2 4 p221 q221
                                obtain rfl : ad219 = ad221 := (by injection e221)
                                (try simp only [show (4 : Int).toNat = 4 from rfl, Nat.reduceMul, Nat.reduceEqDiff, Go.Addr.add, ↓reduceIte] at hx221_0)
                                have qi221 : (4 < x7_1.length) = True := eq_true (by omega)
                                (try rw [show ((4 : Int)).toNat = 4 from rfl] at hx221_0)
                                replace p221 := eq_true p221
                                replace q221 := eq_true q221
                                have p223 : 0 ≤ (4 : Int) := (by omega)
                                have q223 : 4 < (x7_1.length : Int) := of_decide_eq_true (by first | (with_reducible assumption) | assumption)
                                obtain ⟨ad223, e223, hx223_0⟩ := Kd.at_int (Kd.R_reads' HO_7.out).2.2 4 p223 q223
                                obtain rfl : ad219 = ad223 := (by injection e223)
                                (try simp only [show (4 : Int).toNat = 4 from rfl, Nat.reduceMul, Nat.reduceEqDiff, Go.Addr.add, ↓reduceIte] at hx223_0)
                                have qi223 : (4 < x7_1.length) = True := eq_true (by omega)
                                (try rw [show ((4 : Int)).toNat = 4 from rfl] at hx223_0)
                                replace p223 := eq_true p223
                                replace q223 := eq_true q223
                                refine start_ (n := 15) (S := fun w' => w'.cell? ⟨ad219.block, ad219.off + 4, none⟩ = some (.int .u32 (rd x7_1 4)) ∧ w'.cell? ⟨ad219.block, ad219.off + 4, none⟩ = some (.int .u32 (rd x7_1 4)) ∧ w'.cell? ⟨ad219.block, ad219.off + 4, none⟩ = some (.int .u32 (rd x7_1 4))) (ds := []) #[false, false, false, false, false, false, false, false, false, false, false, false, false, false, false] (by kernel_rfl) rfl rfl ⟨hx219_0, hx221_0, hx223_0⟩ (fun hHeld => ?_); refine with_tabW agoraref03_next.tab7 agoraref03_next.bits7 (fun HT_ HW_ => ?_)
                                generalize wr.drew = w29 at HO_5 HO_6 HO_7 HB hx219_0 hx221_0 hx223_0 hHeld ⊢
                                refine pure_ (i := 0) (N := some 24) (v := ?_) (a' := ?_) #[true, false, false, false, false, false, false, false, false, false, false, false, false, false, false] rfl rfl (any_of HT_.out (by kernel_rfl)) (fun _ _ _ h => h) (Or.inl ⟨by rfl, ?_⟩) ?_ ?_
                                rotate_left
                                · intro w'
                                  go_simp
                                  with_reducible rfl
                                rotate_left
                                · simp only [Act.put, List.setIfInBounds_toArray, List.set_cons_zero, List.set_cons_succ, i64_w, i32_w]
                                  rfl
                                refine pure_ (i := 1) (N := some 25) (v := ?_) (a' := ?_) #[true, true, false, false, false, false, false, false, false, false, false, false, false, false, false] rfl rfl (any_of HT_.out (by kernel_rfl)) (fun _ _ _ h => h) (Or.inl ⟨by rfl, ?_⟩) ?_ ?_
                                rotate_left
                                · intro w'
                                  go_simp
                                  with_reducible rfl
                                rotate_left
                                · simp only [Act.put, List.setIfInBounds_toArray, List.set_cons_zero, List.set_cons_succ, i64_w, i32_w]
                                  rfl
                                refine pure_ (i := 4) (N := some 28) (v := ?_) (a' := ?_) #[true, true, false, false, true, false, false, false, false, false, false, false, false, false, false] rfl rfl (any_of HT_.out (by kernel_rfl)) (fun _ _ _ h => h) (Or.inl ⟨by rfl, ?_⟩) ?_ ?_
                                rotate_left
                                · intro w'
                                  go_simp
                                  with_reducible rfl
                                rotate_left
                                · simp only [Act.put, List.setIfInBounds_toArray, List.set_cons_zero, List.set_cons_succ, i64_w, i32_w]
                                  rfl
                                refine pure_ (i := 5) (N := some 29) (v := ?_) (a' := ?_) #[true, true, false, false, true, true, false, false, false, false, false, false, false, false, false] rfl rfl (any_of HT_.out (by kernel_rfl)) (fun _ _ _ h => h) (Or.inl ⟨by rfl, ?_⟩) ?_ ?_
                                rotate_left
                                · intro w'
                                  go_simp
                                  with_reducible rfl
                                rotate_left
                                · simp only [Act.put, List.setIfInBounds_toArray, List.set_cons_zero, List.set_cons_succ, i64_w, i32_w]
                                  rfl
                                refine pure_ (i := 9) (N := some 33) (v := ?_) (a' := ?_) #[true, true, false, false, true, true, false, false, false, true, false, false, false, false, false] rfl rfl (any_of HT_.out (by kernel_rfl)) (fun _ _ _ h => h) (Or.inl ⟨by rfl, ?_⟩) ?_ ?_
                                rotate_left
                                · intro w'
                                  go_simp
                                  with_reducible rfl
                                rotate_left
                                · simp only [Act.put, List.setIfInBounds_toArray, List.set_cons_zero, List.set_cons_succ, i64_w, i32_w]
                                  rfl
                                refine pure_ (i := 10) (N := some 34) (v := ?_) (a' := ?_) #[true, true, false, false, true, true, false, false, false, true, true, false, false, false, false] rfl rfl (any_of HT_.out (by kernel_rfl)) (fun _ _ _ h => h) (Or.inl ⟨by rfl, ?_⟩) ?_ ?_
                                rotate_left
                                · intro w'
                                  go_simp
                                  with_reducible rfl
                                rotate_left
                                · simp only [Act.put, List.setIfInBounds_toArray, List.set_cons_zero, List.set_cons_succ, i64_w, i32_w]
                                  rfl
                                refine take_ (i := 2) (N := some 26) (v := ?_) (a' := ?_) #[true, true, true, false, true, true, false, false, false, true, true, false, false, false, false] rfl rfl (take_ofW HT_.out HW_.out (by kernel_rfl)) (fun _ _ _ h => h) (Or.inl ⟨by rfl, ?_⟩) hHeld ?_ ?_
                                rotate_left
                                · rintro w' ⟨s0, s1, s2⟩
                                  go_simp
                                  with_reducible rfl
                                rotate_left
                                · simp only [Act.put, List.setIfInBounds_toArray, List.set_cons_zero, List.set_cons_succ, i64_w, i32_w]
                                  rfl
                                refine take_ (i := 6) (N := some 30) (v := ?_) (a' := ?_) #[true, true, true, false, true, true, true, false, false, true, true, false, false, false, false] rfl rfl (take_ofW HT_.out HW_.out (by kernel_rfl)) (fun _ _ _ h => h) (Or.inl ⟨by rfl, ?_⟩) hHeld ?_ ?_
                                rotate_left
                                · rintro w' ⟨s0, s1, s2⟩
                                  go_simp
                                  with_reducible rfl
                                rotate_left
                                · simp only [Act.put, List.setIfInBounds_toArray, List.set_cons_zero, List.set_cons_succ, i64_w, i32_w]
                                  rfl
                                refine take_ (i := 11) (N := some 35) (v := ?_) (a' := ?_) #[true, true, true, false, true, true, true, false, false, true, true, true, false, false, false] rfl rfl (take_ofW HT_.out HW_.out (by kernel_rfl)) (fun _ _ _ h => h) (Or.inl ⟨by rfl, ?_⟩) hHeld ?_ ?_
                                rotate_left
                                · rintro w' ⟨s0, s1, s2⟩
                                  go_simp
                                  with_reducible rfl
                                rotate_left
                                · simp only [Act.put, List.setIfInBounds_toArray, List.set_cons_zero, List.set_cons_succ, i64_w, i32_w]
                                  rfl
                                refine one_ (i := 3) (N := some 27) #[true, true, true, true, true, true, true, false, false, true, true, true, false, false, false] rfl rfl (one_of HT_.out (by kernel_rfl)) (by decide) (fun K hK => ?_)
                                refine goes_ Try.func55 (by kernel_rfl) rfl #[.int .u32 (rd x7_1 4), .int .i64 6] (by rfl) rfl rfl (by (try simp only [List.map_toArray, List.map_cons, List.map_nil]); first | done | rfl | (simp only [List.length_drop, List.length_take]; rfl)) ?_
                                with_reducible refine (agoraref03_turn.calls (rd x7_1 4) 6 t220 _ A13.out).mono ?_
                                rintro e w' ⟨rfl, ⟨nd, rfl⟩⟩
                                refine ⟨_, rfl, ?_⟩
                                refine hK.out _ _ ⟨hHeld.1, hHeld.2.1, hHeld.2.2⟩ (fun hHeld => ?_)
                                clear hK K
                                refine norm_ (a' := ?_) ?_ ?_
                                rotate_left
                                · show Act.put _ (some 27) _ = _
                                  simp only [Act.put, List.setIfInBounds_toArray, List.set_cons_zero, List.set_cons_succ, i64_w, i32_w]
                                  rfl
                                refine one_ (i := 7) (N := some 31) #[true, true, true, true, true, true, true, true, false, true, true, true, false, false, false] rfl rfl (one_of HT_.out (by kernel_rfl)) (by decide) (fun K hK => ?_)
                                refine goes_ Try.func55 (by kernel_rfl) rfl #[.int .u32 (rd x7_1 4), .int .i64 11] (by rfl) rfl rfl (by (try simp only [List.map_toArray, List.map_cons, List.map_nil]); first | done | rfl | (simp only [List.length_drop, List.length_take]; rfl)) ?_
                                with_reducible refine (agoraref03_turn.calls (rd x7_1 4) 11 t222 _ A14.out).mono ?_
                                rintro e w' ⟨rfl, ⟨nd, rfl⟩⟩
                                refine ⟨_, rfl, ?_⟩
                                refine hK.out _ _ ⟨hHeld.1, hHeld.2.1, hHeld.2.2⟩ (fun hHeld => ?_)
                                clear hK K
                                refine norm_ (a' := ?_) ?_ ?_
                                rotate_left
                                · show Act.put _ (some 31) _ = _
                                  simp only [Act.put, List.setIfInBounds_toArray, List.set_cons_zero, List.set_cons_succ, i64_w, i32_w]
                                  rfl
                                refine pure_ (i := 8) (N := some 32) (v := ?_) (a' := ?_) #[true, true, true, true, true, true, true, true, true, true, true, true, false, false, false] rfl rfl (any_of HT_.out (by kernel_rfl)) (fun _ _ _ h => h) (Or.inl ⟨by rfl, ?_⟩) ?_ ?_
                                rotate_left
                                · intro w'
                                  go_simp
                                  with_reducible rfl
                                rotate_left
                                · simp only [Act.put, List.setIfInBounds_toArray, List.set_cons_zero, List.set_cons_succ, i64_w, i32_w]
                                  rfl
                                refine one_ (i := 12) (N := some 36) #[true, true, true, true, true, true, true, true, true, true, true, true, true, false, false] rfl rfl (one_of HT_.out (by kernel_rfl)) (by decide) (fun K hK => ?_)
                                refine goes_ Try.func55 (by kernel_rfl) rfl #[.int .u32 (rd x7_1 4), .int .i64 25] (by rfl) rfl rfl (by (try simp only [List.map_toArray, List.map_cons, List.map_nil]); first | done | rfl | (simp only [List.length_drop, List.length_take]; rfl)) ?_
                                with_reducible refine (agoraref03_turn.calls (rd x7_1 4) 25 t224 _ A15.out).mono ?_
                                rintro e w' ⟨rfl, ⟨nd, rfl⟩⟩
                                refine ⟨_, rfl, ?_⟩
                                refine hK.out _ _ ⟨hHeld.1, hHeld.2.1, hHeld.2.2⟩ (fun hHeld => ?_)
                                clear hK K
                                refine norm_ (a' := ?_) ?_ ?_
                                rotate_left
                                · show Act.put _ (some 36) _ = _
                                  simp only [Act.put, List.setIfInBounds_toArray, List.set_cons_zero, List.set_cons_succ, i64_w, i32_w]
                                  rfl
                                refine pure_ (i := 13) (N := some 37) (v := ?_) (a' := ?_) #[true, true, true, true, true, true, true, true, true, true, true, true, true, true, false] rfl rfl (any_of HT_.out (by kernel_rfl)) (fun _ _ _ h => h) (Or.inl ⟨by rfl, ?_⟩) ?_ ?_
                                rotate_left
                                · intro w'
                                  go_simp
                                  with_reducible rfl
                                rotate_left
                                · simp only [Act.put, List.setIfInBounds_toArray, List.set_cons_zero, List.set_cons_succ, i64_w, i32_w]
                                  rfl
                                refine pure_ (i := 14) (N := some 9) (v := ?_) (a' := ?_) #[true, true, true, true, true, true, true, true, true, true, true, true, true, true, true] rfl rfl (any_of HT_.out (by kernel_rfl)) (fun _ _ _ h => h) (Or.inl ⟨by rfl, ?_⟩) ?_ ?_
                                rotate_left
                                · intro w'
                                  go_simp
                                  with_reducible rfl
                                rotate_left
                                · simp only [Act.put, List.setIfInBounds_toArray, List.set_cons_zero, List.set_cons_succ, i64_w, i32_w]
                                  rfl
                                refine done_ (done_of HT_.out (by kernel_rfl)) ?_
                                try go_wp2
                                (try simp only [World.drewN_drewN])
                                (try (rw [drewN_self w29]; generalize hq_ : World.drewN w29 _ = w29; have n0_ : Aside0 (Kd.R (Kd.int .u32) 54 w29 w.heap.size (fun k_ => some k_ ≠ (v211 : Value).ownBlock ∧ some k_ ≠ (.slice (some ad219) x7_1.length co30 : Value).ownBlock) v208 t207) := ⟨by rw [← hq_]; exact (by (with_reducible repeat (first | apply Kd.R_alloc | apply Kd.R_drewN | apply Kd.R_drew)); exact HO_5.out)⟩; have n1_ : Aside0 (Kd.R (Kd.int .u32) 54 w29 w.heap.size (fun k_ => some k_ ≠ (v208 : Value).ownBlock ∧ some k_ ≠ (.slice (some ad219) x7_1.length co30 : Value).ownBlock) v211 t210) := ⟨by rw [← hq_]; exact (by (with_reducible repeat (first | apply Kd.R_alloc | apply Kd.R_drewN | apply Kd.R_drew)); exact HO_6.out)⟩; have n2_ : Aside0 (Kd.R (Kd.int .u32) 54 w29 w.heap.size (fun k_ => some k_ ≠ (v208 : Value).ownBlock ∧ some k_ ≠ (v211 : Value).ownBlock) (.slice (some ad219) x7_1.length co30) x7_1) := ⟨by rw [← hq_]; exact (by (with_reducible repeat (first | apply Kd.R_alloc | apply Kd.R_drewN | apply Kd.R_drew)); exact HO_7.out)⟩; have n3_ : Aside0 (Below w.heap.size w w29) := ⟨by rw [← hq_]; exact (by repeat (first | (with_reducible first | exact HB.out | apply below_alloc | apply pw_below_drewN | apply below_drew1) | exact HB.out))⟩; clear HO_5 HO_6 HO_7 HB hq_; have HO_5 := n0_; have HO_6 := n1_; have HO_7 := n2_; have HB := n3_; clear n0_ n1_ n2_ n3_))
                                have n0_ := Aside0.mk (Kd.R_drew HO_5.out)
                                have n1_ := Aside0.mk (Kd.R_drew HO_6.out)
                                have n2_ := Aside0.mk (Kd.R_drew HO_7.out)
                                have n3_ := Aside0.mk (below_drew1 HB.out)
                                clear HO_5
                                clear HO_6
                                clear HO_7
                                clear HB
                                have HO_5 := n0_
                                have HO_6 := n1_
                                have HO_7 := n2_
                                have HB := n3_
                                clear n0_ n1_ n2_ n3_
                                have p225 : 0 ≤ (7 : Int) := (by omega)
                                have q225 : 7 < (x7_1.length : Int) := of_decide_eq_true (by first | (with_reducible assumption) | assumption)
                                obtain ⟨ad225, e225, hx225_0⟩ := Kd.at_int (Kd.R_reads' HO_7.out).2.2 7 p225 q225
                                obtain rfl : ad219 = ad225 := (by injection e225)
                                (try simp only [show (7 : Int).toNat = 7 from rfl, Nat.reduceMul, Nat.reduceEqDiff, Go.Addr.add, ↓reduceIte] at hx225_0)
                                have qi225 : (7 < x7_1.length) = True := eq_true (by omega)
                                (try rw [show ((7 : Int)).toNat = 7 from rfl] at hx225_0)
                                replace p225 := eq_true p225
                                replace q225 := eq_true q225
                                have p226 : 0 ≤ (4 : Int) := (by omega)
                                have q226 : 4 < (x7_1.length : Int) := of_decide_eq_true (by first | (with_reducible assumption) | assumption)
                                obtain ⟨ad226, e226, hx226_0⟩ := Kd.at_int (Kd.R_reads' HO_7.out).2.2 4 p226 q226
                                obtain rfl : ad219 = ad226 := (by injection e226)
                                (try simp only [show (4 : Int).toNat = 4 from rfl, Nat.reduceMul, Nat.reduceEqDiff, Go.Addr.add, ↓reduceIte] at hx226_0)
                                have qi226 : (4 < x7_1.length) = True := eq_true (by omega)
                                (try rw [show ((4 : Int)).toNat = 4 from rfl] at hx226_0)
                                replace p226 := eq_true p226
                                replace q226 := eq_true q226
                                have p227 : 0 ≤ (5 : Int) := (by omega)
                                have q227 : 5 < (x7_1.length : Int) := of_decide_eq_true (by first | (with_reducible assumption) | assumption)
                                obtain ⟨ad227, e227, hx227_0⟩ := Kd.at_int (Kd.R_reads' HO_7.out).2.2 5 p227 q227
                                obtain rfl : ad219 = ad227 := (by injection e227)
                                (try simp only [show (5 : Int).toNat = 5 from rfl, Nat.reduceMul, Nat.reduceEqDiff, Go.Addr.add, ↓reduceIte] at hx227_0)
                                have qi227 : (5 < x7_1.length) = True := eq_true (by omega)
                                (try rw [show ((5 : Int)).toNat = 5 from rfl] at hx227_0)
                                replace p227 := eq_true p227
                                replace q227 := eq_true q227
                                have p228 : 0 ≤ (4 : Int) := (by omega)
                                have q228 : 4 < (x7_1.length : Int) := of_decide_eq_true (by first | (with_reducible assumption) | assumption)
                                obtain ⟨ad228, e228, hx228_0⟩ := Kd.at_int (Kd.R_reads' HO_7.out).2.2 4 p228 q228
                                obtain rfl : ad219 = ad228 := (by injection e228)
                                (try simp only [show (4 : Int).toNat = 4 from rfl, Nat.reduceMul, Nat.reduceEqDiff, Go.Addr.add, ↓reduceIte] at hx228_0)
                                have qi228 : (4 < x7_1.length) = True := eq_true (by omega)
                                (try rw [show ((4 : Int)).toNat = 4 from rfl] at hx228_0)
                                replace p228 := eq_true p228
                                replace q228 := eq_true q228
                                have p229 : 0 ≤ (6 : Int) := (by omega)
                                have q229 : 6 < (x7_1.length : Int) := of_decide_eq_true (by first | (with_reducible assumption) | assumption)
                                obtain ⟨ad229, e229, hx229_0⟩ := Kd.at_int (Kd.R_reads' HO_7.out).2.2 6 p229 q229
                                obtain rfl : ad219 = ad229 := (by injection e229)
                                (try simp only [show (6 : Int).toNat = 6 from rfl, Nat.reduceMul, Nat.reduceEqDiff, Go.Addr.add, ↓reduceIte] at hx229_0)
                                have qi229 : (6 < x7_1.length) = True := eq_true (by omega)
                                (try rw [show ((6 : Int)).toNat = 6 from rfl] at hx229_0)
                                replace p229 := eq_true p229
                                replace q229 := eq_true q229
                                obtain ⟨Ao32, co32, eo32⟩ := Kd.R_slice HO_6.out
                                (first | subst eo32 | (injection eo32 with f1_ f2_ f3_; have f4_ := f1_.symm; have f5_ := f3_.symm; clear f1_ f2_ f3_; subst f4_; subst f5_))
                                have p230 : 0 ≤ (x8_1 : Int) := of_decide_eq_true (by first | (with_reducible assumption) | assumption)
                                have q230 : x8_1 < (t210.length : Int) := of_decide_eq_true (by first | (with_reducible assumption) | assumption)
                                obtain ⟨ad230, e230, hx230_0⟩ := Kd.at_int (Kd.R_reads' HO_6.out).2.2 x8_1 p230 q230
                                cases e230
                                replace p230 := eq_true p230
                                replace q230 := eq_true q230
                                obtain ⟨Ao33, co33, eo33⟩ := Kd.R_slice HO_5.out
                                (first | subst eo33 | (injection eo33 with f1_ f2_ f3_; have f4_ := f1_.symm; have f5_ := f3_.symm; clear f1_ f2_ f3_; subst f4_; subst f5_))
                                have p231 : 0 ≤ (x8_1 : Int) := of_decide_eq_true (by first | (with_reducible assumption) | assumption)
                                have q231 : x8_1 < (t207.length : Int) := of_decide_eq_true (by first | (with_reducible assumption) | assumption)
                                obtain ⟨ad231, e231, hx231_0⟩ := Kd.at_int (Kd.R_reads' HO_5.out).2.2 x8_1 p231 q231
                                cases e231
                                replace p231 := eq_true p231
                                replace q231 := eq_true q231
                                refine start_ (n := 33) (S := fun w' => w'.cell? ⟨ad219.block, ad219.off + 7, none⟩ = some (.int .u32 (rd x7_1 7)) ∧ w'.cell? ⟨ad219.block, ad219.off + 4, none⟩ = some (.int .u32 (rd x7_1 4)) ∧ w'.cell? ⟨ad219.block, ad219.off + 5, none⟩ = some (.int .u32 (rd x7_1 5)) ∧ w'.cell? ⟨ad219.block, ad219.off + 4, none⟩ = some (.int .u32 (rd x7_1 4)) ∧ w'.cell? ⟨ad219.block, ad219.off + 6, none⟩ = some (.int .u32 (rd x7_1 6)) ∧ w'.cell? (ad230.add (x8_1).toNat) = some (.int .u32 (rd t210 x8_1)) ∧ w'.cell? (ad231.add (x8_1).toNat) = some (.int .u32 (rd t207 x8_1))) (ds := []) #[false, false, false, false, false, false, false, false, false, false, false, false, false, false, false, false, false, false, false, false, false, false, false, false, false, false, false, false, false, false, false, false, false] (by kernel_rfl) rfl rfl ⟨hx225_0, hx226_0, hx227_0, hx228_0, hx229_0, hx230_0, hx231_0⟩ (fun hHeld => ?_); refine with_tabW agoraref03_next.tab8 agoraref03_next.bits8 (fun HT_ HW_ => ?_)
                                generalize w29.drew = w31 at HO_5 HO_6 HO_7 HB hx225_0 hx226_0 hx227_0 hx228_0 hx229_0 hx230_0 hx231_0 hHeld ⊢
                                refine pure_ (i := 0) (N := some 38) (v := ?_) (a' := ?_) #[true, false, false, false, false, false, false, false, false, false, false, false, false, false, false, false, false, false, false, false, false, false, false, false, false, false, false, false, false, false, false, false, false] rfl rfl (any_of HT_.out (by kernel_rfl)) (fun _ _ _ h => h) (Or.inl ⟨by rfl, ?_⟩) ?_ ?_
                                rotate_left
                                · intro w'
                                  go_simp
                                  with_reducible rfl
                                rotate_left
                                · simp only [Act.put, List.setIfInBounds_toArray, List.set_cons_zero, List.set_cons_succ, i64_w, i32_w]
                                  rfl
                                refine pure_ (i := 1) (N := some 39) (v := ?_) (a' := ?_) #[true, true, false, false, false, false, false, false, false, false, false, false, false, false, false, false, false, false, false, false, false, false, false, false, false, false, false, false, false, false, false, false, false] rfl rfl (any_of HT_.out (by kernel_rfl)) (fun _ _ _ h => h) (Or.inl ⟨by rfl, ?_⟩) ?_ ?_
                                rotate_left
                                · intro w'
                                  go_simp
                                  with_reducible rfl
                                rotate_left
                                · simp only [Act.put, List.setIfInBounds_toArray, List.set_cons_zero, List.set_cons_succ, i64_w, i32_w]
                                  rfl
                                refine pure_ (i := 3) (N := some 41) (v := ?_) (a' := ?_) #[true, true, false, true, false, false, false, false, false, false, false, false, false, false, false, false, false, false, false, false, false, false, false, false, false, false, false, false, false, false, false, false, false] rfl rfl (any_of HT_.out (by kernel_rfl)) (fun _ _ _ h => h) (Or.inl ⟨by rfl, ?_⟩) ?_ ?_
                                rotate_left
                                · intro w'
                                  go_simp
                                  with_reducible rfl
                                rotate_left
                                · simp only [Act.put, List.setIfInBounds_toArray, List.set_cons_zero, List.set_cons_succ, i64_w, i32_w]
                                  rfl
                                refine pure_ (i := 5) (N := some 43) (v := ?_) (a' := ?_) #[true, true, false, true, false, true, false, false, false, false, false, false, false, false, false, false, false, false, false, false, false, false, false, false, false, false, false, false, false, false, false, false, false] rfl rfl (any_of HT_.out (by kernel_rfl)) (fun _ _ _ h => h) (Or.inl ⟨by rfl, ?_⟩) ?_ ?_
                                rotate_left
                                · intro w'
                                  go_simp
                                  with_reducible rfl
                                rotate_left
                                · simp only [Act.put, List.setIfInBounds_toArray, List.set_cons_zero, List.set_cons_succ, i64_w, i32_w]
                                  rfl
                                refine pure_ (i := 6) (N := some 44) (v := ?_) (a' := ?_) #[true, true, false, true, false, true, true, false, false, false, false, false, false, false, false, false, false, false, false, false, false, false, false, false, false, false, false, false, false, false, false, false, false] rfl rfl (any_of HT_.out (by kernel_rfl)) (fun _ _ _ h => h) (Or.inl ⟨by rfl, ?_⟩) ?_ ?_
                                rotate_left
                                · intro w'
                                  go_simp
                                  with_reducible rfl
                                rotate_left
                                · simp only [Act.put, List.setIfInBounds_toArray, List.set_cons_zero, List.set_cons_succ, i64_w, i32_w]
                                  rfl
                                refine pure_ (i := 8) (N := some 46) (v := ?_) (a' := ?_) #[true, true, false, true, false, true, true, false, true, false, false, false, false, false, false, false, false, false, false, false, false, false, false, false, false, false, false, false, false, false, false, false, false] rfl rfl (any_of HT_.out (by kernel_rfl)) (fun _ _ _ h => h) (Or.inl ⟨by rfl, ?_⟩) ?_ ?_
                                rotate_left
                                · intro w'
                                  go_simp
                                  with_reducible rfl
                                rotate_left
                                · simp only [Act.put, List.setIfInBounds_toArray, List.set_cons_zero, List.set_cons_succ, i64_w, i32_w]
                                  rfl
                                refine pure_ (i := 9) (N := some 47) (v := ?_) (a' := ?_) #[true, true, false, true, false, true, true, false, true, true, false, false, false, false, false, false, false, false, false, false, false, false, false, false, false, false, false, false, false, false, false, false, false] rfl rfl (any_of HT_.out (by kernel_rfl)) (fun _ _ _ h => h) (Or.inl ⟨by rfl, ?_⟩) ?_ ?_
                                rotate_left
                                · intro w'
                                  go_simp
                                  with_reducible rfl
                                rotate_left
                                · simp only [Act.put, List.setIfInBounds_toArray, List.set_cons_zero, List.set_cons_succ, i64_w, i32_w]
                                  rfl
                                refine pure_ (i := 12) (N := some 50) (v := ?_) (a' := ?_) #[true, true, false, true, false, true, true, false, true, true, false, false, true, false, false, false, false, false, false, false, false, false, false, false, false, false, false, false, false, false, false, false, false] rfl rfl (any_of HT_.out (by kernel_rfl)) (fun _ _ _ h => h) (Or.inl ⟨by rfl, ?_⟩) ?_ ?_
                                rotate_left
                                · intro w'
                                  go_simp
                                  with_reducible rfl
                                rotate_left
                                · simp only [Act.put, List.setIfInBounds_toArray, List.set_cons_zero, List.set_cons_succ, i64_w, i32_w]
                                  rfl
                                refine pure_ (i := 13) (N := some 51) (v := ?_) (a' := ?_) #[true, true, false, true, false, true, true, false, true, true, false, false, true, true, false, false, false, false, false, false, false, false, false, false, false, false, false, false, false, false, false, false, false] rfl rfl (any_of HT_.out (by kernel_rfl)) (fun _ _ _ h => h) (Or.inl ⟨by rfl, ?_⟩) ?_ ?_
                                rotate_left
                                · intro w'
                                  go_simp
                                  with_reducible rfl
                                rotate_left
                                · simp only [Act.put, List.setIfInBounds_toArray, List.set_cons_zero, List.set_cons_succ, i64_w, i32_w]
                                  rfl
                                refine pure_ (i := 16) (N := some 54) (v := ?_) (a' := ?_) #[true, true, false, true, false, true, true, false, true, true, false, false, true, true, false, false, true, false, false, false, false, false, false, false, false, false, false, false, false, false, false, false, false] rfl rfl (any_of HT_.out (by kernel_rfl)) (fun _ _ _ h => h) (Or.inl ⟨by rfl, ?_⟩) ?_ ?_
                                rotate_left
                                · intro w'
                                  go_simp
                                  with_reducible rfl
                                rotate_left
                                · simp only [Act.put, List.setIfInBounds_toArray, List.set_cons_zero, List.set_cons_succ, i64_w, i32_w]
                                  rfl
                                refine pure_ (i := 17) (N := some 55) (v := ?_) (a' := ?_) #[true, true, false, true, false, true, true, false, true, true, false, false, true, true, false, false, true, true, false, false, false, false, false, false, false, false, false, false, false, false, false, false, false] rfl rfl (any_of HT_.out (by kernel_rfl)) (fun _ _ _ h => h) (Or.inl ⟨by rfl, ?_⟩) ?_ ?_
                                rotate_left
                                · intro w'
                                  go_simp
                                  with_reducible rfl
                                rotate_left
                                · simp only [Act.put, List.setIfInBounds_toArray, List.set_cons_zero, List.set_cons_succ, i64_w, i32_w]
                                  rfl
                                refine pure_ (i := 22) (N := some 60) (v := ?_) (a' := ?_) #[true, true, false, true, false, true, true, false, true, true, false, false, true, true, false, false, true, true, false, false, false, false, true, false, false, false, false, false, false, false, false, false, false] rfl rfl (any_of HT_.out (by kernel_rfl)) (fun _ _ _ h => h) (Or.inl ⟨by rfl, ?_⟩) ?_ ?_
                                rotate_left
                                · intro w'
                                  go_simp
                                  with_reducible rfl
                                rotate_left
                                · simp only [Act.put, List.setIfInBounds_toArray, List.set_cons_zero, List.set_cons_succ, i64_w, i32_w]
                                  rfl
                                refine pure_ (i := 23) (N := some 61) (v := ?_) (a' := ?_) #[true, true, false, true, false, true, true, false, true, true, false, false, true, true, false, false, true, true, false, false, false, false, true, true, false, false, false, false, false, false, false, false, false] rfl rfl (any_of HT_.out (by kernel_rfl)) (fun _ _ _ h => h) (Or.inl ⟨by rfl, ?_⟩) ?_ ?_
                                rotate_left
                                · intro w'
                                  go_simp
                                  with_reducible rfl
                                rotate_left
                                · simp only [Act.put, List.setIfInBounds_toArray, List.set_cons_zero, List.set_cons_succ, i64_w, i32_w]
                                  rfl
                                refine pure_ (i := 24) (N := some 62) (v := ?_) (a' := ?_) #[true, true, false, true, false, true, true, false, true, true, false, false, true, true, false, false, true, true, false, false, false, false, true, true, true, false, false, false, false, false, false, false, false] rfl rfl (any_of HT_.out (by kernel_rfl)) (fun _ _ _ h => h) (Or.inl ⟨by rfl, ?_⟩) ?_ ?_
                                rotate_left
                                · intro w'
                                  go_simp
                                  with_reducible rfl
                                rotate_left
                                · simp only [Act.put, List.setIfInBounds_toArray, List.set_cons_zero, List.set_cons_succ, i64_w, i32_w]
                                  rfl
                                refine pure_ (i := 27) (N := some 65) (v := ?_) (a' := ?_) #[true, true, false, true, false, true, true, false, true, true, false, false, true, true, false, false, true, true, false, false, false, false, true, true, true, false, false, true, false, false, false, false, false] rfl rfl (any_of HT_.out (by kernel_rfl)) (fun _ _ _ h => h) (Or.inl ⟨by rfl, ?_⟩) ?_ ?_
                                rotate_left
                                · intro w'
                                  go_simp
                                  with_reducible rfl
                                rotate_left
                                · simp only [Act.put, List.setIfInBounds_toArray, List.set_cons_zero, List.set_cons_succ, i64_w, i32_w]
                                  rfl
                                refine pure_ (i := 28) (N := some 66) (v := ?_) (a' := ?_) #[true, true, false, true, false, true, true, false, true, true, false, false, true, true, false, false, true, true, false, false, false, false, true, true, true, false, false, true, true, false, false, false, false] rfl rfl (any_of HT_.out (by kernel_rfl)) (fun _ _ _ h => h) (Or.inl ⟨by rfl, ?_⟩) ?_ ?_
                                rotate_left
                                · intro w'
                                  go_simp
                                  with_reducible rfl
                                rotate_left
                                · simp only [Act.put, List.setIfInBounds_toArray, List.set_cons_zero, List.set_cons_succ, i64_w, i32_w]
                                  rfl
                                refine pure_ (i := 29) (N := some 67) (v := ?_) (a' := ?_) #[true, true, false, true, false, true, true, false, true, true, false, false, true, true, false, false, true, true, false, false, false, false, true, true, true, false, false, true, true, true, false, false, false] rfl rfl (any_of HT_.out (by kernel_rfl)) (fun _ _ _ h => h) (Or.inl ⟨by rfl, ?_⟩) ?_ ?_
                                rotate_left
                                · intro w'
                                  go_simp
                                  with_reducible rfl
                                rotate_left
                                · simp only [Act.put, List.setIfInBounds_toArray, List.set_cons_zero, List.set_cons_succ, i64_w, i32_w]
                                  rfl
                                refine take_ (i := 2) (N := some 40) (v := ?_) (a' := ?_) #[true, true, true, true, false, true, true, false, true, true, false, false, true, true, false, false, true, true, false, false, false, false, true, true, true, false, false, true, true, true, false, false, false] rfl rfl (take_ofW HT_.out HW_.out (by kernel_rfl)) (fun _ _ _ h => h) (Or.inl ⟨by rfl, ?_⟩) hHeld ?_ ?_
                                rotate_left
                                · rintro w' ⟨s0, s1, s2, s3, s4, s5, s6⟩
                                  go_simp
                                  with_reducible rfl
                                rotate_left
                                · simp only [Act.put, List.setIfInBounds_toArray, List.set_cons_zero, List.set_cons_succ, i64_w, i32_w]
                                  rfl
                                refine pure_ (i := 4) (N := some 42) (v := ?_) (a' := ?_) #[true, true, true, true, true, true, true, false, true, true, false, false, true, true, false, false, true, true, false, false, false, false, true, true, true, false, false, true, true, true, false, false, false] rfl rfl (any_of HT_.out (by kernel_rfl)) (fun _ _ _ h => h) (Or.inl ⟨by rfl, ?_⟩) ?_ ?_
                                rotate_left
                                · intro w'
                                  go_simp
                                  with_reducible rfl
                                rotate_left
                                · simp only [Act.put, List.setIfInBounds_toArray, List.set_cons_zero, List.set_cons_succ, i64_w, i32_w]
                                  rfl
                                refine take_ (i := 7) (N := some 45) (v := ?_) (a' := ?_) #[true, true, true, true, true, true, true, true, true, true, false, false, true, true, false, false, true, true, false, false, false, false, true, true, true, false, false, true, true, true, false, false, false] rfl rfl (take_ofW HT_.out HW_.out (by kernel_rfl)) (fun _ _ _ h => h) (Or.inl ⟨by rfl, ?_⟩) hHeld ?_ ?_
                                rotate_left
                                · rintro w' ⟨s0, s1, s2, s3, s4, s5, s6⟩
                                  go_simp
                                  with_reducible rfl
                                rotate_left
                                · simp only [Act.put, List.setIfInBounds_toArray, List.set_cons_zero, List.set_cons_succ, i64_w, i32_w]
                                  rfl
                                refine take_ (i := 10) (N := some 48) (v := ?_) (a' := ?_) #[true, true, true, true, true, true, true, true, true, true, true, false, true, true, false, false, true, true, false, false, false, false, true, true, true, false, false, true, true, true, false, false, false] rfl rfl (take_ofW HT_.out HW_.out (by kernel_rfl)) (fun _ _ _ h => h) (Or.inl ⟨by rfl, ?_⟩) hHeld ?_ ?_
                                rotate_left
                                · rintro w' ⟨s0, s1, s2, s3, s4, s5, s6⟩
                                  go_simp
                                  with_reducible rfl
                                rotate_left
                                · simp only [Act.put, List.setIfInBounds_toArray, List.set_cons_zero, List.set_cons_succ, i64_w, i32_w]
                                  rfl
                                refine pure_ (i := 11) (N := some 49) (v := ?_) (a' := ?_) #[true, true, true, true, true, true, true, true, true, true, true, true, true, true, false, false, true, true, false, false, false, false, true, true, true, false, false, true, true, true, false, false, false] rfl rfl (any_of HT_.out (by kernel_rfl)) (fun _ _ _ h => h) (Or.inl ⟨by rfl, ?_⟩) ?_ ?_
                                rotate_left
                                · intro w'
                                  go_simp
                                  with_reducible rfl
                                rotate_left
                                · simp only [Act.put, List.setIfInBounds_toArray, List.set_cons_zero, List.set_cons_succ, i64_w, i32_w]
                                  rfl
                                refine take_ (i := 14) (N := some 52) (v := ?_) (a' := ?_) #[true, true, true, true, true, true, true, true, true, true, true, true, true, true, true, false, true, true, false, false, false, false, true, true, true, false, false, true, true, true, false, false, false] rfl rfl (take_ofW HT_.out HW_.out (by kernel_rfl)) (fun _ _ _ h => h) (Or.inl ⟨by rfl, ?_⟩) hHeld ?_ ?_
                                rotate_left
                                · rintro w' ⟨s0, s1, s2, s3, s4, s5, s6⟩
                                  go_simp
                                  with_reducible rfl
                                rotate_left
                                · simp only [Act.put, List.setIfInBounds_toArray, List.set_cons_zero, List.set_cons_succ, i64_w, i32_w]
                                  rfl
                                refine pure_ (i := 15) (N := some 53) (v := ?_) (a' := ?_) #[true, true, true, true, true, true, true, true, true, true, true, true, true, true, true, true, true, true, false, false, false, false, true, true, true, false, false, true, true, true, false, false, false] rfl rfl (any_of HT_.out (by kernel_rfl)) (fun _ _ _ h => h) (Or.inl ⟨by rfl, ?_⟩) ?_ ?_
                                rotate_left
                                · intro w'
                                  go_simp
                                  with_reducible rfl
                                rotate_left
                                · simp only [Act.put, List.setIfInBounds_toArray, List.set_cons_zero, List.set_cons_succ, i64_w, i32_w]
                                  rfl
                                refine take_ (i := 18) (N := some 56) (v := ?_) (a' := ?_) #[true, true, true, true, true, true, true, true, true, true, true, true, true, true, true, true, true, true, true, false, false, false, true, true, true, false, false, true, true, true, false, false, false] rfl rfl (take_ofW HT_.out HW_.out (by kernel_rfl)) (fun _ _ _ h => h) (Or.inl ⟨by rfl, ?_⟩) hHeld ?_ ?_
                                rotate_left
                                · rintro w' ⟨s0, s1, s2, s3, s4, s5, s6⟩
                                  go_simp
                                  with_reducible rfl
                                rotate_left
                                · simp only [Act.put, List.setIfInBounds_toArray, List.set_cons_zero, List.set_cons_succ, i64_w, i32_w]
                                  rfl
                                refine pure_ (i := 19) (N := some 57) (v := ?_) (a' := ?_) #[true, true, true, true, true, true, true, true, true, true, true, true, true, true, true, true, true, true, true, true, false, false, true, true, true, false, false, true, true, true, false, false, false] rfl rfl (any_of HT_.out (by kernel_rfl)) (fun _ _ _ h => h) (Or.inl ⟨by rfl, ?_⟩) ?_ ?_
                                rotate_left
                                · intro w'
                                  go_simp
                                  with_reducible rfl
                                rotate_left
                                · simp only [Act.put, List.setIfInBounds_toArray, List.set_cons_zero, List.set_cons_succ, i64_w, i32_w]
                                  rfl
                                refine pure_ (i := 20) (N := some 58) (v := ?_) (a' := ?_) #[true, true, true, true, true, true, true, true, true, true, true, true, true, true, true, true, true, true, true, true, true, false, true, true, true, false, false, true, true, true, false, false, false] rfl rfl (any_of HT_.out (by kernel_rfl)) (fun _ _ _ h => h) (Or.inl ⟨by rfl, ?_⟩) ?_ ?_
                                rotate_left
                                · intro w'
                                  go_simp
                                  with_reducible rfl
                                rotate_left
                                · simp only [Act.put, List.setIfInBounds_toArray, List.set_cons_zero, List.set_cons_succ, i64_w, i32_w]
                                  rfl
                                refine pure_ (i := 21) (N := some 59) (v := ?_) (a' := ?_) #[true, true, true, true, true, true, true, true, true, true, true, true, true, true, true, true, true, true, true, true, true, true, true, true, true, false, false, true, true, true, false, false, false] rfl rfl (any_of HT_.out (by kernel_rfl)) (fun _ _ _ h => h) (Or.inl ⟨by rfl, ?_⟩) ?_ ?_
                                rotate_left
                                · intro w'
                                  go_simp
                                  with_reducible rfl
                                rotate_left
                                · simp only [Act.put, List.setIfInBounds_toArray, List.set_cons_zero, List.set_cons_succ, i64_w, i32_w]
                                  rfl
                                refine take_ (i := 25) (N := some 63) (v := ?_) (a' := ?_) #[true, true, true, true, true, true, true, true, true, true, true, true, true, true, true, true, true, true, true, true, true, true, true, true, true, true, false, true, true, true, false, false, false] rfl rfl (take_ofW HT_.out HW_.out (by kernel_rfl)) (fun _ _ _ h => h) (Or.inl ⟨by rfl, ?_⟩) hHeld ?_ ?_
                                rotate_left
                                · rintro w' ⟨s0, s1, s2, s3, s4, s5, s6⟩
                                  go_simp
                                  with_reducible rfl
                                rotate_left
                                · simp only [Act.put, List.setIfInBounds_toArray, List.set_cons_zero, List.set_cons_succ, i64_w, i32_w]
                                  rfl
                                refine pure_ (i := 26) (N := some 64) (v := ?_) (a' := ?_) #[true, true, true, true, true, true, true, true, true, true, true, true, true, true, true, true, true, true, true, true, true, true, true, true, true, true, true, true, true, true, false, false, false] rfl rfl (any_of HT_.out (by kernel_rfl)) (fun _ _ _ h => h) (Or.inl ⟨by rfl, ?_⟩) ?_ ?_
                                rotate_left
                                · intro w'
                                  go_simp
                                  with_reducible rfl
                                rotate_left
                                · simp only [Act.put, List.setIfInBounds_toArray, List.set_cons_zero, List.set_cons_succ, i64_w, i32_w]
                                  rfl
                                refine take_ (i := 30) (N := some 68) (v := ?_) (a' := ?_) #[true, true, true, true, true, true, true, true, true, true, true, true, true, true, true, true, true, true, true, true, true, true, true, true, true, true, true, true, true, true, true, false, false] rfl rfl (take_ofW HT_.out HW_.out (by kernel_rfl)) (fun _ _ _ h => h) (Or.inl ⟨by rfl, ?_⟩) hHeld ?_ ?_
                                rotate_left
                                · rintro w' ⟨s0, s1, s2, s3, s4, s5, s6⟩
                                  go_simp
                                  with_reducible rfl
                                rotate_left
                                · simp only [Act.put, List.setIfInBounds_toArray, List.set_cons_zero, List.set_cons_succ, i64_w, i32_w]
                                  rfl
                                refine pure_ (i := 31) (N := some 69) (v := ?_) (a' := ?_) #[true, true, true, true, true, true, true, true, true, true, true, true, true, true, true, true, true, true, true, true, true, true, true, true, true, true, true, true, true, true, true, true, false] rfl rfl (any_of HT_.out (by kernel_rfl)) (fun _ _ _ h => h) (Or.inl ⟨by rfl, ?_⟩) ?_ ?_
                                rotate_left
                                · intro w'
                                  go_simp
                                  with_reducible rfl
                                rotate_left
                                · simp only [Act.put, List.setIfInBounds_toArray, List.set_cons_zero, List.set_cons_succ, i64_w, i32_w]
                                  rfl
                                refine pure_ (i := 32) (N := some 10) (v := ?_) (a' := ?_) #[true, true, true, true, true, true, true, true, true, true, true, true, true, true, true, true, true, true, true, true, true, true, true, true, true, true, true, true, true, true, true, true, true] rfl rfl (any_of HT_.out (by kernel_rfl)) (fun _ _ _ h => h) (Or.inl ⟨by rfl, ?_⟩) ?_ ?_
                                rotate_left
                                · intro w'
                                  go_simp
                                  with_reducible rfl
                                rotate_left
                                · simp only [Act.put, List.setIfInBounds_toArray, List.set_cons_zero, List.set_cons_succ, i64_w, i32_w]
                                  rfl
                                refine done_ (done_of HT_.out (by kernel_rfl)) ?_
                                try go_wp2
                                have n0_ := Aside0.mk (Kd.R_drew HO_5.out)
                                have n1_ := Aside0.mk (Kd.R_drew HO_6.out)
                                have n2_ := Aside0.mk (Kd.R_drew HO_7.out)
                                have n3_ := Aside0.mk (below_drew1 HB.out)
                                clear HO_5
                                clear HO_6
                                clear HO_7
                                clear HB
                                have HO_5 := n0_
                                have HO_6 := n1_
                                have HO_7 := n2_
                                have HB := n3_
                                clear n0_ n1_ n2_ n3_
                                have p232 : 0 ≤ (0 : Int) := (by omega)
                                have q232 : 0 < (x7_1.length : Int) := of_decide_eq_true (by first | (with_reducible assumption) | assumption)
                                obtain ⟨ad232, e232, hx232_0⟩ := Kd.at_int (Kd.R_reads' HO_7.out).2.2 0 p232 q232
                                obtain rfl : ad219 = ad232 := (by injection e232)
                                have qi232 : (0 < x7_1.length) = True := eq_true (by omega)
                                (try rw [show ((0 : Int)).toNat = 0 from rfl] at hx232_0)
                                (try rw [Addr.add_zero'] at hx232_0)
                                replace p232 := eq_true p232
                                replace q232 := eq_true q232
                                have p234 : 0 ≤ (0 : Int) := (by omega)
                                have q234 : 0 < (x7_1.length : Int) := of_decide_eq_true (by first | (with_reducible assumption) | assumption)
                                obtain ⟨ad234, e234, hx234_0⟩ := Kd.at_int (Kd.R_reads' HO_7.out).2.2 0 p234 q234
                                obtain rfl : ad219 = ad234 := (by injection e234)
                                have qi234 : (0 < x7_1.length) = True := eq_true (by omega)
                                (try rw [show ((0 : Int)).toNat = 0 from rfl] at hx234_0)
                                (try rw [Addr.add_zero'] at hx234_0)
                                replace p234 := eq_true p234
                                replace q234 := eq_true q234
                                have p236 : 0 ≤ (0 : Int) := (by omega)
                                have q236 : 0 < (x7_1.length : Int) := of_decide_eq_true (by first | (with_reducible assumption) | assumption)
                                obtain ⟨ad236, e236, hx236_0⟩ := Kd.at_int (Kd.R_reads' HO_7.out).2.2 0 p236 q236
                                obtain rfl : ad219 = ad236 := (by injection e236)
                                have qi236 : (0 < x7_1.length) = True := eq_true (by omega)
                                (try rw [show ((0 : Int)).toNat = 0 from rfl] at hx236_0)
                                (try rw [Addr.add_zero'] at hx236_0)
                                replace p236 := eq_true p236
                                replace q236 := eq_true q236
                                refine start_ (n := 15) (S := fun w' => w'.cell? ad219 = some (.int .u32 (rd x7_1 0)) ∧ w'.cell? ad219 = some (.int .u32 (rd x7_1 0)) ∧ w'.cell? ad219 = some (.int .u32 (rd x7_1 0))) (ds := []) #[false, false, false, false, false, false, false, false, false, false, false, false, false, false, false] (by kernel_rfl) rfl rfl ⟨hx232_0, hx234_0, hx236_0⟩ (fun hHeld => ?_); refine with_tabW agoraref03_next.tab9 agoraref03_next.bits9 (fun HT_ HW_ => ?_)
                                generalize w31.drew = w34 at HO_5 HO_6 HO_7 HB hx232_0 hx234_0 hx236_0 hHeld ⊢
                                refine pure_ (i := 0) (N := some 70) (v := ?_) (a' := ?_) #[true, false, false, false, false, false, false, false, false, false, false, false, false, false, false] rfl rfl (any_of HT_.out (by kernel_rfl)) (fun _ _ _ h => h) (Or.inl ⟨by rfl, ?_⟩) ?_ ?_
                                rotate_left
                                · intro w'
                                  go_simp
                                  with_reducible rfl
                                rotate_left
                                · simp only [Act.put, List.setIfInBounds_toArray, List.set_cons_zero, List.set_cons_succ, i64_w, i32_w]
                                  rfl
                                refine pure_ (i := 1) (N := some 71) (v := ?_) (a' := ?_) #[true, true, false, false, false, false, false, false, false, false, false, false, false, false, false] rfl rfl (any_of HT_.out (by kernel_rfl)) (fun _ _ _ h => h) (Or.inl ⟨by rfl, ?_⟩) ?_ ?_
                                rotate_left
                                · intro w'
                                  go_simp
                                  with_reducible rfl
                                rotate_left
                                · simp only [Act.put, List.setIfInBounds_toArray, List.set_cons_zero, List.set_cons_succ, i64_w, i32_w]
                                  rfl
                                refine pure_ (i := 4) (N := some 74) (v := ?_) (a' := ?_) #[true, true, false, false, true, false, false, false, false, false, false, false, false, false, false] rfl rfl (any_of HT_.out (by kernel_rfl)) (fun _ _ _ h => h) (Or.inl ⟨by rfl, ?_⟩) ?_ ?_
                                rotate_left
                                · intro w'
                                  go_simp
                                  with_reducible rfl
                                rotate_left
                                · simp only [Act.put, List.setIfInBounds_toArray, List.set_cons_zero, List.set_cons_succ, i64_w, i32_w]
                                  rfl
                                refine pure_ (i := 5) (N := some 75) (v := ?_) (a' := ?_) #[true, true, false, false, true, true, false, false, false, false, false, false, false, false, false] rfl rfl (any_of HT_.out (by kernel_rfl)) (fun _ _ _ h => h) (Or.inl ⟨by rfl, ?_⟩) ?_ ?_
                                rotate_left
                                · intro w'
                                  go_simp
                                  with_reducible rfl
                                rotate_left
                                · simp only [Act.put, List.setIfInBounds_toArray, List.set_cons_zero, List.set_cons_succ, i64_w, i32_w]
                                  rfl
                                refine pure_ (i := 9) (N := some 79) (v := ?_) (a' := ?_) #[true, true, false, false, true, true, false, false, false, true, false, false, false, false, false] rfl rfl (any_of HT_.out (by kernel_rfl)) (fun _ _ _ h => h) (Or.inl ⟨by rfl, ?_⟩) ?_ ?_
                                rotate_left
                                · intro w'
                                  go_simp
                                  with_reducible rfl
                                rotate_left
                                · simp only [Act.put, List.setIfInBounds_toArray, List.set_cons_zero, List.set_cons_succ, i64_w, i32_w]
                                  rfl
                                refine pure_ (i := 10) (N := some 80) (v := ?_) (a' := ?_) #[true, true, false, false, true, true, false, false, false, true, true, false, false, false, false] rfl rfl (any_of HT_.out (by kernel_rfl)) (fun _ _ _ h => h) (Or.inl ⟨by rfl, ?_⟩) ?_ ?_
                                rotate_left
                                · intro w'
                                  go_simp
                                  with_reducible rfl
                                rotate_left
                                · simp only [Act.put, List.setIfInBounds_toArray, List.set_cons_zero, List.set_cons_succ, i64_w, i32_w]
                                  rfl
                                refine take_ (i := 2) (N := some 72) (v := ?_) (a' := ?_) #[true, true, true, false, true, true, false, false, false, true, true, false, false, false, false] rfl rfl (take_ofW HT_.out HW_.out (by kernel_rfl)) (fun _ _ _ h => h) (Or.inl ⟨by rfl, ?_⟩) hHeld ?_ ?_
                                rotate_left
                                · rintro w' ⟨s0, s1, s2⟩
                                  go_simp
                                  with_reducible rfl
                                rotate_left
                                · simp only [Act.put, List.setIfInBounds_toArray, List.set_cons_zero, List.set_cons_succ, i64_w, i32_w]
                                  rfl
                                refine take_ (i := 6) (N := some 76) (v := ?_) (a' := ?_) #[true, true, true, false, true, true, true, false, false, true, true, false, false, false, false] rfl rfl (take_ofW HT_.out HW_.out (by kernel_rfl)) (fun _ _ _ h => h) (Or.inl ⟨by rfl, ?_⟩) hHeld ?_ ?_
                                rotate_left
                                · rintro w' ⟨s0, s1, s2⟩
                                  go_simp
                                  with_reducible rfl
                                rotate_left
                                · simp only [Act.put, List.setIfInBounds_toArray, List.set_cons_zero, List.set_cons_succ, i64_w, i32_w]
                                  rfl
                                refine take_ (i := 11) (N := some 81) (v := ?_) (a' := ?_) #[true, true, true, false, true, true, true, false, false, true, true, true, false, false, false] rfl rfl (take_ofW HT_.out HW_.out (by kernel_rfl)) (fun _ _ _ h => h) (Or.inl ⟨by rfl, ?_⟩) hHeld ?_ ?_
                                rotate_left
                                · rintro w' ⟨s0, s1, s2⟩
                                  go_simp
                                  with_reducible rfl
                                rotate_left
                                · simp only [Act.put, List.setIfInBounds_toArray, List.set_cons_zero, List.set_cons_succ, i64_w, i32_w]
                                  rfl
                                refine one_ (i := 3) (N := some 73) #[true, true, true, true, true, true, true, false, false, true, true, true, false, false, false] rfl rfl (one_of HT_.out (by kernel_rfl)) (by decide) (fun K hK => ?_)
                                refine goes_ Try.func55 (by kernel_rfl) rfl #[.int .u32 (rd x7_1 0), .int .i64 2] (by rfl) rfl rfl (by (try simp only [List.map_toArray, List.map_cons, List.map_nil]); first | done | rfl | (simp only [List.length_drop, List.length_take]; rfl)) ?_
                                with_reducible refine (agoraref03_turn.calls (rd x7_1 0) 2 t233 _ A23.out).mono ?_
                                rintro e w' ⟨rfl, ⟨nd, rfl⟩⟩
                                refine ⟨_, rfl, ?_⟩
                                refine hK.out _ _ ⟨hHeld.1, hHeld.2.1, hHeld.2.2⟩ (fun hHeld => ?_)
                                clear hK K
                                refine norm_ (a' := ?_) ?_ ?_
                                rotate_left
                                · show Act.put _ (some 73) _ = _
                                  simp only [Act.put, List.setIfInBounds_toArray, List.set_cons_zero, List.set_cons_succ, i64_w, i32_w]
                                  rfl
                                refine one_ (i := 7) (N := some 77) #[true, true, true, true, true, true, true, true, false, true, true, true, false, false, false] rfl rfl (one_of HT_.out (by kernel_rfl)) (by decide) (fun K hK => ?_)
                                refine goes_ Try.func55 (by kernel_rfl) rfl #[.int .u32 (rd x7_1 0), .int .i64 13] (by rfl) rfl rfl (by (try simp only [List.map_toArray, List.map_cons, List.map_nil]); first | done | rfl | (simp only [List.length_drop, List.length_take]; rfl)) ?_
                                with_reducible refine (agoraref03_turn.calls (rd x7_1 0) 13 t235 _ A24.out).mono ?_
                                rintro e w' ⟨rfl, ⟨nd, rfl⟩⟩
                                refine ⟨_, rfl, ?_⟩
                                refine hK.out _ _ ⟨hHeld.1, hHeld.2.1, hHeld.2.2⟩ (fun hHeld => ?_)
                                clear hK K
                                refine norm_ (a' := ?_) ?_ ?_
                                rotate_left
                                · show Act.put _ (some 77) _ = _
                                  simp only [Act.put, List.setIfInBounds_toArray, List.set_cons_zero, List.set_cons_succ, i64_w, i32_w]
                                  rfl
                                refine pure_ (i := 8) (N := some 78) (v := ?_) (a' := ?_) #[true, true, true, true, true, true, true, true, true, true, true, true, false, false, false] rfl rfl (any_of HT_.out (by kernel_rfl)) (fun _ _ _ h => h) (Or.inl ⟨by rfl, ?_⟩) ?_ ?_
                                rotate_left
                                · intro w'
                                  go_simp
                                  with_reducible rfl
                                rotate_left
                                · simp only [Act.put, List.setIfInBounds_toArray, List.set_cons_zero, List.set_cons_succ, i64_w, i32_w]
                                  rfl
                                refine one_ (i := 12) (N := some 82) #[true, true, true, true, true, true, true, true, true, true, true, true, true, false, false] rfl rfl (one_of HT_.out (by kernel_rfl)) (by decide) (fun K hK => ?_)
                                refine goes_ Try.func55 (by kernel_rfl) rfl #[.int .u32 (rd x7_1 0), .int .i64 22] (by rfl) rfl rfl (by (try simp only [List.map_toArray, List.map_cons, List.map_nil]); first | done | rfl | (simp only [List.length_drop, List.length_take]; rfl)) ?_
                                with_reducible refine (agoraref03_turn.calls (rd x7_1 0) 22 t237 _ A25.out).mono ?_
                                rintro e w' ⟨rfl, ⟨nd, rfl⟩⟩
                                refine ⟨_, rfl, ?_⟩
                                refine hK.out _ _ ⟨hHeld.1, hHeld.2.1, hHeld.2.2⟩ (fun hHeld => ?_)
                                clear hK K
                                refine norm_ (a' := ?_) ?_ ?_
                                rotate_left
                                · show Act.put _ (some 82) _ = _
                                  simp only [Act.put, List.setIfInBounds_toArray, List.set_cons_zero, List.set_cons_succ, i64_w, i32_w]
                                  rfl
                                refine pure_ (i := 13) (N := some 83) (v := ?_) (a' := ?_) #[true, true, true, true, true, true, true, true, true, true, true, true, true, true, false] rfl rfl (any_of HT_.out (by kernel_rfl)) (fun _ _ _ h => h) (Or.inl ⟨by rfl, ?_⟩) ?_ ?_
                                rotate_left
                                · intro w'
                                  go_simp
                                  with_reducible rfl
                                rotate_left
                                · simp only [Act.put, List.setIfInBounds_toArray, List.set_cons_zero, List.set_cons_succ, i64_w, i32_w]
                                  rfl
                                refine pure_ (i := 14) (N := some 11) (v := ?_) (a' := ?_) #[true, true, true, true, true, true, true, true, true, true, true, true, true, true, true] rfl rfl (any_of HT_.out (by kernel_rfl)) (fun _ _ _ h => h) (Or.inl ⟨by rfl, ?_⟩) ?_ ?_
                                rotate_left
                                · intro w'
                                  go_simp
                                  with_reducible rfl
                                rotate_left
                                · simp only [Act.put, List.setIfInBounds_toArray, List.set_cons_zero, List.set_cons_succ, i64_w, i32_w]
                                  rfl
                                refine done_ (done_of HT_.out (by kernel_rfl)) ?_
                                try go_wp2
                                (try simp only [World.drewN_drewN])
                                (try (rw [drewN_self w34]; generalize hq_ : World.drewN w34 _ = w34; have n0_ : Aside0 (Kd.R (Kd.int .u32) 54 w34 w.heap.size (fun k_ => some k_ ≠ (.slice (some ad230) t210.length co32 : Value).ownBlock ∧ some k_ ≠ (.slice (some ad219) x7_1.length co30 : Value).ownBlock) (.slice (some ad231) t207.length co33) t207) := ⟨by rw [← hq_]; exact (by (with_reducible repeat (first | apply Kd.R_alloc | apply Kd.R_drewN | apply Kd.R_drew)); exact HO_5.out)⟩; have n1_ : Aside0 (Kd.R (Kd.int .u32) 54 w34 w.heap.size (fun k_ => some k_ ≠ (.slice (some ad231) t207.length co33 : Value).ownBlock ∧ some k_ ≠ (.slice (some ad219) x7_1.length co30 : Value).ownBlock) (.slice (some ad230) t210.length co32) t210) := ⟨by rw [← hq_]; exact (by (with_reducible repeat (first | apply Kd.R_alloc | apply Kd.R_drewN | apply Kd.R_drew)); exact HO_6.out)⟩; have n2_ : Aside0 (Kd.R (Kd.int .u32) 54 w34 w.heap.size (fun k_ => some k_ ≠ (.slice (some ad231) t207.length co33 : Value).ownBlock ∧ some k_ ≠ (.slice (some ad230) t210.length co32 : Value).ownBlock) (.slice (some ad219) x7_1.length co30) x7_1) := ⟨by rw [← hq_]; exact (by (with_reducible repeat (first | apply Kd.R_alloc | apply Kd.R_drewN | apply Kd.R_drew)); exact HO_7.out)⟩; have n3_ : Aside0 (Below w.heap.size w w34) := ⟨by rw [← hq_]; exact (by repeat (first | (with_reducible first | exact HB.out | apply below_alloc | apply pw_below_drewN | apply below_drew1) | exact HB.out))⟩; clear HO_5 HO_6 HO_7 HB hq_; have HO_5 := n0_; have HO_6 := n1_; have HO_7 := n2_; have HB := n3_; clear n0_ n1_ n2_ n3_))
                                have n0_ := Aside0.mk (Kd.R_drew HO_5.out)
                                have n1_ := Aside0.mk (Kd.R_drew HO_6.out)
                                have n2_ := Aside0.mk (Kd.R_drew HO_7.out)
                                have n3_ := Aside0.mk (below_drew1 HB.out)
                                clear HO_5
                                clear HO_6
                                clear HO_7
                                clear HB
                                have HO_5 := n0_
                                have HO_6 := n1_
                                have HO_7 := n2_
                                have HB := n3_
                                clear n0_ n1_ n2_ n3_
                                have p238 : 0 ≤ (0 : Int) := (by omega)
                                have q238 : 0 < (x7_1.length : Int) := of_decide_eq_true (by first | (with_reducible assumption) | assumption)
                                obtain ⟨ad238, e238, hx238_0⟩ := Kd.at_int (Kd.R_reads' HO_7.out).2.2 0 p238 q238
                                obtain rfl : ad219 = ad238 := (by injection e238)
                                have qi238 : (0 < x7_1.length) = True := eq_true (by omega)
                                (try rw [show ((0 : Int)).toNat = 0 from rfl] at hx238_0)
                                (try rw [Addr.add_zero'] at hx238_0)
                                replace p238 := eq_true p238
                                replace q238 := eq_true q238
                                have p239 : 0 ≤ (1 : Int) := (by omega)
                                have q239 : 1 < (x7_1.length : Int) := of_decide_eq_true (by first | (with_reducible assumption) | assumption)
                                obtain ⟨ad239, e239, hx239_0⟩ := Kd.at_int (Kd.R_reads' HO_7.out).2.2 1 p239 q239
                                obtain rfl : ad219 = ad239 := (by injection e239)
                                (try simp only [show (1 : Int).toNat = 1 from rfl, Nat.reduceMul, Nat.reduceEqDiff, Go.Addr.add, ↓reduceIte] at hx239_0)
                                have qi239 : (1 < x7_1.length) = True := eq_true (by omega)
                                (try rw [show ((1 : Int)).toNat = 1 from rfl] at hx239_0)
                                replace p239 := eq_true p239
                                replace q239 := eq_true q239
                                have p240 : 0 ≤ (0 : Int) := (by omega)
                                have q240 : 0 < (x7_1.length : Int) := of_decide_eq_true (by first | (with_reducible assumption) | assumption)
                                obtain ⟨ad240, e240, hx240_0⟩ := Kd.at_int (Kd.R_reads' HO_7.out).2.2 0 p240 q240
                                obtain rfl : ad219 = ad240 := (by injection e240)
                                have qi240 : (0 < x7_1.length) = True := eq_true (by omega)
                                (try rw [show ((0 : Int)).toNat = 0 from rfl] at hx240_0)
                                (try rw [Addr.add_zero'] at hx240_0)
                                replace p240 := eq_true p240
                                replace q240 := eq_true q240
                                have p241 : 0 ≤ (2 : Int) := (by omega)
                                have q241 : 2 < (x7_1.length : Int) := of_decide_eq_true (by first | (with_reducible assumption) | assumption)
                                obtain ⟨ad241, e241, hx241_0⟩ := Kd.at_int (Kd.R_reads' HO_7.out).2.2 2 p241 q241
                                obtain rfl : ad219 = ad241 := (by injection e241)
                                (try simp only [show (2 : Int).toNat = 2 from rfl, Nat.reduceMul, Nat.reduceEqDiff, Go.Addr.add, ↓reduceIte] at hx241_0)
                                have qi241 : (2 < x7_1.length) = True := eq_true (by omega)
                                (try rw [show ((2 : Int)).toNat = 2 from rfl] at hx241_0)
                                replace p241 := eq_true p241
                                replace q241 := eq_true q241
                                have p242 : 0 ≤ (1 : Int) := (by omega)
                                have q242 : 1 < (x7_1.length : Int) := of_decide_eq_true (by first | (with_reducible assumption) | assumption)
                                obtain ⟨ad242, e242, hx242_0⟩ := Kd.at_int (Kd.R_reads' HO_7.out).2.2 1 p242 q242
                                obtain rfl : ad219 = ad242 := (by injection e242)
                                (try simp only [show (1 : Int).toNat = 1 from rfl, Nat.reduceMul, Nat.reduceEqDiff, Go.Addr.add, ↓reduceIte] at hx242_0)
                                have qi242 : (1 < x7_1.length) = True := eq_true (by omega)
                                (try rw [show ((1 : Int)).toNat = 1 from rfl] at hx242_0)
                                replace p242 := eq_true p242
                                replace q242 := eq_true q242
                                have p243 : 0 ≤ (2 : Int) := (by omega)
                                have q243 : 2 < (x7_1.length : Int) := of_decide_eq_true (by first | (with_reducible assumption) | assumption)
                                obtain ⟨ad243, e243, hx243_0⟩ := Kd.at_int (Kd.R_reads' HO_7.out).2.2 2 p243 q243
                                obtain rfl : ad219 = ad243 := (by injection e243)
                                (try simp only [show (2 : Int).toNat = 2 from rfl, Nat.reduceMul, Nat.reduceEqDiff, Go.Addr.add, ↓reduceIte] at hx243_0)
                                have qi243 : (2 < x7_1.length) = True := eq_true (by omega)
                                (try rw [show ((2 : Int)).toNat = 2 from rfl] at hx243_0)
                                replace p243 := eq_true p243
                                replace q243 := eq_true q243
                                refine start_ (n := 26) (S := fun w' => w'.cell? ad219 = some (.int .u32 (rd x7_1 0)) ∧ w'.cell? ⟨ad219.block, ad219.off + 1, none⟩ = some (.int .u32 (rd x7_1 1)) ∧ w'.cell? ad219 = some (.int .u32 (rd x7_1 0)) ∧ w'.cell? ⟨ad219.block, ad219.off + 2, none⟩ = some (.int .u32 (rd x7_1 2)) ∧ w'.cell? ⟨ad219.block, ad219.off + 1, none⟩ = some (.int .u32 (rd x7_1 1)) ∧ w'.cell? ⟨ad219.block, ad219.off + 2, none⟩ = some (.int .u32 (rd x7_1 2))) (ds := []) #[false, false, false, false, false, false, false, false, false, false, false, false, false, false, false, false, false, false, false, false, false, false, false, false, false, false] (by kernel_rfl) rfl rfl ⟨hx238_0, hx239_0, hx240_0, hx241_0, hx242_0, hx243_0⟩ (fun hHeld => ?_); refine with_tabW agoraref03_next.tab10 agoraref03_next.bits10 (fun HT_ HW_ => ?_)
                                generalize w34.drew = w35 at HO_5 HO_6 HO_7 HB hx238_0 hx239_0 hx240_0 hx241_0 hx242_0 hx243_0 hHeld ⊢
                                refine pure_ (i := 0) (N := some 84) (v := ?_) (a' := ?_) #[true, false, false, false, false, false, false, false, false, false, false, false, false, false, false, false, false, false, false, false, false, false, false, false, false, false] rfl rfl (any_of HT_.out (by kernel_rfl)) (fun _ _ _ h => h) (Or.inl ⟨by rfl, ?_⟩) ?_ ?_
                                rotate_left
                                · intro w'
                                  go_simp
                                  with_reducible rfl
                                rotate_left
                                · simp only [Act.put, List.setIfInBounds_toArray, List.set_cons_zero, List.set_cons_succ, i64_w, i32_w]
                                  rfl
                                refine pure_ (i := 1) (N := some 85) (v := ?_) (a' := ?_) #[true, true, false, false, false, false, false, false, false, false, false, false, false, false, false, false, false, false, false, false, false, false, false, false, false, false] rfl rfl (any_of HT_.out (by kernel_rfl)) (fun _ _ _ h => h) (Or.inl ⟨by rfl, ?_⟩) ?_ ?_
                                rotate_left
                                · intro w'
                                  go_simp
                                  with_reducible rfl
                                rotate_left
                                · simp only [Act.put, List.setIfInBounds_toArray, List.set_cons_zero, List.set_cons_succ, i64_w, i32_w]
                                  rfl
                                refine pure_ (i := 2) (N := some 86) (v := ?_) (a' := ?_) #[true, true, true, false, false, false, false, false, false, false, false, false, false, false, false, false, false, false, false, false, false, false, false, false, false, false] rfl rfl (any_of HT_.out (by kernel_rfl)) (fun _ _ _ h => h) (Or.inl ⟨by rfl, ?_⟩) ?_ ?_
                                rotate_left
                                · intro w'
                                  go_simp
                                  with_reducible rfl
                                rotate_left
                                · simp only [Act.put, List.setIfInBounds_toArray, List.set_cons_zero, List.set_cons_succ, i64_w, i32_w]
                                  rfl
                                refine pure_ (i := 4) (N := some 88) (v := ?_) (a' := ?_) #[true, true, true, false, true, false, false, false, false, false, false, false, false, false, false, false, false, false, false, false, false, false, false, false, false, false] rfl rfl (any_of HT_.out (by kernel_rfl)) (fun _ _ _ h => h) (Or.inl ⟨by rfl, ?_⟩) ?_ ?_
                                rotate_left
                                · intro w'
                                  go_simp
                                  with_reducible rfl
                                rotate_left
                                · simp only [Act.put, List.setIfInBounds_toArray, List.set_cons_zero, List.set_cons_succ, i64_w, i32_w]
                                  rfl
                                refine pure_ (i := 5) (N := some 89) (v := ?_) (a' := ?_) #[true, true, true, false, true, true, false, false, false, false, false, false, false, false, false, false, false, false, false, false, false, false, false, false, false, false] rfl rfl (any_of HT_.out (by kernel_rfl)) (fun _ _ _ h => h) (Or.inl ⟨by rfl, ?_⟩) ?_ ?_
                                rotate_left
                                · intro w'
                                  go_simp
                                  with_reducible rfl
                                rotate_left
                                · simp only [Act.put, List.setIfInBounds_toArray, List.set_cons_zero, List.set_cons_succ, i64_w, i32_w]
                                  rfl
                                refine pure_ (i := 8) (N := some 92) (v := ?_) (a' := ?_) #[true, true, true, false, true, true, false, false, true, false, false, false, false, false, false, false, false, false, false, false, false, false, false, false, false, false] rfl rfl (any_of HT_.out (by kernel_rfl)) (fun _ _ _ h => h) (Or.inl ⟨by rfl, ?_⟩) ?_ ?_
                                rotate_left
                                · intro w'
                                  go_simp
                                  with_reducible rfl
                                rotate_left
                                · simp only [Act.put, List.setIfInBounds_toArray, List.set_cons_zero, List.set_cons_succ, i64_w, i32_w]
                                  rfl
                                refine pure_ (i := 9) (N := some 93) (v := ?_) (a' := ?_) #[true, true, true, false, true, true, false, false, true, true, false, false, false, false, false, false, false, false, false, false, false, false, false, false, false, false] rfl rfl (any_of HT_.out (by kernel_rfl)) (fun _ _ _ h => h) (Or.inl ⟨by rfl, ?_⟩) ?_ ?_
                                rotate_left
                                · intro w'
                                  go_simp
                                  with_reducible rfl
                                rotate_left
                                · simp only [Act.put, List.setIfInBounds_toArray, List.set_cons_zero, List.set_cons_succ, i64_w, i32_w]
                                  rfl
                                refine pure_ (i := 11) (N := some 95) (v := ?_) (a' := ?_) #[true, true, true, false, true, true, false, false, true, true, false, true, false, false, false, false, false, false, false, false, false, false, false, false, false, false] rfl rfl (any_of HT_.out (by kernel_rfl)) (fun _ _ _ h => h) (Or.inl ⟨by rfl, ?_⟩) ?_ ?_
                                rotate_left
                                · intro w'
                                  go_simp
                                  with_reducible rfl
                                rotate_left
                                · simp only [Act.put, List.setIfInBounds_toArray, List.set_cons_zero, List.set_cons_succ, i64_w, i32_w]
                                  rfl
                                refine pure_ (i := 12) (N := some 96) (v := ?_) (a' := ?_) #[true, true, true, false, true, true, false, false, true, true, false, true, true, false, false, false, false, false, false, false, false, false, false, false, false, false] rfl rfl (any_of HT_.out (by kernel_rfl)) (fun _ _ _ h => h) (Or.inl ⟨by rfl, ?_⟩) ?_ ?_
                                rotate_left
                                · intro w'
                                  go_simp
                                  with_reducible rfl
                                rotate_left
                                · simp only [Act.put, List.setIfInBounds_toArray, List.set_cons_zero, List.set_cons_succ, i64_w, i32_w]
                                  rfl
                                refine pure_ (i := 16) (N := some 100) (v := ?_) (a' := ?_) #[true, true, true, false, true, true, false, false, true, true, false, true, true, false, false, false, true, false, false, false, false, false, false, false, false, false] rfl rfl (any_of HT_.out (by kernel_rfl)) (fun _ _ _ h => h) (Or.inl ⟨by rfl, ?_⟩) ?_ ?_
                                rotate_left
                                · intro w'
                                  go_simp
                                  with_reducible rfl
                                rotate_left
                                · simp only [Act.put, List.setIfInBounds_toArray, List.set_cons_zero, List.set_cons_succ, i64_w, i32_w]
                                  rfl
                                refine pure_ (i := 17) (N := some 101) (v := ?_) (a' := ?_) #[true, true, true, false, true, true, false, false, true, true, false, true, true, false, false, false, true, true, false, false, false, false, false, false, false, false] rfl rfl (any_of HT_.out (by kernel_rfl)) (fun _ _ _ h => h) (Or.inl ⟨by rfl, ?_⟩) ?_ ?_
                                rotate_left
                                · intro w'
                                  go_simp
                                  with_reducible rfl
                                rotate_left
                                · simp only [Act.put, List.setIfInBounds_toArray, List.set_cons_zero, List.set_cons_succ, i64_w, i32_w]
                                  rfl
                                refine pure_ (i := 19) (N := some 103) (v := ?_) (a' := ?_) #[true, true, true, false, true, true, false, false, true, true, false, true, true, false, false, false, true, true, false, true, false, false, false, false, false, false] rfl rfl (any_of HT_.out (by kernel_rfl)) (fun _ _ _ h => h) (Or.inl ⟨by rfl, ?_⟩) ?_ ?_
                                rotate_left
                                · intro w'
                                  go_simp
                                  with_reducible rfl
                                rotate_left
                                · simp only [Act.put, List.setIfInBounds_toArray, List.set_cons_zero, List.set_cons_succ, i64_w, i32_w]
                                  rfl
                                refine pure_ (i := 20) (N := some 104) (v := ?_) (a' := ?_) #[true, true, true, false, true, true, false, false, true, true, false, true, true, false, false, false, true, true, false, true, true, false, false, false, false, false] rfl rfl (any_of HT_.out (by kernel_rfl)) (fun _ _ _ h => h) (Or.inl ⟨by rfl, ?_⟩) ?_ ?_
                                rotate_left
                                · intro w'
                                  go_simp
                                  with_reducible rfl
                                rotate_left
                                · simp only [Act.put, List.setIfInBounds_toArray, List.set_cons_zero, List.set_cons_succ, i64_w, i32_w]
                                  rfl
                                refine take_ (i := 3) (N := some 87) (v := ?_) (a' := ?_) #[true, true, true, true, true, true, false, false, true, true, false, true, true, false, false, false, true, true, false, true, true, false, false, false, false, false] rfl rfl (take_ofW HT_.out HW_.out (by kernel_rfl)) (fun _ _ _ h => h) (Or.inl ⟨by rfl, ?_⟩) hHeld ?_ ?_
                                rotate_left
                                · rintro w' ⟨s0, s1, s2, s3, s4, s5⟩
                                  go_simp
                                  with_reducible rfl
                                rotate_left
                                · simp only [Act.put, List.setIfInBounds_toArray, List.set_cons_zero, List.set_cons_succ, i64_w, i32_w]
                                  rfl
                                refine take_ (i := 6) (N := some 90) (v := ?_) (a' := ?_) #[true, true, true, true, true, true, true, false, true, true, false, true, true, false, false, false, true, true, false, true, true, false, false, false, false, false] rfl rfl (take_ofW HT_.out HW_.out (by kernel_rfl)) (fun _ _ _ h => h) (Or.inl ⟨by rfl, ?_⟩) hHeld ?_ ?_
                                rotate_left
                                · rintro w' ⟨s0, s1, s2, s3, s4, s5⟩
                                  go_simp
                                  with_reducible rfl
                                rotate_left
                                · simp only [Act.put, List.setIfInBounds_toArray, List.set_cons_zero, List.set_cons_succ, i64_w, i32_w]
                                  rfl
                                refine pure_ (i := 7) (N := some 91) (v := ?_) (a' := ?_) #[true, true, true, true, true, true, true, true, true, true, false, true, true, false, false, false, true, true, false, true, true, false, false, false, false, false] rfl rfl (any_of HT_.out (by kernel_rfl)) (fun _ _ _ h => h) (Or.inl ⟨by rfl, ?_⟩) ?_ ?_
                                rotate_left
                                · intro w'
                                  go_simp
                                  with_reducible rfl
                                rotate_left
                                · simp only [Act.put, List.setIfInBounds_toArray, List.set_cons_zero, List.set_cons_succ, i64_w, i32_w]
                                  rfl
                                refine take_ (i := 10) (N := some 94) (v := ?_) (a' := ?_) #[true, true, true, true, true, true, true, true, true, true, true, true, true, false, false, false, true, true, false, true, true, false, false, false, false, false] rfl rfl (take_ofW HT_.out HW_.out (by kernel_rfl)) (fun _ _ _ h => h) (Or.inl ⟨by rfl, ?_⟩) hHeld ?_ ?_
                                rotate_left
                                · rintro w' ⟨s0, s1, s2, s3, s4, s5⟩
                                  go_simp
                                  with_reducible rfl
                                rotate_left
                                · simp only [Act.put, List.setIfInBounds_toArray, List.set_cons_zero, List.set_cons_succ, i64_w, i32_w]
                                  rfl
                                refine take_ (i := 13) (N := some 97) (v := ?_) (a' := ?_) #[true, true, true, true, true, true, true, true, true, true, true, true, true, true, false, false, true, true, false, true, true, false, false, false, false, false] rfl rfl (take_ofW HT_.out HW_.out (by kernel_rfl)) (fun _ _ _ h => h) (Or.inl ⟨by rfl, ?_⟩) hHeld ?_ ?_
                                rotate_left
                                · rintro w' ⟨s0, s1, s2, s3, s4, s5⟩
                                  go_simp
                                  with_reducible rfl
                                rotate_left
                                · simp only [Act.put, List.setIfInBounds_toArray, List.set_cons_zero, List.set_cons_succ, i64_w, i32_w]
                                  rfl
                                refine pure_ (i := 14) (N := some 98) (v := ?_) (a' := ?_) #[true, true, true, true, true, true, true, true, true, true, true, true, true, true, true, false, true, true, false, true, true, false, false, false, false, false] rfl rfl (any_of HT_.out (by kernel_rfl)) (fun _ _ _ h => h) (Or.inl ⟨by rfl, ?_⟩) ?_ ?_
                                rotate_left
                                · intro w'
                                  go_simp
                                  with_reducible rfl
                                rotate_left
                                · simp only [Act.put, List.setIfInBounds_toArray, List.set_cons_zero, List.set_cons_succ, i64_w, i32_w]
                                  rfl
                                refine pure_ (i := 15) (N := some 99) (v := ?_) (a' := ?_) #[true, true, true, true, true, true, true, true, true, true, true, true, true, true, true, true, true, true, false, true, true, false, false, false, false, false] rfl rfl (any_of HT_.out (by kernel_rfl)) (fun _ _ _ h => h) (Or.inl ⟨by rfl, ?_⟩) ?_ ?_
                                rotate_left
                                · intro w'
                                  go_simp
                                  with_reducible rfl
                                rotate_left
                                · simp only [Act.put, List.setIfInBounds_toArray, List.set_cons_zero, List.set_cons_succ, i64_w, i32_w]
                                  rfl
                                refine take_ (i := 18) (N := some 102) (v := ?_) (a' := ?_) #[true, true, true, true, true, true, true, true, true, true, true, true, true, true, true, true, true, true, true, true, true, false, false, false, false, false] rfl rfl (take_ofW HT_.out HW_.out (by kernel_rfl)) (fun _ _ _ h => h) (Or.inl ⟨by rfl, ?_⟩) hHeld ?_ ?_
                                rotate_left
                                · rintro w' ⟨s0, s1, s2, s3, s4, s5⟩
                                  go_simp
                                  with_reducible rfl
                                rotate_left
                                · simp only [Act.put, List.setIfInBounds_toArray, List.set_cons_zero, List.set_cons_succ, i64_w, i32_w]
                                  rfl
                                refine take_ (i := 21) (N := some 105) (v := ?_) (a' := ?_) #[true, true, true, true, true, true, true, true, true, true, true, true, true, true, true, true, true, true, true, true, true, true, false, false, false, false] rfl rfl (take_ofW HT_.out HW_.out (by kernel_rfl)) (fun _ _ _ h => h) (Or.inl ⟨by rfl, ?_⟩) hHeld ?_ ?_
                                rotate_left
                                · rintro w' ⟨s0, s1, s2, s3, s4, s5⟩
                                  go_simp
                                  with_reducible rfl
                                rotate_left
                                · simp only [Act.put, List.setIfInBounds_toArray, List.set_cons_zero, List.set_cons_succ, i64_w, i32_w]
                                  rfl
                                refine pure_ (i := 22) (N := some 106) (v := ?_) (a' := ?_) #[true, true, true, true, true, true, true, true, true, true, true, true, true, true, true, true, true, true, true, true, true, true, true, false, false, false] rfl rfl (any_of HT_.out (by kernel_rfl)) (fun _ _ _ h => h) (Or.inl ⟨by rfl, ?_⟩) ?_ ?_
                                rotate_left
                                · intro w'
                                  go_simp
                                  with_reducible rfl
                                rotate_left
                                · simp only [Act.put, List.setIfInBounds_toArray, List.set_cons_zero, List.set_cons_succ, i64_w, i32_w]
                                  rfl
                                refine pure_ (i := 23) (N := some 107) (v := ?_) (a' := ?_) #[true, true, true, true, true, true, true, true, true, true, true, true, true, true, true, true, true, true, true, true, true, true, true, true, false, false] rfl rfl (any_of HT_.out (by kernel_rfl)) (fun _ _ _ h => h) (Or.inl ⟨by rfl, ?_⟩) ?_ ?_
                                rotate_left
                                · intro w'
                                  go_simp
                                  with_reducible rfl
                                rotate_left
                                · simp only [Act.put, List.setIfInBounds_toArray, List.set_cons_zero, List.set_cons_succ, i64_w, i32_w]
                                  rfl
                                refine pure_ (i := 24) (N := some 108) (v := ?_) (a' := ?_) #[true, true, true, true, true, true, true, true, true, true, true, true, true, true, true, true, true, true, true, true, true, true, true, true, true, false] rfl rfl (any_of HT_.out (by kernel_rfl)) (fun _ _ _ h => h) (Or.inl ⟨by rfl, ?_⟩) ?_ ?_
                                rotate_left
                                · intro w'
                                  go_simp
                                  with_reducible rfl
                                rotate_left
                                · simp only [Act.put, List.setIfInBounds_toArray, List.set_cons_zero, List.set_cons_succ, i64_w, i32_w]
                                  rfl
                                refine pure_ (i := 25) (N := some 12) (v := ?_) (a' := ?_) #[true, true, true, true, true, true, true, true, true, true, true, true, true, true, true, true, true, true, true, true, true, true, true, true, true, true] rfl rfl (any_of HT_.out (by kernel_rfl)) (fun _ _ _ h => h) (Or.inl ⟨by rfl, ?_⟩) ?_ ?_
                                rotate_left
                                · intro w'
                                  go_simp
                                  with_reducible rfl
                                rotate_left
                                · simp only [Act.put, List.setIfInBounds_toArray, List.set_cons_zero, List.set_cons_succ, i64_w, i32_w]
                                  rfl
                                refine done_ (done_of HT_.out (by kernel_rfl)) ?_
                                try go_wp2
                                have n0_ := Aside0.mk (Kd.R_drew HO_5.out)
                                have n1_ := Aside0.mk (Kd.R_drew HO_6.out)
                                have n2_ := Aside0.mk (Kd.R_drew HO_7.out)
                                have n3_ := Aside0.mk (below_drew1 HB.out)
                                clear HO_5
                                clear HO_6
                                clear HO_7
                                clear HB
                                have HO_5 := n0_
                                have HO_6 := n1_
                                have HO_7 := n2_
                                have HB := n3_
                                clear n0_ n1_ n2_ n3_
                                have p244 : 0 ≤ (0 : Int) := (by omega)
                                have q244 : 0 < (x7_1.length : Int) := of_decide_eq_true (by first | (with_reducible assumption) | assumption)
                                obtain ⟨ad244, e244, hx244_0⟩ := Kd.at_int (Kd.R_reads' HO_7.out).2.2 0 p244 q244
                                obtain rfl : ad219 = ad244 := (by injection e244)
                                have qi244 : (0 < x7_1.length) = True := eq_true (by omega)
                                (try rw [show ((0 : Int)).toNat = 0 from rfl] at hx244_0)
                                (try rw [Addr.add_zero'] at hx244_0)
                                replace p244 := eq_true p244
                                replace q244 := eq_true q244
                                have p245 : 0 ≤ (1 : Int) := (by omega)
                                have q245 : 1 < (x7_1.length : Int) := of_decide_eq_true (by first | (with_reducible assumption) | assumption)
                                obtain ⟨ad245, e245, hx245_0⟩ := Kd.at_int (Kd.R_reads' HO_7.out).2.2 1 p245 q245
                                obtain rfl : ad219 = ad245 := (by injection e245)
                                (try simp only [show (1 : Int).toNat = 1 from rfl, Nat.reduceMul, Nat.reduceEqDiff, Go.Addr.add, ↓reduceIte] at hx245_0)
                                have qi245 : (1 < x7_1.length) = True := eq_true (by omega)
                                (try rw [show ((1 : Int)).toNat = 1 from rfl] at hx245_0)
                                replace p245 := eq_true p245
                                replace q245 := eq_true q245
                                have p246 : 0 ≤ (2 : Int) := (by omega)
                                have q246 : 2 < (x7_1.length : Int) := of_decide_eq_true (by first | (with_reducible assumption) | assumption)
                                obtain ⟨ad246, e246, hx246_0⟩ := Kd.at_int (Kd.R_reads' HO_7.out).2.2 2 p246 q246
                                obtain rfl : ad219 = ad246 := (by injection e246)
                                (try simp only [show (2 : Int).toNat = 2 from rfl, Nat.reduceMul, Nat.reduceEqDiff, Go.Addr.add, ↓reduceIte] at hx246_0)
                                have qi246 : (2 < x7_1.length) = True := eq_true (by omega)
                                (try rw [show ((2 : Int)).toNat = 2 from rfl] at hx246_0)
                                replace p246 := eq_true p246
                                replace q246 := eq_true q246
                                have p247 : 0 ≤ (3 : Int) := (by omega)
                                have q247 : 3 < (x7_1.length : Int) := of_decide_eq_true (by first | (with_reducible assumption) | assumption)
                                obtain ⟨ad247, e247, hx247_0⟩ := Kd.at_int (Kd.R_reads' HO_7.out).2.2 3 p247 q247
                                obtain rfl : ad219 = ad247 := (by injection e247)
                                (try simp only [show (3 : Int).toNat = 3 from rfl, Nat.reduceMul, Nat.reduceEqDiff, Go.Addr.add, ↓reduceIte] at hx247_0)
                                have qi247 : (3 < x7_1.length) = True := eq_true (by omega)
                                (try rw [show ((3 : Int)).toNat = 3 from rfl] at hx247_0)
                                replace p247 := eq_true p247
                                replace q247 := eq_true q247
                                have p248 : 0 ≤ (4 : Int) := (by omega)
                                have q248 : 4 < (x7_1.length : Int) := of_decide_eq_true (by first | (with_reducible assumption) | assumption)
                                obtain ⟨ad248, e248, hx248_0⟩ := Kd.at_int (Kd.R_reads' HO_7.out).2.2 4 p248 q248
                                obtain rfl : ad219 = ad248 := (by injection e248)
                                (try simp only [show (4 : Int).toNat = 4 from rfl, Nat.reduceMul, Nat.reduceEqDiff, Go.Addr.add, ↓reduceIte] at hx248_0)
                                have qi248 : (4 < x7_1.length) = True := eq_true (by omega)
                                (try rw [show ((4 : Int)).toNat = 4 from rfl] at hx248_0)
                                replace p248 := eq_true p248
                                replace q248 := eq_true q248
                                have p249 : 0 ≤ (5 : Int) := (by omega)
                                have q249 : 5 < (x7_1.length : Int) := of_decide_eq_true (by first | (with_reducible assumption) | assumption)
                                obtain ⟨ad249, e249, hx249_0⟩ := Kd.at_int (Kd.R_reads' HO_7.out).2.2 5 p249 q249
                                obtain rfl : ad219 = ad249 := (by injection e249)
                                (try simp only [show (5 : Int).toNat = 5 from rfl, Nat.reduceMul, Nat.reduceEqDiff, Go.Addr.add, ↓reduceIte] at hx249_0)
                                have qi249 : (5 < x7_1.length) = True := eq_true (by omega)
                                (try rw [show ((5 : Int)).toNat = 5 from rfl] at hx249_0)
                                replace p249 := eq_true p249
                                replace q249 := eq_true q249
                                have p250 : 0 ≤ (6 : Int) := (by omega)
                                have q250 : 6 < (x7_1.length : Int) := of_decide_eq_true (by first | (with_reducible assumption) | assumption)
                                obtain ⟨ad250, e250, hx250_0⟩ := Kd.at_int (Kd.R_reads' HO_7.out).2.2 6 p250 q250
                                obtain rfl : ad219 = ad250 := (by injection e250)
                                (try simp only [show (6 : Int).toNat = 6 from rfl, Nat.reduceMul, Nat.reduceEqDiff, Go.Addr.add, ↓reduceIte] at hx250_0)
                                have qi250 : (6 < x7_1.length) = True := eq_true (by omega)
                                (try rw [show ((6 : Int)).toNat = 6 from rfl] at hx250_0)
                                replace p250 := eq_true p250
                                replace q250 := eq_true q250
                                refine start_ (n := 28) (S := fun w' => w'.cell? ad219 = some (.int .u32 (rd x7_1 0)) ∧ w'.cell? ⟨ad219.block, ad219.off + 1, none⟩ = some (.int .u32 (rd x7_1 1)) ∧ w'.cell? ⟨ad219.block, ad219.off + 2, none⟩ = some (.int .u32 (rd x7_1 2)) ∧ w'.cell? ⟨ad219.block, ad219.off + 3, none⟩ = some (.int .u32 (rd x7_1 3)) ∧ w'.cell? ⟨ad219.block, ad219.off + 4, none⟩ = some (.int .u32 (rd x7_1 4)) ∧ w'.cell? ⟨ad219.block, ad219.off + 5, none⟩ = some (.int .u32 (rd x7_1 5)) ∧ w'.cell? ⟨ad219.block, ad219.off + 6, none⟩ = some (.int .u32 (rd x7_1 6))) (ds := []) #[false, false, false, false, false, false, false, false, false, false, false, false, false, false, false, false, false, false, false, false, false, false, false, false, false, false, false, false] (by kernel_rfl) rfl rfl ⟨hx244_0, hx245_0, hx246_0, hx247_0, hx248_0, hx249_0, hx250_0⟩ (fun hHeld => ?_); refine with_tabW agoraref03_next.tab11 agoraref03_next.bits11 (fun HT_ HW_ => ?_)
                                generalize w35.drew = w36 at HO_5 HO_6 HO_7 HB hx244_0 hx245_0 hx246_0 hx247_0 hx248_0 hx249_0 hx250_0 hHeld ⊢
                                refine pure_ (i := 0) (N := some 109) (v := ?_) (a' := ?_) #[true, false, false, false, false, false, false, false, false, false, false, false, false, false, false, false, false, false, false, false, false, false, false, false, false, false, false, false] rfl rfl (any_of HT_.out (by kernel_rfl)) (fun _ _ _ h => h) (Or.inl ⟨by rfl, ?_⟩) ?_ ?_
                                rotate_left
                                · intro w'
                                  go_simp
                                  with_reducible rfl
                                rotate_left
                                · simp only [Act.put, List.setIfInBounds_toArray, List.set_cons_zero, List.set_cons_succ, i64_w, i32_w]
                                  rfl
                                refine pure_ (i := 1) (N := some 110) (v := ?_) (a' := ?_) #[true, true, false, false, false, false, false, false, false, false, false, false, false, false, false, false, false, false, false, false, false, false, false, false, false, false, false, false] rfl rfl (any_of HT_.out (by kernel_rfl)) (fun _ _ _ h => h) (Or.inl ⟨by rfl, ?_⟩) ?_ ?_
                                rotate_left
                                · intro w'
                                  go_simp
                                  with_reducible rfl
                                rotate_left
                                · simp only [Act.put, List.setIfInBounds_toArray, List.set_cons_zero, List.set_cons_succ, i64_w, i32_w]
                                  rfl
                                refine pure_ (i := 2) (N := some 111) (v := ?_) (a' := ?_) #[true, true, true, false, false, false, false, false, false, false, false, false, false, false, false, false, false, false, false, false, false, false, false, false, false, false, false, false] rfl rfl (any_of HT_.out (by kernel_rfl)) (fun _ _ _ h => h) (Or.inl ⟨by rfl, ?_⟩) ?_ ?_
                                rotate_left
                                · intro w'
                                  go_simp
                                  with_reducible rfl
                                rotate_left
                                · simp only [Act.put, List.setIfInBounds_toArray, List.set_cons_zero, List.set_cons_succ, i64_w, i32_w]
                                  rfl
                                refine pure_ (i := 3) (N := some 112) (v := ?_) (a' := ?_) #[true, true, true, true, false, false, false, false, false, false, false, false, false, false, false, false, false, false, false, false, false, false, false, false, false, false, false, false] rfl rfl (any_of HT_.out (by kernel_rfl)) (fun _ _ _ h => h) (Or.inl ⟨by rfl, ?_⟩) ?_ ?_
                                rotate_left
                                · intro w'
                                  go_simp
                                  with_reducible rfl
                                rotate_left
                                · simp only [Act.put, List.setIfInBounds_toArray, List.set_cons_zero, List.set_cons_succ, i64_w, i32_w]
                                  rfl
                                refine pure_ (i := 4) (N := some 113) (v := ?_) (a' := ?_) #[true, true, true, true, true, false, false, false, false, false, false, false, false, false, false, false, false, false, false, false, false, false, false, false, false, false, false, false] rfl rfl (any_of HT_.out (by kernel_rfl)) (fun _ _ _ h => h) (Or.inl ⟨by rfl, ?_⟩) ?_ ?_
                                rotate_left
                                · intro w'
                                  go_simp
                                  with_reducible rfl
                                rotate_left
                                · simp only [Act.put, List.setIfInBounds_toArray, List.set_cons_zero, List.set_cons_succ, i64_w, i32_w]
                                  rfl
                                refine pure_ (i := 6) (N := some 115) (v := ?_) (a' := ?_) #[true, true, true, true, true, false, true, false, false, false, false, false, false, false, false, false, false, false, false, false, false, false, false, false, false, false, false, false] rfl rfl (any_of HT_.out (by kernel_rfl)) (fun _ _ _ h => h) (Or.inl ⟨by rfl, ?_⟩) ?_ ?_
                                rotate_left
                                · intro w'
                                  go_simp
                                  with_reducible rfl
                                rotate_left
                                · simp only [Act.put, List.setIfInBounds_toArray, List.set_cons_zero, List.set_cons_succ, i64_w, i32_w]
                                  rfl
                                refine pure_ (i := 7) (N := some 116) (v := ?_) (a' := ?_) #[true, true, true, true, true, false, true, true, false, false, false, false, false, false, false, false, false, false, false, false, false, false, false, false, false, false, false, false] rfl rfl (any_of HT_.out (by kernel_rfl)) (fun _ _ _ h => h) (Or.inl ⟨by rfl, ?_⟩) ?_ ?_
                                rotate_left
                                · intro w'
                                  go_simp
                                  with_reducible rfl
                                rotate_left
                                · simp only [Act.put, List.setIfInBounds_toArray, List.set_cons_zero, List.set_cons_succ, i64_w, i32_w]
                                  rfl
                                refine pure_ (i := 9) (N := some 118) (v := ?_) (a' := ?_) #[true, true, true, true, true, false, true, true, false, true, false, false, false, false, false, false, false, false, false, false, false, false, false, false, false, false, false, false] rfl rfl (any_of HT_.out (by kernel_rfl)) (fun _ _ _ h => h) (Or.inl ⟨by rfl, ?_⟩) ?_ ?_
                                rotate_left
                                · intro w'
                                  go_simp
                                  with_reducible rfl
                                rotate_left
                                · simp only [Act.put, List.setIfInBounds_toArray, List.set_cons_zero, List.set_cons_succ, i64_w, i32_w]
                                  rfl
                                refine pure_ (i := 10) (N := some 119) (v := ?_) (a' := ?_) #[true, true, true, true, true, false, true, true, false, true, true, false, false, false, false, false, false, false, false, false, false, false, false, false, false, false, false, false] rfl rfl (any_of HT_.out (by kernel_rfl)) (fun _ _ _ h => h) (Or.inl ⟨by rfl, ?_⟩) ?_ ?_
                                rotate_left
                                · intro w'
                                  go_simp
                                  with_reducible rfl
                                rotate_left
                                · simp only [Act.put, List.setIfInBounds_toArray, List.set_cons_zero, List.set_cons_succ, i64_w, i32_w]
                                  rfl
                                refine pure_ (i := 12) (N := some 121) (v := ?_) (a' := ?_) #[true, true, true, true, true, false, true, true, false, true, true, false, true, false, false, false, false, false, false, false, false, false, false, false, false, false, false, false] rfl rfl (any_of HT_.out (by kernel_rfl)) (fun _ _ _ h => h) (Or.inl ⟨by rfl, ?_⟩) ?_ ?_
                                rotate_left
                                · intro w'
                                  go_simp
                                  with_reducible rfl
                                rotate_left
                                · simp only [Act.put, List.setIfInBounds_toArray, List.set_cons_zero, List.set_cons_succ, i64_w, i32_w]
                                  rfl
                                refine pure_ (i := 13) (N := some 122) (v := ?_) (a' := ?_) #[true, true, true, true, true, false, true, true, false, true, true, false, true, true, false, false, false, false, false, false, false, false, false, false, false, false, false, false] rfl rfl (any_of HT_.out (by kernel_rfl)) (fun _ _ _ h => h) (Or.inl ⟨by rfl, ?_⟩) ?_ ?_
                                rotate_left
                                · intro w'
                                  go_simp
                                  with_reducible rfl
                                rotate_left
                                · simp only [Act.put, List.setIfInBounds_toArray, List.set_cons_zero, List.set_cons_succ, i64_w, i32_w]
                                  rfl
                                refine pure_ (i := 15) (N := some 124) (v := ?_) (a' := ?_) #[true, true, true, true, true, false, true, true, false, true, true, false, true, true, false, true, false, false, false, false, false, false, false, false, false, false, false, false] rfl rfl (any_of HT_.out (by kernel_rfl)) (fun _ _ _ h => h) (Or.inl ⟨by rfl, ?_⟩) ?_ ?_
                                rotate_left
                                · intro w'
                                  go_simp
                                  with_reducible rfl
                                rotate_left
                                · simp only [Act.put, List.setIfInBounds_toArray, List.set_cons_zero, List.set_cons_succ, i64_w, i32_w]
                                  rfl
                                refine pure_ (i := 17) (N := some 126) (v := ?_) (a' := ?_) #[true, true, true, true, true, false, true, true, false, true, true, false, true, true, false, true, false, true, false, false, false, false, false, false, false, false, false, false] rfl rfl (any_of HT_.out (by kernel_rfl)) (fun _ _ _ h => h) (Or.inl ⟨by rfl, ?_⟩) ?_ ?_
                                rotate_left
                                · intro w'
                                  go_simp
                                  with_reducible rfl
                                rotate_left
                                · simp only [Act.put, List.setIfInBounds_toArray, List.set_cons_zero, List.set_cons_succ, i64_w, i32_w]
                                  rfl
                                refine pure_ (i := 18) (N := some 127) (v := ?_) (a' := ?_) #[true, true, true, true, true, false, true, true, false, true, true, false, true, true, false, true, false, true, true, false, false, false, false, false, false, false, false, false] rfl rfl (any_of HT_.out (by kernel_rfl)) (fun _ _ _ h => h) (Or.inl ⟨by rfl, ?_⟩) ?_ ?_
                                rotate_left
                                · intro w'
                                  go_simp
                                  with_reducible rfl
                                rotate_left
                                · simp only [Act.put, List.setIfInBounds_toArray, List.set_cons_zero, List.set_cons_succ, i64_w, i32_w]
                                  rfl
                                refine pure_ (i := 20) (N := some 129) (v := ?_) (a' := ?_) #[true, true, true, true, true, false, true, true, false, true, true, false, true, true, false, true, false, true, true, false, true, false, false, false, false, false, false, false] rfl rfl (any_of HT_.out (by kernel_rfl)) (fun _ _ _ h => h) (Or.inl ⟨by rfl, ?_⟩) ?_ ?_
                                rotate_left
                                · intro w'
                                  go_simp
                                  with_reducible rfl
                                rotate_left
                                · simp only [Act.put, List.setIfInBounds_toArray, List.set_cons_zero, List.set_cons_succ, i64_w, i32_w]
                                  rfl
                                refine pure_ (i := 21) (N := some 130) (v := ?_) (a' := ?_) #[true, true, true, true, true, false, true, true, false, true, true, false, true, true, false, true, false, true, true, false, true, true, false, false, false, false, false, false] rfl rfl (any_of HT_.out (by kernel_rfl)) (fun _ _ _ h => h) (Or.inl ⟨by rfl, ?_⟩) ?_ ?_
                                rotate_left
                                · intro w'
                                  go_simp
                                  with_reducible rfl
                                rotate_left
                                · simp only [Act.put, List.setIfInBounds_toArray, List.set_cons_zero, List.set_cons_succ, i64_w, i32_w]
                                  rfl
                                refine pure_ (i := 23) (N := some 132) (v := ?_) (a' := ?_) #[true, true, true, true, true, false, true, true, false, true, true, false, true, true, false, true, false, true, true, false, true, true, false, true, false, false, false, false] rfl rfl (any_of HT_.out (by kernel_rfl)) (fun _ _ _ h => h) (Or.inl ⟨by rfl, ?_⟩) ?_ ?_
                                rotate_left
                                · intro w'
                                  go_simp
                                  with_reducible rfl
                                rotate_left
                                · simp only [Act.put, List.setIfInBounds_toArray, List.set_cons_zero, List.set_cons_succ, i64_w, i32_w]
                                  rfl
                                refine pure_ (i := 24) (N := some 133) (v := ?_) (a' := ?_) #[true, true, true, true, true, false, true, true, false, true, true, false, true, true, false, true, false, true, true, false, true, true, false, true, true, false, false, false] rfl rfl (any_of HT_.out (by kernel_rfl)) (fun _ _ _ h => h) (Or.inl ⟨by rfl, ?_⟩) ?_ ?_
                                rotate_left
                                · intro w'
                                  go_simp
                                  with_reducible rfl
                                rotate_left
                                · simp only [Act.put, List.setIfInBounds_toArray, List.set_cons_zero, List.set_cons_succ, i64_w, i32_w]
                                  rfl
                                refine take_ (i := 5) (N := some 114) (v := ?_) (a' := ?_) #[true, true, true, true, true, true, true, true, false, true, true, false, true, true, false, true, false, true, true, false, true, true, false, true, true, false, false, false] rfl rfl (take_ofW HT_.out HW_.out (by kernel_rfl)) (fun _ _ _ h => h) (Or.inl ⟨by rfl, ?_⟩) hHeld ?_ ?_
                                rotate_left
                                · rintro w' ⟨s0, s1, s2, s3, s4, s5, s6⟩
                                  go_simp
                                  with_reducible rfl
                                rotate_left
                                · simp only [Act.put, List.setIfInBounds_toArray, List.set_cons_zero, List.set_cons_succ, i64_w, i32_w]
                                  rfl
                                refine take_ (i := 8) (N := some 117) (v := ?_) (a' := ?_) #[true, true, true, true, true, true, true, true, true, true, true, false, true, true, false, true, false, true, true, false, true, true, false, true, true, false, false, false] rfl rfl (take_ofW HT_.out HW_.out (by kernel_rfl)) (fun _ _ _ h => h) (Or.inl ⟨by rfl, ?_⟩) hHeld ?_ ?_
                                rotate_left
                                · rintro w' ⟨s0, s1, s2, s3, s4, s5, s6⟩
                                  go_simp
                                  with_reducible rfl
                                rotate_left
                                · simp only [Act.put, List.setIfInBounds_toArray, List.set_cons_zero, List.set_cons_succ, i64_w, i32_w]
                                  rfl
                                refine take_ (i := 11) (N := some 120) (v := ?_) (a' := ?_) #[true, true, true, true, true, true, true, true, true, true, true, true, true, true, false, true, false, true, true, false, true, true, false, true, true, false, false, false] rfl rfl (take_ofW HT_.out HW_.out (by kernel_rfl)) (fun _ _ _ h => h) (Or.inl ⟨by rfl, ?_⟩) hHeld ?_ ?_
                                rotate_left
                                · rintro w' ⟨s0, s1, s2, s3, s4, s5, s6⟩
                                  go_simp
                                  with_reducible rfl
                                rotate_left
                                · simp only [Act.put, List.setIfInBounds_toArray, List.set_cons_zero, List.set_cons_succ, i64_w, i32_w]
                                  rfl
                                refine take_ (i := 14) (N := some 123) (v := ?_) (a' := ?_) #[true, true, true, true, true, true, true, true, true, true, true, true, true, true, true, true, false, true, true, false, true, true, false, true, true, false, false, false] rfl rfl (take_ofW HT_.out HW_.out (by kernel_rfl)) (fun _ _ _ h => h) (Or.inl ⟨by rfl, ?_⟩) hHeld ?_ ?_
                                rotate_left
                                · rintro w' ⟨s0, s1, s2, s3, s4, s5, s6⟩
                                  go_simp
                                  with_reducible rfl
                                rotate_left
                                · simp only [Act.put, List.setIfInBounds_toArray, List.set_cons_zero, List.set_cons_succ, i64_w, i32_w]
                                  rfl
                                refine pure_ (i := 16) (N := some 125) (v := ?_) (a' := ?_) #[true, true, true, true, true, true, true, true, true, true, true, true, true, true, true, true, true, true, true, false, true, true, false, true, true, false, false, false] rfl rfl (any_of HT_.out (by kernel_rfl)) (fun _ _ _ h => h) (Or.inl ⟨by rfl, ?_⟩) ?_ ?_
                                rotate_left
                                · intro w'
                                  go_simp
                                  with_reducible rfl
                                rotate_left
                                · simp only [Act.put, List.setIfInBounds_toArray, List.set_cons_zero, List.set_cons_succ, i64_w, i32_w]
                                  rfl
                                refine take_ (i := 19) (N := some 128) (v := ?_) (a' := ?_) #[true, true, true, true, true, true, true, true, true, true, true, true, true, true, true, true, true, true, true, true, true, true, false, true, true, false, false, false] rfl rfl (take_ofW HT_.out HW_.out (by kernel_rfl)) (fun _ _ _ h => h) (Or.inl ⟨by rfl, ?_⟩) hHeld ?_ ?_
                                rotate_left
                                · rintro w' ⟨s0, s1, s2, s3, s4, s5, s6⟩
                                  go_simp
                                  with_reducible rfl
                                rotate_left
                                · simp only [Act.put, List.setIfInBounds_toArray, List.set_cons_zero, List.set_cons_succ, i64_w, i32_w]
                                  rfl
                                refine take_ (i := 22) (N := some 131) (v := ?_) (a' := ?_) #[true, true, true, true, true, true, true, true, true, true, true, true, true, true, true, true, true, true, true, true, true, true, true, true, true, false, false, false] rfl rfl (take_ofW HT_.out HW_.out (by kernel_rfl)) (fun _ _ _ h => h) (Or.inl ⟨by rfl, ?_⟩) hHeld ?_ ?_
                                rotate_left
                                · rintro w' ⟨s0, s1, s2, s3, s4, s5, s6⟩
                                  go_simp
                                  with_reducible rfl
                                rotate_left
                                · simp only [Act.put, List.setIfInBounds_toArray, List.set_cons_zero, List.set_cons_succ, i64_w, i32_w]
                                  rfl
                                refine take_ (i := 25) (N := some 134) (v := ?_) (a' := ?_) #[true, true, true, true, true, true, true, true, true, true, true, true, true, true, true, true, true, true, true, true, true, true, true, true, true, true, false, false] rfl rfl (take_ofW HT_.out HW_.out (by kernel_rfl)) (fun _ _ _ h => h) (Or.inl ⟨by rfl, ?_⟩) hHeld ?_ ?_
                                rotate_left
                                · rintro w' ⟨s0, s1, s2, s3, s4, s5, s6⟩
                                  go_simp
                                  with_reducible rfl
                                rotate_left
                                · simp only [Act.put, List.setIfInBounds_toArray, List.set_cons_zero, List.set_cons_succ, i64_w, i32_w]
                                  rfl
                                refine one_ (i := 26) (N := some 135) #[true, true, true, true, true, true, true, true, true, true, true, true, true, true, true, true, true, true, true, true, true, true, true, true, true, true, true, false] rfl rfl (one_of HT_.out (by kernel_rfl)) (by decide) (fun K hK => ?_)
                                refine Kd.R_lit_step (Kd.int .u32) _ 54 ?hg (N := 135) ?hd (xs := ([((((((((((rd x7_1 7) + (Go.bits .xor .u32 (Go.bits .xor .u32 t220 t222) t224)) % 4294967296) + (Go.bits .xor .u32 (Go.bits .and .u32 (rd x7_1 4) (rd x7_1 5)) (Go.bits .and .u32 (Go.bits .xor .u32 IntKind.u32.max (rd x7_1 4)) (rd x7_1 6)))) % 4294967296) + (rd t210 x8_1)) % 4294967296) + (rd t207 x8_1)) % 4294967296) + (((Go.bits .xor .u32 (Go.bits .xor .u32 t233 t235) t237) + (Go.bits .xor .u32 (Go.bits .xor .u32 (Go.bits .and .u32 (rd x7_1 0) (rd x7_1 1)) (Go.bits .and .u32 (rd x7_1 0) (rd x7_1 2))) (Go.bits .and .u32 (rd x7_1 1) (rd x7_1 2)))) % 4294967296)) % 4294967296, rd x7_1 0, rd x7_1 1, rd x7_1 2, ((rd x7_1 3) + (((((((((rd x7_1 7) + (Go.bits .xor .u32 (Go.bits .xor .u32 t220 t222) t224)) % 4294967296) + (Go.bits .xor .u32 (Go.bits .and .u32 (rd x7_1 4) (rd x7_1 5)) (Go.bits .and .u32 (Go.bits .xor .u32 IntKind.u32.max (rd x7_1 4)) (rd x7_1 6)))) % 4294967296) + (rd t210 x8_1)) % 4294967296) + (rd t207 x8_1)) % 4294967296)) % 4294967296, rd x7_1 4, rd x7_1 5, rd x7_1 6] : List Int)) (inner := [.int .u32 (((((((((((rd x7_1 7) + (Go.bits .xor .u32 (Go.bits .xor .u32 t220 t222) t224)) % 4294967296) + (Go.bits .xor .u32 (Go.bits .and .u32 (rd x7_1 4) (rd x7_1 5)) (Go.bits .and .u32 (Go.bits .xor .u32 IntKind.u32.max (rd x7_1 4)) (rd x7_1 6)))) % 4294967296) + (rd t210 x8_1)) % 4294967296) + (rd t207 x8_1)) % 4294967296) + (((Go.bits .xor .u32 (Go.bits .xor .u32 t233 t235) t237) + (Go.bits .xor .u32 (Go.bits .xor .u32 (Go.bits .and .u32 (rd x7_1 0) (rd x7_1 1)) (Go.bits .and .u32 (rd x7_1 0) (rd x7_1 2))) (Go.bits .and .u32 (rd x7_1 1) (rd x7_1 2)))) % 4294967296)) % 4294967296), .int .u32 (rd x7_1 0), .int .u32 (rd x7_1 1), .int .u32 (rd x7_1 2), .int .u32 (((rd x7_1 3) + (((((((((rd x7_1 7) + (Go.bits .xor .u32 (Go.bits .xor .u32 t220 t222) t224)) % 4294967296) + (Go.bits .xor .u32 (Go.bits .and .u32 (rd x7_1 4) (rd x7_1 5)) (Go.bits .and .u32 (Go.bits .xor .u32 IntKind.u32.max (rd x7_1 4)) (rd x7_1 6)))) % 4294967296) + (rd t210 x8_1)) % 4294967296) + (rd t207 x8_1)) % 4294967296)) % 4294967296), .int .u32 (rd x7_1 4), .int .u32 (rd x7_1 5), .int .u32 (rd x7_1 6)]) (ok := fun _ => True) (okp := fun _ => True) ?hr ?hp (fun _ hk => hk) trivial (Below.refl _ _) (Nat.le_refl _) (by simp) ?_; (case hd => rfl); (case hg => rfl); (case hr => first | (go_simp; done) | (go_simp; rfl) | (go_simp; simp only [IntKind.wrap_u32', Int.emod_add_emod, Int.add_emod_emod])); (case hp => exact (Reps.one (show Kd.M (Kd.int .u32) _ _ _ (((((((((((rd x7_1 7) + (Go.bits .xor .u32 (Go.bits .xor .u32 t220 t222) t224)) % 4294967296) + (Go.bits .xor .u32 (Go.bits .and .u32 (rd x7_1 4) (rd x7_1 5)) (Go.bits .and .u32 (Go.bits .xor .u32 IntKind.u32.max (rd x7_1 4)) (rd x7_1 6)))) % 4294967296) + (rd t210 x8_1)) % 4294967296) + (rd t207 x8_1)) % 4294967296) + (((Go.bits .xor .u32 (Go.bits .xor .u32 t233 t235) t237) + (Go.bits .xor .u32 (Go.bits .xor .u32 (Go.bits .and .u32 (rd x7_1 0) (rd x7_1 1)) (Go.bits .and .u32 (rd x7_1 0) (rd x7_1 2))) (Go.bits .and .u32 (rd x7_1 1) (rd x7_1 2)))) % 4294967296)) % 4294967296) [.int .u32 (((((((((((rd x7_1 7) + (Go.bits .xor .u32 (Go.bits .xor .u32 t220 t222) t224)) % 4294967296) + (Go.bits .xor .u32 (Go.bits .and .u32 (rd x7_1 4) (rd x7_1 5)) (Go.bits .and .u32 (Go.bits .xor .u32 IntKind.u32.max (rd x7_1 4)) (rd x7_1 6)))) % 4294967296) + (rd t210 x8_1)) % 4294967296) + (rd t207 x8_1)) % 4294967296) + (((Go.bits .xor .u32 (Go.bits .xor .u32 t233 t235) t237) + (Go.bits .xor .u32 (Go.bits .xor .u32 (Go.bits .and .u32 (rd x7_1 0) (rd x7_1 1)) (Go.bits .and .u32 (rd x7_1 0) (rd x7_1 2))) (Go.bits .and .u32 (rd x7_1 1) (rd x7_1 2)))) % 4294967296)) % 4294967296)] from rfl) (Reps.one (show Kd.M (Kd.int .u32) _ _ _ (rd x7_1 0) [.int .u32 (rd x7_1 0)] from rfl) (Reps.one (show Kd.M (Kd.int .u32) _ _ _ (rd x7_1 1) [.int .u32 (rd x7_1 1)] from rfl) (Reps.one (show Kd.M (Kd.int .u32) _ _ _ (rd x7_1 2) [.int .u32 (rd x7_1 2)] from rfl) (Reps.one (show Kd.M (Kd.int .u32) _ _ _ (((rd x7_1 3) + (((((((((rd x7_1 7) + (Go.bits .xor .u32 (Go.bits .xor .u32 t220 t222) t224)) % 4294967296) + (Go.bits .xor .u32 (Go.bits .and .u32 (rd x7_1 4) (rd x7_1 5)) (Go.bits .and .u32 (Go.bits .xor .u32 IntKind.u32.max (rd x7_1 4)) (rd x7_1 6)))) % 4294967296) + (rd t210 x8_1)) % 4294967296) + (rd t207 x8_1)) % 4294967296)) % 4294967296) [.int .u32 (((rd x7_1 3) + (((((((((rd x7_1 7) + (Go.bits .xor .u32 (Go.bits .xor .u32 t220 t222) t224)) % 4294967296) + (Go.bits .xor .u32 (Go.bits .and .u32 (rd x7_1 4) (rd x7_1 5)) (Go.bits .and .u32 (Go.bits .xor .u32 IntKind.u32.max (rd x7_1 4)) (rd x7_1 6)))) % 4294967296) + (rd t210 x8_1)) % 4294967296) + (rd t207 x8_1)) % 4294967296)) % 4294967296)] from rfl) (Reps.one (show Kd.M (Kd.int .u32) _ _ _ (rd x7_1 4) [.int .u32 (rd x7_1 4)] from rfl) (Reps.one (show Kd.M (Kd.int .u32) _ _ _ (rd x7_1 5) [.int .u32 (rd x7_1 5)] from rfl) (Reps.one (show Kd.M (Kd.int .u32) _ _ _ (rd x7_1 6) [.int .u32 (rd x7_1 6)] from rfl) (Reps.none _ _))))))))))
                                intro v252 w37 ho38 hb hg_ hnew_
                                have HS0_ := (hb.cell (World.block_lt_of_cell? _ _ (hHeld.1))).trans (hHeld.1)
                                have HS1_ := (hb.cell (World.block_lt_of_cell? _ _ (hHeld.2.1))).trans (hHeld.2.1)
                                have HS2_ := (hb.cell (World.block_lt_of_cell? _ _ (hHeld.2.2.1))).trans (hHeld.2.2.1)
                                have HS3_ := (hb.cell (World.block_lt_of_cell? _ _ (hHeld.2.2.2.1))).trans (hHeld.2.2.2.1)
                                have HS4_ := (hb.cell (World.block_lt_of_cell? _ _ (hHeld.2.2.2.2.1))).trans (hHeld.2.2.2.2.1)
                                have HS5_ := (hb.cell (World.block_lt_of_cell? _ _ (hHeld.2.2.2.2.2.1))).trans (hHeld.2.2.2.2.2.1)
                                have HS6_ := (hb.cell (World.block_lt_of_cell? _ _ (hHeld.2.2.2.2.2.2))).trans (hHeld.2.2.2.2.2.2)
                                clear hg_ hnew_
                                (first | rw [← Ny251.out] at ho38 | (simp only [Int.reduceToNat] at ho38; rw [← Ny251.out] at ho38))
                                have n0_ := Aside0.mk (Kd.R_elder' (by (with_reducible repeat (first | apply Kd.R_alloc | apply Kd.R_drewN | apply Kd.R_drew)); exact HO_5.out) (Kd.R_base ho38) hb)
                                have n1_ := Aside0.mk (Kd.R_elder' (by (with_reducible repeat (first | apply Kd.R_alloc | apply Kd.R_drewN | apply Kd.R_drew)); exact HO_6.out) (Kd.R_base ho38) hb)
                                have n2_ := Aside0.mk (Kd.R_elder' (by (with_reducible repeat (first | apply Kd.R_alloc | apply Kd.R_drewN | apply Kd.R_drew)); exact HO_7.out) (Kd.R_base ho38) hb)
                                have n3_ := Aside0.mk (Kd.R_lower (Kd.R_new' (Kd.R_new' (Kd.R_new' ho38 (Kd.R_lt (by (with_reducible repeat (first | apply Kd.R_alloc | apply Kd.R_drewN | apply Kd.R_drew)); exact HO_5.out))) (Kd.R_lt (by (with_reducible repeat (first | apply Kd.R_alloc | apply Kd.R_drewN | apply Kd.R_drew)); exact HO_6.out))) (Kd.R_lt (by (with_reducible repeat (first | apply Kd.R_alloc | apply Kd.R_drewN | apply Kd.R_drew)); exact HO_7.out))) (below_size (by repeat (first | (with_reducible first | exact HB.out | apply below_alloc | apply pw_below_drewN | apply below_drew1) | exact HB.out))))
                                have n4_ := Aside0.mk (below_step (by repeat (first | (with_reducible first | exact HB.out | apply below_alloc | apply pw_below_drewN | apply below_drew1) | exact HB.out)) hb)
                                clear HO_5
                                clear HO_6
                                clear HO_7
                                clear HB
                                have HO_5 := n0_
                                have HO_6 := n1_
                                have HO_7 := n2_
                                have HO253 := n3_
                                have HB := n4_
                                clear n0_ n1_ n2_ n3_ n4_
                                clear hb ho38
                                refine hK.out _ _ ⟨HS0_, HS1_, HS2_, HS3_, HS4_, HS5_, HS6_⟩ (fun hHeld => ?_)
                                clear hK K
                                refine norm_ (a' := ?_) ?_ ?_
                                rotate_left
                                · show Act.put _ (some 135) _ = _
                                  simp only [Act.put, List.setIfInBounds_toArray, List.set_cons_zero, List.set_cons_succ, i64_w, i32_w]
                                  rfl
                                refine pure_ (i := 27) (N := some 7) (v := ?_) (a' := ?_) #[true, true, true, true, true, true, true, true, true, true, true, true, true, true, true, true, true, true, true, true, true, true, true, true, true, true, true, true] rfl rfl (any_of HT_.out (by kernel_rfl)) (fun _ _ _ h => h) (Or.inl ⟨by rfl, ?_⟩) ?_ ?_
                                rotate_left
                                · intro w'
                                  go_simp
                                  with_reducible rfl
                                rotate_left
                                · simp only [Act.put, List.setIfInBounds_toArray, List.set_cons_zero, List.set_cons_succ, i64_w, i32_w]
                                  rfl
                                refine done_ (done_of HT_.out (by kernel_rfl)) ?_
                                try go_wp2
                                go_roundg k1
                                case measure => have := HK1.out; omega
                                case rel => exact ⟨(y251), (wrap64 (x8_1 + 1)), (by first | rfl | (simp; done) | (simp [*]; done)), H', ⟨by have := HK1.out; omega⟩, ⟨by (with_reducible repeat (first | apply Kd.R_alloc | apply Kd.R_drewN | apply Kd.R_drew)); exact Kd.R_mono HO_5.out (fun _ hk => ⟨hk.1.1, hk.2⟩)⟩, ⟨by (with_reducible repeat (first | apply Kd.R_alloc | apply Kd.R_drewN | apply Kd.R_drew)); exact Kd.R_mono HO_6.out (fun _ hk => ⟨hk.1.1, hk.2⟩)⟩, ⟨by (with_reducible repeat (first | apply Kd.R_alloc | apply Kd.R_drewN | apply Kd.R_drew)); exact Kd.R_mono HO253.out (fun _ hk => ⟨hk.1.1.2, hk.1.2⟩)⟩, ⟨by repeat (first | (with_reducible first | exact HB.out | apply below_alloc | apply pw_below_drewN | apply below_drew1) | exact HB.out)⟩⟩
                              · rw [if_neg c28] at H
                                exact absurd H (by simp)
                            · rw [if_neg c27] at H
                              exact absurd H (by simp)
                          · rw [if_neg c26] at H
                            exact absurd H (by simp)
                        · rw [if_neg c22] at H
                          exact absurd H (by simp)
                      · rw [if_neg c21] at H
                        exact absurd H (by simp)
                    · rw [if_neg c20] at H
                      exact absurd H (by simp)
                  · rw [if_neg c19] at H
                    exact absurd H (by simp)
                · rw [if_neg c18] at H
                  exact absurd H (by simp)
              · rw [if_neg c17] at H
                exact absurd H (by simp)
            · rw [if_neg c16] at H
              exact absurd H (by simp)
          · rw [if_neg c12] at H
            exact absurd H (by simp)
        · rw [if_neg c11] at H
          have c11b0 : decide (x8_1 < 64) = false := decide_eq_false c11
          clear c11
          have H' := Aside0.mk H
          clear H
          go_wp2
          go_loopg [13] k1 (fun kq v13 w' => ∃ (x7_2 : List Int) (x13_2 : Int), v13 = .int .i64 x13_2 ∧ Aside0 (agoraref03_next.l1 kq l0 x7_2 x13_2 = some r) ∧ Aside0 (kq ≤ k1) ∧ Aside0 (Kd.R (Kd.int .u32) 54 w' w.heap.size (fun _ => True) u7 x7_2) ∧ Aside0 (Below w.heap.size w w'))
          case atStart => exact ⟨(x7_1), (0), (by first | rfl | (simp; done) | (simp [*]; done)), H', ⟨Nat.le_refl _⟩, ⟨by (with_reducible repeat (first | apply Kd.R_alloc | apply Kd.R_drewN | apply Kd.R_drew)); exact Kd.R_mono HO_7.out (fun _ hk => trivial)⟩, ⟨by repeat (first | (with_reducible first | exact HB.out | apply below_alloc | apply pw_below_drewN | apply below_drew1) | exact HB.out)⟩⟩
          case round =>
            clear H'
            try clear c1
            try clear c2
            try clear p2
            try clear q2
            try clear hx2
            try clear qi2
            try clear p6
            try clear c11
            try clear c11b0
            try clear c12
            try clear c16
            try clear c17
            try clear c18
            try clear c19
            try clear c20
            try clear c21
            try clear c22
            try clear hx23
            try clear p24
            try clear q24
            try clear hx24
            try clear qi24
            try clear p25
            try clear q25
            try clear hx25
            try clear qi25
            try clear c26
            try clear c27
            try clear c28
            try clear hx238_0
            try clear hx239_0
            try clear hx240_0
            try clear hx241_0
            try clear hx242_0
            try clear hx243_0
            try clear hx244_0
            try clear hx245_0
            try clear hx246_0
            try clear hx247_0
            try clear hx248_0
            try clear hx249_0
            try clear hx250_0
            try clear p241
            try clear p242
            try clear p243
            try clear p244
            try clear p245
            try clear p246
            try clear p247
            try clear p248
            try clear p249
            try clear p250
            try clear q241
            try clear q242
            try clear q243
            try clear q244
            try clear q245
            try clear q246
            try clear q247
            try clear q248
            try clear q249
            try clear q250
            obtain ⟨x7_2, x13_2, rfl, HA, HK2, HO_7, HB⟩ := hrel
            cases gk with
            | zero => exact absurd HA.out (by simp [agoraref03_next.l1])
            | succ k2 =>
              have H := HA.out
              clear HA
              simp only [agoraref03_next.l1] at H
              by_cases c39 : x13_2 < 8
              · rw [if_pos c39] at H
                have c39b0 : decide (x13_2 < 8) = true := decide_eq_true c39
                clear c39
                by_cases c40 : 0 ≤ x13_2
                · rw [if_pos c40] at H
                  have c40b0 : decide (0 ≤ x13_2) = true := decide_eq_true c40
                  clear c40
                  by_cases c41 : x13_2 < (x7_2.length : Int)
                  · rw [if_pos c41] at H
                    have c41b0 : decide (x13_2 < (x7_2.length : Int)) = true := decide_eq_true c41
                    clear c41
                    by_cases c42 : x13_2 < (l0.length : Int)
                    · rw [if_pos c42] at H
                      have c42b0 : decide (x13_2 < (l0.length : Int)) = true := decide_eq_true c42
                      clear c42
                      obtain ⟨y256, hy256⟩ : ∃ y_ : List Int, y_ = (x7_2.set (x13_2 : Int).toNat (((rd x7_2 x13_2) + (rd l0 x13_2)) % 4294967296)) := ⟨_, rfl⟩
                      replace H : (agoraref03_next.l1 k2 l0 y256 (wrap64 (x13_2 + 1))) = some r := by first | (rw [hy256]; with_reducible exact H) | (have H2_ := (Option.bind_some _ _).symm.trans H; rw [hy256]; with_reducible exact H2_) | (have H2_ := (Option.bind_some _ _).symm.trans H; with_reducible exact H2_) | with_reducible exact H | (rw [hy256]; exact H) | exact H
                      have Ny256 := Aside0.mk hy256
                      clear hy256
                      have H' := Aside0.mk H
                      clear H
                      try go_wp2
                      have n0_ := Aside0.mk (Kd.R_drew HO_7.out)
                      have n1_ := Aside0.mk (below_drew1 HB.out)
                      clear HO_7
                      clear HB
                      have HO_7 := n0_
                      have HB := n1_
                      clear n0_ n1_
                      obtain ⟨Ao45, co45, eo45⟩ := Kd.R_slice HO_7.out
                      (first | subst eo45 | (injection eo45 with f1_ f2_ f3_; have f4_ := f1_.symm; have f5_ := f3_.symm; clear f1_ f2_ f3_; subst f4_; subst f5_))
                      have p254 : 0 ≤ (x13_2 : Int) := of_decide_eq_true (by first | (with_reducible assumption) | assumption)
                      have q254 : x13_2 < (x7_2.length : Int) := of_decide_eq_true (by first | (with_reducible assumption) | assumption)
                      obtain ⟨ad254, e254, hx254_0⟩ := Kd.at_int (Kd.R_reads' HO_7.out).2.2 x13_2 p254 q254
                      cases e254
                      replace p254 := eq_true p254
                      replace q254 := eq_true q254
                      have p255 : 0 ≤ (x13_2 : Int) := of_decide_eq_true (by first | (with_reducible assumption) | assumption)
                      have q255 : x13_2 < (l0.length : Int) := of_decide_eq_true (by first | (with_reducible assumption) | assumption)
                      obtain ⟨ad255, e255, hx255_0⟩ := Kd.at_int HR0.out x13_2 p255 q255
                      have hw255_0 := hx255_0
                      cases e255
                      replace hx255_0 := (HB.out.cell (World.block_lt_of_cell? w _ hx255_0)).trans hx255_0
                      replace p255 := eq_true p255
                      replace q255 := eq_true q255
                      have p43 : 0 ≤ (x13_2 : Int) := of_decide_eq_true (by first | (with_reducible assumption) | assumption)
                      have q43 : (x13_2 : Int) < ((x7_2.length : Int) : Int) := of_decide_eq_true (by first | (with_reducible assumption) | assumption)
                      obtain ⟨go43, co43, eo43, gb43, gl43, cl43, HG43⟩ := Kd.R_form HO_7.out (by omega)
                      (first | cases eo43 | (injection eo43 with ea_ en_ ec_; (first | subst ea_ | (injection ea_ with ea_; subst ea_)); subst ec_; clear en_))
                      have GB43 := Aside0.mk gb43
                      have GG43 := Aside0.mk HG43
                      clear gb43 gl43 HG43
                      (first | simp only [add_plain] at hx254_0 | skip)
                      obtain ⟨hx43_0, hf43_0⟩ := Kd.R_celln 0 HO_7.out (x13_2 : Int) p43 q43
                      replace p43 := eq_true p43
                      replace q43 := eq_true q43
                      have HP46 := Kd.R_putn HO_7.out (x13_2 : Int) (((rd x7_2 x13_2) + (rd l0 x13_2)) % 4294967296)
                      rw [← Ny256.out] at HP46
                      have HQ46 := Aside0.mk HP46
                      clear HP46
                      refine start_ (n := 13) (S := fun w' => w'.cell? ⟨go43, (x13_2).toNat, none⟩ = some (.int .u32 (rd x7_2 x13_2)) ∧ w'.cell? (ad255.add (x13_2).toNat) = some (.int .u32 (rd l0 x13_2))) (ds := [12]) #[false, false, false, false, false, false, false, false, false, false, false, false, false] (by kernel_rfl) rfl rfl ⟨hx254_0, ((HB.out.cell (World.block_lt_of_cell? w _ hw255_0)).trans hw255_0)⟩ (fun hHeld => ?_); refine with_tabW agoraref03_next.tab15 agoraref03_next.bits15 (fun HT_ HW_ => ?_)
                      generalize wr.drew = w44 at HO_7 HB GG43 HQ46 hf43_0 hx254_0 hx255_0 hx43_0 hHeld ⊢
                      refine pure_ (i := 0) (N := some 140) (v := ?_) (a' := ?_) #[true, false, false, false, false, false, false, false, false, false, false, false, false] rfl rfl (any_of HT_.out (by kernel_rfl)) (fun _ _ _ h => h) (Or.inl ⟨by rfl, ?_⟩) ?_ ?_
                      rotate_left
                      · intro w'
                        go_simp
                        with_reducible rfl
                      rotate_left
                      · simp only [Act.put, List.setIfInBounds_toArray, List.set_cons_zero, List.set_cons_succ, i64_w, i32_w]
                        rfl
                      refine pure_ (i := 1) (N := some 141) (v := ?_) (a' := ?_) #[true, true, false, false, false, false, false, false, false, false, false, false, false] rfl rfl (any_of HT_.out (by kernel_rfl)) (fun _ _ _ h => h) (Or.inl ⟨by rfl, ?_⟩) ?_ ?_
                      rotate_left
                      · intro w'
                        go_simp
                        with_reducible rfl
                      rotate_left
                      · simp only [Act.put, List.setIfInBounds_toArray, List.set_cons_zero, List.set_cons_succ, i64_w, i32_w]
                        rfl
                      refine pure_ (i := 2) (N := some 142) (v := ?_) (a' := ?_) #[true, true, true, false, false, false, false, false, false, false, false, false, false] rfl rfl (any_of HT_.out (by kernel_rfl)) (fun _ _ _ h => h) (Or.inl ⟨by rfl, ?_⟩) ?_ ?_
                      rotate_left
                      · intro w'
                        go_simp
                        with_reducible rfl
                      rotate_left
                      · simp only [Act.put, List.setIfInBounds_toArray, List.set_cons_zero, List.set_cons_succ, i64_w, i32_w]
                        rfl
                      refine pure_ (i := 3) (N := some 143) (v := ?_) (a' := ?_) #[true, true, true, true, false, false, false, false, false, false, false, false, false] rfl rfl (any_of HT_.out (by kernel_rfl)) (fun _ _ _ h => h) (Or.inl ⟨by rfl, ?_⟩) ?_ ?_
                      rotate_left
                      · intro w'
                        go_simp
                        with_reducible rfl
                      rotate_left
                      · simp only [Act.put, List.setIfInBounds_toArray, List.set_cons_zero, List.set_cons_succ, i64_w, i32_w]
                        rfl
                      refine pure_ (i := 4) (N := some 144) (v := ?_) (a' := ?_) #[true, true, true, true, true, false, false, false, false, false, false, false, false] rfl rfl (any_of HT_.out (by kernel_rfl)) (fun _ _ _ h => h) (Or.inl ⟨by rfl, ?_⟩) ?_ ?_
                      rotate_left
                      · intro w'
                        go_simp
                        with_reducible rfl
                      rotate_left
                      · simp only [Act.put, List.setIfInBounds_toArray, List.set_cons_zero, List.set_cons_succ, i64_w, i32_w]
                        rfl
                      refine pure_ (i := 6) (N := some 146) (v := ?_) (a' := ?_) #[true, true, true, true, true, false, true, false, false, false, false, false, false] rfl rfl (any_of HT_.out (by kernel_rfl)) (fun _ _ _ h => h) (Or.inl ⟨by rfl, ?_⟩) ?_ ?_
                      rotate_left
                      · intro w'
                        go_simp
                        with_reducible rfl
                      rotate_left
                      · simp only [Act.put, List.setIfInBounds_toArray, List.set_cons_zero, List.set_cons_succ, i64_w, i32_w]
                        rfl
                      refine pure_ (i := 7) (N := some 147) (v := ?_) (a' := ?_) #[true, true, true, true, true, false, true, true, false, false, false, false, false] rfl rfl (any_of HT_.out (by kernel_rfl)) (fun _ _ _ h => h) (Or.inl ⟨by rfl, ?_⟩) ?_ ?_
                      rotate_left
                      · intro w'
                        go_simp
                        with_reducible rfl
                      rotate_left
                      · simp only [Act.put, List.setIfInBounds_toArray, List.set_cons_zero, List.set_cons_succ, i64_w, i32_w]
                        rfl
                      refine pure_ (i := 8) (N := some 148) (v := ?_) (a' := ?_) #[true, true, true, true, true, false, true, true, true, false, false, false, false] rfl rfl (any_of HT_.out (by kernel_rfl)) (fun _ _ _ h => h) (Or.inl ⟨by rfl, ?_⟩) ?_ ?_
                      rotate_left
                      · intro w'
                        go_simp
                        with_reducible rfl
                      rotate_left
                      · simp only [Act.put, List.setIfInBounds_toArray, List.set_cons_zero, List.set_cons_succ, i64_w, i32_w]
                        rfl
                      refine take_ (i := 5) (N := some 145) (v := ?_) (a' := ?_) #[true, true, true, true, true, true, true, true, true, false, false, false, false] rfl rfl (take_ofW HT_.out HW_.out (by kernel_rfl)) (fun _ _ _ h => h) (Or.inl ⟨by rfl, ?_⟩) hHeld ?_ ?_
                      rotate_left
                      · rintro w' ⟨s0, s1⟩
                        go_simp
                        with_reducible rfl
                      rotate_left
                      · simp only [Act.put, List.setIfInBounds_toArray, List.set_cons_zero, List.set_cons_succ, i64_w, i32_w]
                        rfl
                      refine take_ (i := 9) (N := some 149) (v := ?_) (a' := ?_) #[true, true, true, true, true, true, true, true, true, true, false, false, false] rfl rfl (take_ofW HT_.out HW_.out (by kernel_rfl)) (fun _ _ _ h => h) (Or.inl ⟨by rfl, ?_⟩) hHeld ?_ ?_
                      rotate_left
                      · rintro w' ⟨s0, s1⟩
                        go_simp
                        with_reducible rfl
                      rotate_left
                      · simp only [Act.put, List.setIfInBounds_toArray, List.set_cons_zero, List.set_cons_succ, i64_w, i32_w]
                        rfl
                      refine pure_ (i := 10) (N := some 150) (v := ?_) (a' := ?_) #[true, true, true, true, true, true, true, true, true, true, true, false, false] rfl rfl (any_of HT_.out (by kernel_rfl)) (fun _ _ _ h => h) (Or.inl ⟨by rfl, ?_⟩) ?_ ?_
                      rotate_left
                      · intro w'
                        go_simp
                        with_reducible rfl
                      rotate_left
                      · simp only [Act.put, List.setIfInBounds_toArray, List.set_cons_zero, List.set_cons_succ, i64_w, i32_w]
                        rfl
                      refine pure_ (i := 11) (N := some 151) (v := ?_) (a' := ?_) #[true, true, true, true, true, true, true, true, true, true, true, true, false] rfl rfl (any_of HT_.out (by kernel_rfl)) (fun _ _ _ h => h) (Or.inl ⟨by rfl, ?_⟩) ?_ ?_
                      rotate_left
                      · intro w'
                        go_simp
                        with_reducible rfl
                      rotate_left
                      · simp only [Act.put, List.setIfInBounds_toArray, List.set_cons_zero, List.set_cons_succ, i64_w, i32_w]
                        rfl
                      refine last_ (i := 12) (N := none) #[true, true, true, true, true, true, true, true, true, true, true, true, true] rfl rfl (one_of HT_.out (by kernel_rfl)) (by decide) (fun K hK => ?_)
                      refine skip_ (w1 := ?_) (by rfl) rfl ?_ ?_
                      rotate_left
                      · go_simp
                        rfl
                      refine hK.out _ _ ?_
                      clear hK K
                      refine done_ (done_of HT_.out (by kernel_rfl)) ?_
                      try go_wp2
                      go_roundg k2
                      case measure => have := HK1.out; have := HK2.out; omega
                      case rel => exact ⟨(y256), (wrap64 (x13_2 + 1)), (by first | rfl | (simp; done) | (simp [*]; done)), H', ⟨by have := HK1.out; have := HK2.out; omega⟩, ⟨by (with_reducible repeat (first | apply Kd.R_alloc | apply Kd.R_drewN | apply Kd.R_drew)); exact HQ46.out⟩, ⟨by repeat (first | (with_reducible first | exact HB.out | apply below_alloc | apply pw_below_drewN | apply below_drew1 | refine below_set ?_ GB43.out) | exact HB.out)⟩⟩
                    · rw [if_neg c42] at H
                      exact absurd H (by simp)
                  · rw [if_neg c41] at H
                    exact absurd H (by simp)
                · rw [if_neg c40] at H
                  exact absurd H (by simp)
              · rw [if_neg c39] at H
                have c39b0 : decide (x13_2 < 8) = false := decide_eq_false c39
                clear c39
                obtain rfl := Option.some.inj H
                go_wp2
                go_ret
                exact ⟨_, by first | rfl | (simp [errW_none, errW_some] <;> rfl) | (simp [*, errW_none, errW_some] <;> rfl), by (with_reducible repeat (first | apply Kd.R_alloc | apply Kd.R_drewN | apply Kd.R_drew)); exact HO_7.out, by repeat (first | (with_reducible first | exact HB.out | apply below_alloc | apply pw_below_drewN | apply below_drew1) | exact HB.out)⟩
  · rw [if_neg c5] at H
    exact absurd H (by simp)
end Go.Proofs.Ytkhkppehdgkboaa.P
end P10_
section Next_
namespace Go.Proofs.Ytkhkppehdgkboaa.Sch
open Go.RowKit Go.Proofs.Ytkhkppehdgkboaa.P Go.Proofs.Ytkhkppehdgkboaa.ShaL Go.Proofs.YtkhkppehdgkboaaW.PrintWords Go.Proofs.YtkhkppehdgkboaaW.PrintLast Go.Proofs.YtkhkppehdgkboaaW.PrintMore
set_option linter.unusedVariables false
def nt (l : List Nat) : List Int := l.map fun n : Nat => (n : Int)
theorem nt_length (l : List Nat) : (nt l).length = l.length := by simp [nt]
theorem rd_nt (l : List Nat) (i : Nat) : rd (nt l) (i : Int) = ((l.getD i 0 : Nat) : Int) := by
  simp only [rd, nt, Int.toNat_natCast, List.getD_eq_getElem?_getD, List.getElem?_map]
  cases l[i]? <;> rfl
theorem turn_eq (x n : Nat) (hx : x < 4294967296) (h0 : 0 < n) (hn : n < 32) : agoraref03_turn.f (x : Int) (n : Int) = some ((rotr x n : Nat) : Int) := by
  unfold agoraref03_turn.f
  have e2 : wrap64 (32 - (n : Int)) = ((32 - n : Nat) : Int) := by rw [wrap64]; omega
  rw [e2, if_pos (by omega), if_pos (by omega)]
  have e3 : shl .u32 (x : Int) ((32 - n : Nat) : Int) = (((x <<< (32 - n)) % 4294967296 : Nat) : Int) := by
    unfold shl
    rw [Int.toNat_natCast, show min (32 - n) IntKind.u32.bits = 32 - n by have : IntKind.u32.bits = 32 := rfl; omega, IntKind.wrap_u32', Nat.shiftLeft_eq]
    simp only [Int.natCast_emod, Int.natCast_mul, Int.natCast_pow]; rfl
  have e4 : shr .u32 (x : Int) (n : Int) = ((x >>> n : Nat) : Int) := by
    unfold shr
    rw [Int.toNat_natCast, show min n IntKind.u32.bits = n by have : IntKind.u32.bits = 32 := rfl; omega, Nat.shiftRight_eq_div_pow]
    simp only [Int.natCast_ediv, Int.natCast_pow]; rfl
  rw [e3, e4, or_nat _ _ (Nat.lt_of_le_of_lt (Nat.shiftRight_le x n) hx) (Nat.mod_lt _ (by decide))]
  rfl
theorem getLt256 {l : List Nat} (h : ∀ n ∈ l, n < 256) (j : Nat) : l.getD j 0 < 256 := by
  rw [List.getD_eq_getElem?_getD]
  cases e : l[j]? with
  | none => simp
  | some x => simpa using h x (List.mem_of_getElem? e)
theorem wNext_ge (b l : List Nat) (i : Nat) (h : 16 ≤ i) : wNext b l i = (l.getD (i - 16) 0 + sg0 (l.getD (i - 15) 0) + l.getD (i - 7) 0 + sg1 (l.getD (i - 2) 0)) % 4294967296 := if_neg (Nat.not_lt.2 h)
theorem wNext_lt (b l : List Nat) (i : Nat) (h : i < 16) : wNext b l i = b.getD (4 * i) 0 * 16777216 + b.getD (4 * i + 1) 0 * 65536 + b.getD (4 * i + 2) 0 * 256 + b.getD (4 * i + 3) 0 := if_pos h
theorem sum_mod (a b c d e : Int) : ((((a + b) % 4294967296 + c) % 4294967296 + d) % 4294967296 + e) % 4294967296 = (a + b + c + d + e) % 4294967296 := by
  rw [Int.emod_add_emod (a + b) _ c, Int.emod_add_emod (a + b + c) _ d, Int.emod_add_emod (a + b + c + d) _ e]
theorem four (x16 y0 x7 y1 : Nat) : ((((x16 : Int) + (y0 : Int)) % 4294967296 + (x7 : Int)) % 4294967296 + (y1 : Int)) % 4294967296 = (((x16 + y0 + x7 + y1) % 4294967296 : Nat) : Int) := by
  rw [Int.emod_add_emod ((x16 : Int) + y0) _ x7, Int.emod_add_emod ((x16 : Int) + y0 + x7) _ y1]; omega
theorem bytes4 (x0 x1 x2 x3 : Nat) (g0 : x0 < 256) (g1 : x1 < 256) (g2 : x2 < 256) (g3 : x3 < 256) : (((((((x0 : Int) % 4294967296 * 16777216) % 4294967296 + ((x1 : Int) % 4294967296 * 65536) % 4294967296) % 4294967296) + ((x2 : Int) % 4294967296 * 256) % 4294967296) % 4294967296 + (x3 : Int) % 4294967296) % 4294967296) = ((x0 * 16777216 + x1 * 65536 + x2 * 256 + x3 : Nat) : Int) := by
  have e0 : (x0 : Int) % 4294967296 * 16777216 % 4294967296 = ((x0 * 16777216 : Nat) : Int) := by omega
  have e1 : (x1 : Int) % 4294967296 * 65536 % 4294967296 = ((x1 * 65536 : Nat) : Int) := by omega
  have e2 : (x2 : Int) % 4294967296 * 256 % 4294967296 = ((x2 * 256 : Nat) : Int) := by omega
  have e3 : (x3 : Int) % 4294967296 = (x3 : Int) := by omega
  rw [e0, e1, e2, e3]; clear e0 e1 e2 e3
  rw [Int.emod_add_emod ((x0 * 16777216 : Nat) + (x1 * 65536 : Nat) : Int) _ (x2 * 256 : Nat), Int.emod_add_emod _ _ (x3 : Int)]
  omega
theorem words_l1_step (k : Nat) (X : List Int) (i : Nat) (hX : X.length = i) (h16 : 16 ≤ i) (h64 : i < 64) (x16 x15 x7 x2 : Nat) (l15 : x15 < 4294967296) (l2 : x2 < 4294967296) :
    (rd X ((i - 16 : Nat) : Int) = (x16 : Int)) → (rd X ((i - 15 : Nat) : Int) = (x15 : Int)) → (rd X ((i - 7 : Nat) : Int) = (x7 : Int)) → (rd X ((i - 2 : Nat) : Int) = (x2 : Int)) → 
    agoraref03_words.l1 (k + 1) X (i : Int) = agoraref03_words.l1 k (X ++ [(((x16 + sg0 x15 + x7 + sg1 x2) % 4294967296 : Nat) : Int)]) ((i + 1 : Nat) : Int) := by
  have c0 : (i : Int) < 64 := by omega
  have c1 : (0 : Int) ≤ ((i - 15 : Nat) : Int) := by omega
  have c2 : ((i - 15 : Nat) : Int) < (i : Int) := by omega
  have c3 : (0 : Int) ≤ ((i - 2 : Nat) : Int) := by omega
  have c4 : ((i - 2 : Nat) : Int) < (i : Int) := by omega
  have c5 : (0 : Int) ≤ ((i - 16 : Nat) : Int) := by omega
  have c6 : ((i - 16 : Nat) : Int) < (i : Int) := by omega
  have c7 : (0 : Int) ≤ ((i - 7 : Nat) : Int) := by omega
  have c8 : ((i - 7 : Nat) : Int) < (i : Int) := by omega
  have c9 : i < 35184372088832 := by omega
  have C := Lib.hid (And.intro c0 (And.intro c1 (And.intro c2 (And.intro c3 (And.intro c4 (And.intro c5 (And.intro c6 (And.intro c7 (And.intro c8 c9)))))))))
  clear c0 c1 c2 c3 c4 c5 c6 c7 c8 c9
  have w15 : wrap64 ((i : Int) - 15) = ((i - 15 : Nat) : Int) := by rw [wrap64]; omega
  have w2 : wrap64 ((i : Int) - 2) = ((i - 2 : Nat) : Int) := by rw [wrap64]; omega
  have w16 : wrap64 ((i : Int) - 16) = ((i - 16 : Nat) : Int) := by rw [wrap64]; omega
  have w7 : wrap64 ((i : Int) - 7) = ((i - 7 : Nat) : Int) := by rw [wrap64]; omega
  have w1 : wrap64 ((i : Int) + 1) = ((i + 1 : Nat) : Int) := by rw [wrap64]; omega
  have r1 : agoraref03_turn.f (x15 : Int) 7 = _ := turn_eq x15 7 l15 (by decide) (by decide)
  have r2 : agoraref03_turn.f (x15 : Int) 18 = _ := turn_eq x15 18 l15 (by decide) (by decide)
  have r3 : agoraref03_turn.f (x2 : Int) 17 = _ := turn_eq x2 17 l2 (by decide) (by decide)
  have r4 : agoraref03_turn.f (x2 : Int) 19 = _ := turn_eq x2 19 l2 (by decide) (by decide)
  have s0 := sg0_int x15 l15
  have s1 := sg1_int x2 l2
  obtain ⟨c0, c1, c2, c3, c4, c5, c6, c7, c8, c9⟩ := C.out
  intro e16 e15 e7 e2
  rw [agoraref03_words.l1, if_pos c0, w15, w2, w16, w7, w1, e16, e15, e7, e2, hX, if_pos c1, if_pos c2, if_pos c3, if_pos c4, r1, Option.bind_some, r2, Option.bind_some, r3, Option.bind_some, r4, Option.bind_some, if_pos c5, if_pos c6, if_pos c7, if_pos c8, if_pos c9, s0, s1]
  generalize sg0 x15 = y0
  generalize sg1 x2 = y1
  clear r1 r2 r3 r4 s0 s1 e16 e15 e7 e2
  rw [four]
theorem nt_snoc (l : List Nat) (n : Nat) : nt (l ++ [n]) = nt l ++ [(n : Int)] := by simp only [nt, List.map_append, List.map_cons, List.map_nil]
theorem wTo_succ (b : List Nat) (i : Nat) : wTo b (i + 1) = wTo b i ++ [wNext b (wTo b i) i] := rfl
theorem words_l1 (b : List Nat) (hb : ∀ n ∈ b, n < 256) (m : Nat) : ∀ k i, i + m = 64 → 16 ≤ i → m + 1 ≤ k → agoraref03_words.l1 k (nt (wTo b i)) (i : Int) = some (nt (wTo b 64)) := by
  induction m with
  | zero =>
    intro k i hi h16 hk
    obtain ⟨k, rfl⟩ : ∃ k', k = k' + 1 := ⟨k - 1, by omega⟩
    obtain rfl : i = 64 := by omega
    rw [agoraref03_words.l1, if_neg (by omega)]
  | succ m ih =>
    intro k i hi h16 hk
    obtain ⟨k, rfl⟩ : ∃ k', k = k' + 1 := ⟨k - 1, by omega⟩
    have hi' : i < 64 := by omega
    have := ih k (i + 1) (by omega) (by omega) (by omega)
    rw [words_l1_step k (nt (wTo b i)) i (by rw [nt_length, wTo_length]) h16 hi' _ _ _ _ (getLt (wTo_lt b hb i) (i - 15)) (getLt (wTo_lt b hb i) (i - 2)) (rd_nt _ _) (rd_nt _ _) (rd_nt _ _) (rd_nt _ _)]
    rw [wTo_succ, wNext_ge _ _ _ h16, nt_snoc] at this
    exact this
theorem words_l0_step (k : Nat) (B X : List Int) (i : Nat) (hB : B.length = 64) (hX : X.length = i) (h16 : i < 16) (x0 x1 x2 x3 : Nat) (g0 : x0 < 256) (g1 : x1 < 256) (g2 : x2 < 256) (g3 : x3 < 256) :
    (rd B ((4 * i : Nat) : Int) = (x0 : Int)) → (rd B ((4 * i + 1 : Nat) : Int) = (x1 : Int)) → (rd B ((4 * i + 2 : Nat) : Int) = (x2 : Int)) → (rd B ((4 * i + 3 : Nat) : Int) = (x3 : Int)) → 
    agoraref03_words.l0 (k + 1) B X (i : Int) = agoraref03_words.l0 k B (X ++ [((x0 * 16777216 + x1 * 65536 + x2 * 256 + x3 : Nat) : Int)]) ((i + 1 : Nat) : Int) := by
  have c0 : (i : Int) < 16 := by omega
  have c1 : (0 : Int) ≤ ((4 * i : Nat) : Int) := by omega
  have c2 : ((4 * i : Nat) : Int) < ((64 : Nat) : Int) := by omega
  have c3 : (0 : Int) ≤ ((4 * i + 1 : Nat) : Int) := by omega
  have c4 : ((4 * i + 1 : Nat) : Int) < ((64 : Nat) : Int) := by omega
  have c5 : (0 : Int) ≤ ((4 * i + 2 : Nat) : Int) := by omega
  have c6 : ((4 * i + 2 : Nat) : Int) < ((64 : Nat) : Int) := by omega
  have c7 : (0 : Int) ≤ ((4 * i + 3 : Nat) : Int) := by omega
  have c8 : ((4 * i + 3 : Nat) : Int) < ((64 : Nat) : Int) := by omega
  have c9 : i < 35184372088832 := by omega
  have C := Lib.hid (And.intro c0 (And.intro c1 (And.intro c2 (And.intro c3 (And.intro c4 (And.intro c5 (And.intro c6 (And.intro c7 (And.intro c8 c9)))))))))
  clear c0 c1 c2 c3 c4 c5 c6 c7 c8 c9
  have q0 : wrap64 (4 * (i : Int)) = ((4 * i : Nat) : Int) := by rw [wrap64]; omega
  have q1 : wrap64 (((4 * i : Nat) : Int) + 1) = ((4 * i + 1 : Nat) : Int) := by rw [wrap64]; omega
  have q2 : wrap64 (((4 * i : Nat) : Int) + 2) = ((4 * i + 2 : Nat) : Int) := by rw [wrap64]; omega
  have q3 : wrap64 (((4 * i : Nat) : Int) + 3) = ((4 * i + 3 : Nat) : Int) := by rw [wrap64]; omega
  have w1 : wrap64 ((i : Int) + 1) = ((i + 1 : Nat) : Int) := by rw [wrap64]; omega
  obtain ⟨c0, c1, c2, c3, c4, c5, c6, c7, c8, c9⟩ := C.out
  intro e0 e1 e2 e3
  rw [agoraref03_words.l0, if_pos c0, q0, q1, q2, q3, w1, e0, e1, e2, e3, hB, hX, if_pos c1, if_pos c2, if_pos c3, if_pos c4, if_pos c5, if_pos c6, if_pos c7, if_pos c8, if_pos c9]
  rw [bytes4 x0 x1 x2 x3 g0 g1 g2 g3]
theorem words_l0 (b : List Nat) (hb : ∀ n ∈ b, n < 256) (hl : b.length = 64) (m : Nat) : ∀ k i, i + m = 16 → m + 100 ≤ k → agoraref03_words.l0 k (nt b) (nt (wTo b i)) (i : Int) = some (nt (wTo b 64)) := by
  induction m with
  | zero =>
    intro k i hi hk
    obtain ⟨k, rfl⟩ : ∃ k', k = k' + 1 := ⟨k - 1, by omega⟩
    obtain rfl : i = 16 := by omega
    rw [agoraref03_words.l0, if_neg (by omega)]
    exact words_l1 b hb 48 k 16 rfl (Nat.le_refl _) (by omega)
  | succ m ih =>
    intro k i hi hk
    obtain ⟨k, rfl⟩ : ∃ k', k = k' + 1 := ⟨k - 1, by omega⟩
    have hi' : i < 16 := by omega
    have := ih k (i + 1) (by omega) (by omega)
    rw [words_l0_step k (nt b) (nt (wTo b i)) i (by rw [nt_length, hl]) (by rw [nt_length, wTo_length]) hi' _ _ _ _ (getLt256 hb (4 * i)) (getLt256 hb (4 * i + 1)) (getLt256 hb (4 * i + 2)) (getLt256 hb (4 * i + 3)) (rd_nt _ _) (rd_nt _ _) (rd_nt _ _) (rd_nt _ _)]
    rw [wTo_succ, wNext_lt _ _ _ hi', nt_snoc] at this
    exact this
theorem words_at (b : List Nat) (hb : ∀ n ∈ b, n < 256) (hl : b.length = 64) (k : Nat) (hk : 200 ≤ k) : agoraref03_words.f k (nt b) = some (nt (wTo b 64)) :=
  words_l0 b hb hl 16 k 0 rfl (by omega)
theorem nt_set (l : List Nat) (j n : Nat) : (nt l).set j (n : Int) = nt (l.set j n) := by simp only [nt, List.map_set]
theorem next_l1 (r h : List Nat) (hr : r.length = 8) (hh : h.length = 8) (m : Nat) : ∀ k j, j + m = 8 → m + 1 ≤ k → agoraref03_next.l1 k (nt h) (nt (midL r h j)) (j : Int) = some (nt (midL r h 8)) := by
  induction m with
  | zero =>
    intro k j hj hk
    obtain ⟨k, rfl⟩ : ∃ k', k = k' + 1 := ⟨k - 1, by omega⟩
    obtain rfl : j = 8 := by omega
    rw [agoraref03_next.l1, if_neg (by omega)]
  | succ m ih =>
    intro k j hj hk
    obtain ⟨k, rfl⟩ : ∃ k', k = k' + 1 := ⟨k - 1, by omega⟩
    have w1 : wrap64 ((j : Int) + 1) = ((j + 1 : Nat) : Int) := by rw [wrap64]; omega
    have l1 : (nt (midL r h j)).length = 8 := by rw [nt_length, midL_length hr hh j (by omega)]
    have l2 : (nt h).length = 8 := by rw [nt_length, hh]
    have := ih k (j + 1) (by omega) (by omega)
    rw [agoraref03_next.l1, if_pos (by omega), if_pos (by omega), l1, l2, if_pos (by omega), if_pos (by omega), w1, rd_nt, rd_nt, midL_get hr hh j (by omega), Int.toNat_natCast,
      show (((r.getD j 0 : Nat) : Int) + ((h.getD j 0 : Nat) : Int)) % 4294967296 = (((r.getD j 0 + h.getD j 0) % 4294967296 : Nat) : Int) by omega, nt_set, midL_set hr hh j (by omega)]
    exact this
theorem bs1_int (x : Nat) (hx : x < 4294967296) : Go.bits .xor .u32 (Go.bits .xor .u32 ((rotr x 6 : Nat) : Int) ((rotr x 11 : Nat) : Int)) ((rotr x 25 : Nat) : Int) = ((bs1 x : Nat) : Int) := by
  rw [xor_nat _ _ (rotr_lt _ _ hx) (rotr_lt _ _ hx), xor_nat _ _ (xor_lt _ _ (rotr_lt _ _ hx) (rotr_lt _ _ hx)) (rotr_lt _ _ hx)]; rfl
theorem bs0_int (x : Nat) (hx : x < 4294967296) : Go.bits .xor .u32 (Go.bits .xor .u32 ((rotr x 2 : Nat) : Int) ((rotr x 13 : Nat) : Int)) ((rotr x 22 : Nat) : Int) = ((bs0 x : Nat) : Int) := by
  rw [xor_nat _ _ (rotr_lt _ _ hx) (rotr_lt _ _ hx), xor_nat _ _ (xor_lt _ _ (rotr_lt _ _ hx) (rotr_lt _ _ hx)) (rotr_lt _ _ hx)]; rfl
theorem next_l0 (h b : List Nat) (hh : h.length = 8) (hlt : ∀ n ∈ h, n < 4294967296) (m : Nat) : ∀ k i, i + m = 64 → m + 20 ≤ k →
    agoraref03_next.l0 k (nt h) (nt (wTo b 64)) (nt kL) (nt (rTo h b i)) (i : Int) = some (nt (stepL h b)) := by
  induction m with
  | zero =>
    intro k i hi hk
    obtain ⟨k, rfl⟩ : ∃ k', k = k' + 1 := ⟨k - 1, by omega⟩
    obtain rfl : i = 64 := by omega
    have hr := rTo_length b hh 64
    have := next_l1 (rTo h b 64) h hr hh 8 k 0 (by omega) (by omega)
    rw [midL_end hr hh, show midL (rTo h b 64) h 0 = rTo h b 64 by rw [midL, List.take_zero, List.drop_zero, List.nil_append]] at this
    rw [agoraref03_next.l0, if_neg (by omega)]
    exact this
  | succ m ih =>
    intro k i hi hk
    obtain ⟨k, rfl⟩ : ∃ k', k = k' + 1 := ⟨k - 1, by omega⟩
    have hR := rTo_length b hh i
    have hRl := rTo_lt b hlt i
    have := ih k (i + 1) (by omega) (by omega)
    have w1 : wrap64 ((i : Int) + 1) = ((i + 1 : Nat) : Int) := by rw [wrap64]; omega
    have hW : (nt (wTo b 64)).length = 64 := by rw [nt_length, wTo_length]
    have hK : (nt kL).length = 64 := by rw [nt_length, kL_length]
    have rW := rd_nt (wTo b 64) i
    have rK := rd_nt kL i
    rw [show rTo h b (i + 1) = round (rTo h b i) (kL.getD i 0) ((wTo b 64).getD i 0) from rfl] at this
    generalize rTo h b i = v at hR hRl this ⊢
    generalize (wTo b 64).getD i 0 = ww at rW this
    generalize kL.getD i 0 = kk at rK this
    generalize nt (wTo b 64) = W at hW rW this ⊢
    generalize nt kL = K at hK rK this ⊢
    match v, hR with
    | [a0, a1, a2, a3, a4, a5, a6, a7], _ =>
    have l0 : a0 < 4294967296 := hRl a0 (by simp)
    have l1 : a1 < 4294967296 := hRl a1 (by simp)
    have l2 : a2 < 4294967296 := hRl a2 (by simp)
    have l3 : a3 < 4294967296 := hRl a3 (by simp)
    have l4 : a4 < 4294967296 := hRl a4 (by simp)
    have l5 : a5 < 4294967296 := hRl a5 (by simp)
    have l6 : a6 < 4294967296 := hRl a6 (by simp)
    have l7 : a7 < 4294967296 := hRl a7 (by simp)
    obtain ⟨X, hX⟩ : ∃ X, X = nt [a0, a1, a2, a3, a4, a5, a6, a7] := ⟨_, rfl⟩
    have hL : X.length = 8 := by rw [hX]; rfl
    have x0 : rd X 0 = (a0 : Int) := by rw [hX]; rfl
    have x1 : rd X 1 = (a1 : Int) := by rw [hX]; rfl
    have x2 : rd X 2 = (a2 : Int) := by rw [hX]; rfl
    have x3 : rd X 3 = (a3 : Int) := by rw [hX]; rfl
    have x4 : rd X 4 = (a4 : Int) := by rw [hX]; rfl
    have x5 : rd X 5 = (a5 : Int) := by rw [hX]; rfl
    have x6 : rd X 6 = (a6 : Int) := by rw [hX]; rfl
    have x7 : rd X 7 = (a7 : Int) := by rw [hX]; rfl
    have t6 : agoraref03_turn.f (a4 : Int) 6 = _ := turn_eq a4 6 l4 (by decide) (by decide)
    have t11 : agoraref03_turn.f (a4 : Int) 11 = _ := turn_eq a4 11 l4 (by decide) (by decide)
    have t25 : agoraref03_turn.f (a4 : Int) 25 = _ := turn_eq a4 25 l4 (by decide) (by decide)
    have t2 : agoraref03_turn.f (a0 : Int) 2 = _ := turn_eq a0 2 l0 (by decide) (by decide)
    have t13 : agoraref03_turn.f (a0 : Int) 13 = _ := turn_eq a0 13 l0 (by decide) (by decide)
    have t22 : agoraref03_turn.f (a0 : Int) 22 = _ := turn_eq a0 22 l0 (by decide) (by decide)
    have e1 := tOne_int a4 a5 a6 a7 kk ww l4 l5 l6
    have e2 := tTwo_int a0 a1 a2 l0 l1 l2
    rw [← sum_mod] at e1
    rw [← hX, agoraref03_next.l0, if_pos (by omega), if_pos (by omega), x4, t6, Option.bind_some, t11, Option.bind_some, t25, Option.bind_some, if_pos (by omega), if_pos (by omega), if_pos (by omega), if_pos (by omega), if_pos (by omega), if_pos (by omega), if_pos (by omega),
      x0, t2, Option.bind_some, t13, Option.bind_some, t22, Option.bind_some, if_pos (by omega), if_pos (by omega), if_pos (by omega), x7, x5, x6, x1, x2, x3, rW, rK, w1, bs1_int a4 l4, bs0_int a0 l0, e1, e2]
    rw [show [(((tOne a4 a5 a6 a7 kk ww : Nat) : Int) + ((tTwo a0 a1 a2 : Nat) : Int)) % 4294967296, (a0 : Int), (a1 : Int), (a2 : Int), ((a3 : Int) + ((tOne a4 a5 a6 a7 kk ww : Nat) : Int)) % 4294967296, (a4 : Int), (a5 : Int), (a6 : Int)] = nt (round [a0, a1, a2, a3, a4, a5, a6, a7] kk ww) from rfl]
    exact this
theorem next_at (h b : List Nat) (hh : h.length = 8) (hlt : ∀ n ∈ h, n < 4294967296) (hb : ∀ n ∈ b, n < 256) (hl : b.length = 64) (k : Nat) (hk : 200 ≤ k) : agoraref03_next.f k (nt h) (nt b) = some (nt (stepL h b)) := by
  have ha : agoraref03_adds.f = some (nt kL) := by rfl
  have h0 := next_l0 h b hh hlt 64 k 0 (by omega) (by omega)
  unfold agoraref03_next.f
  rw [words_at b hb hl k hk, Option.bind_some, ha, Option.bind_some, Option.bind_some, List.nil_append, if_pos (by rw [nt_length, hh]; simp)]
  exact h0
end Go.Proofs.Ytkhkppehdgkboaa.Sch
end Next_
section MkS_
namespace Go.Proofs.Ytkhkppehdgkboaa.Mk
set_option linter.unusedVariables false
/-- the way to an index, from the root down: whether it leads to the left -/
def wayF : Nat → Nat → Nat → List Bool
  | 0, _, _ => []
  | f + 1, i, n => if n ≤ 1 then [] else if i < spl n then true :: wayF f i (spl n) else false :: wayF f (i - spl n) (n - spl n)
def way (i n : Nat) : List Bool := wayF 64 i n
theorem spl_half (n f : Nat) (h : 2 ≤ n) (hf : n ≤ 2 ^ (f + 1)) : spl n ≤ 2 ^ f ∧ n - spl n ≤ 2 ^ f := by
  have h1 : 2 ^ Nat.log2 (n - 1) ≤ n - 1 := Nat.log2_self_le (by omega)
  have h2 : n - 1 < 2 ^ (Nat.log2 (n - 1) + 1) := Nat.lt_log2_self
  have h3 : Nat.log2 (n - 1) ≤ f := by
    have : Nat.log2 (n - 1) < f + 1 := (Nat.log2_lt (by omega)).2 (by omega)
    omega
  have h4 : 2 ^ Nat.log2 (n - 1) ≤ 2 ^ f := Nat.pow_le_pow_right (by decide) h3
  rw [Nat.pow_succ] at h2
  unfold spl
  exact ⟨h4, by omega⟩
theorem wayF_fuel : ∀ (f g i n : Nat), n ≤ 2 ^ f → n ≤ 2 ^ g → wayF f i n = wayF g i n
  | 0, 0, _, _, _, _ => rfl
  | 0, g + 1, i, n, h, _ => by rw [wayF, wayF, if_pos (by simpa using h)]
  | f + 1, 0, i, n, _, h => by rw [wayF, wayF, if_pos (by simpa using h)]
  | f + 1, g + 1, i, n, h1, h2 => by
    rw [wayF, wayF]
    by_cases h0 : n ≤ 1
    · rw [if_pos h0, if_pos h0]
    have a := spl_half n f (by omega) h1
    have b := spl_half n g (by omega) h2
    rw [if_neg h0, if_neg h0, wayF_fuel f g i _ a.1 b.1, wayF_fuel f g _ _ a.2 b.2]
theorem way_one (i n : Nat) (h : n ≤ 1) : way i n = [] := by rw [way, wayF, if_pos h]
theorem way_more (i n : Nat) (h : 2 ≤ n) (hn : n ≤ 2 ^ 64) : way i n = if i < spl n then true :: way i (spl n) else false :: way (i - spl n) (n - spl n) := by
  have a := spl_half n 63 h hn
  have p : (2 : Nat) ^ 63 ≤ 2 ^ 64 := by decide
  rw [way, wayF, if_neg (by omega), way, way, wayF_fuel 63 64 i (spl n) a.1 (by omega), wayF_fuel 63 64 (i - spl n) (n - spl n) a.2 (by omega)]
/-- the string whose digest is a node -/
def preB (a b : ByteArray) : ByteArray := ((⟨#[1]⟩ : ByteArray) ++ a) ++ b
theorem node_size (a b : ByteArray) : (nodeB a b).size = 32 := shaB_size _
/-- what a way and a path (from the root down) make of a leaf -/
def up (x : ByteArray) : List Bool → List ByteArray → ByteArray
  | b :: w, q :: r => if b = true then nodeB (up x w r) q else nodeB q (up x w r)
  | _, _ => x
/-- the strings that are digested on this way -/
def ins (x : ByteArray) : List Bool → List ByteArray → List ByteArray
  | b :: w, q :: r => if b = true then ins x w r ++ [preB (up x w r) q] else ins x w r ++ [preB q (up x w r)]
  | _, _ => []
/-- the root of the first leaves that results from a link -/
def upA (x : ByteArray) : List Bool → List ByteArray → ByteArray
  | b :: w, q :: r => if b = true then upA x w r else nodeB q (upA x w r)
  | _, _ => x
/-- the strings that are digested for a link -/
def insR (x : ByteArray) : List Bool → List ByteArray → List ByteArray
  | b :: w, q :: r => if b = true then insR x w r ++ [preB (up x w r) q] else insR x w r ++ [preB q (upA x w r), preB q (up x w r)]
  | _, _ => []
/-- the way of a link, and whether it leads to the left everywhere -/
def wayLF : Nat → Nat → Nat → List Bool × Bool
  | 0, _, _ => ([], true)
  | f + 1, m, n => if n ≤ m then ([], true) else if m ≤ spl n then (true :: (wayLF f m (spl n)).1, (wayLF f m (spl n)).2) else (false :: (wayLF f (m - spl n) (n - spl n)).1, false)
def wayL (m n : Nat) : List Bool × Bool := wayLF n m n
theorem wayLF_fuel : ∀ (f g m n : Nat), 1 ≤ m → n ≤ f → n ≤ g → wayLF f m n = wayLF g m n
  | 0, 0, _, _, _, _, _ => rfl
  | 0, g + 1, m, n, _, h, _ => by rw [wayLF, wayLF, if_pos (by omega)]
  | f + 1, 0, m, n, _, _, h => by rw [wayLF, wayLF, if_pos (by omega)]
  | f + 1, g + 1, m, n, hm, h1, h2 => by
    rw [wayLF, wayLF]
    by_cases h0 : n ≤ m
    · rw [if_pos h0, if_pos h0]
    have p1 := spl_pos n
    have p2 := spl_lt n (by omega)
    rw [if_neg h0, if_neg h0]
    by_cases h3 : m ≤ spl n
    · rw [if_pos h3, if_pos h3, wayLF_fuel f g m _ hm (by omega) (by omega)]
    · rw [if_neg h3, if_neg h3, wayLF_fuel f g (m - spl n) _ (by omega) (by omega) (by omega)]
theorem wayL_eq (m n : Nat) (h : n ≤ m) : wayL m n = ([], true) := by
  unfold wayL
  match n, h with
  | 0, _ => rw [wayLF]
  | n + 1, h => rw [wayLF, if_pos h]
theorem wayL_more (m n : Nat) (hm : 1 ≤ m) (h : m < n) : wayL m n = if m ≤ spl n then (true :: (wayL m (spl n)).1, (wayL m (spl n)).2) else (false :: (wayL (m - spl n) (n - spl n)).1, false) := by
  have p1 := spl_pos n
  have p2 := spl_lt n (by omega)
  unfold wayL
  match n, h, p1, p2 with
  | n + 1, h, p1, p2 =>
    rw [wayLF, if_neg (by omega)]
    by_cases h3 : m ≤ spl (n + 1)
    · rw [if_pos h3, if_pos h3, wayLF_fuel n (spl (n + 1)) m _ hm (by omega) (by omega)]
    · rw [if_neg h3, if_neg h3, wayLF_fuel n (n + 1 - spl (n + 1)) _ _ (by omega) (by omega) (by omega)]
theorem wayL_length : ∀ (k m n : Nat), 1 ≤ m → n ≤ k → (wayL m n).1.length ≤ n
  | k, m, n, hm, hk => by
    rcases Nat.lt_or_ge m n with h | h
    · have p1 := spl_pos n
      have p2 := spl_lt n (by omega)
      match k, hk with
      | 0, hk => omega
      | k + 1, hk =>
        rw [wayL_more m n hm h]
        by_cases h3 : m ≤ spl n
        · rw [if_pos h3]; have := wayL_length k m (spl n) hm (by omega); simp only [List.length_cons]; omega
        · rw [if_neg h3]; have := wayL_length k (m - spl n) (n - spl n) (by omega) (by omega); simp only [List.length_cons]; omega
    · rw [wayL_eq m n h]; simp
theorem take_at (l : List ByteArray) (k i : Nat) (h : i < k) : (l.take k).getD i ByteArray.empty = l.getD i ByteArray.empty := by
  rw [List.getD_eq_getElem?_getD, List.getD_eq_getElem?_getD, List.getElem?_take_of_lt h]
theorem drop_at (l : List ByteArray) (k i : Nat) (h : k ≤ i) : (l.drop k).getD (i - k) ByteArray.empty = l.getD i ByteArray.empty := by
  rw [List.getD_eq_getElem?_getD, List.getD_eq_getElem?_getD, List.getElem?_drop, show k + (i - k) = i by omega]
theorem path_way : ∀ (n : Nat) (l : List ByteArray) (i : Nat), l.length ≤ n → l.length ≤ 2 ^ 64 → i < l.length → (pathB l i).length = (way i l.length).length ∧ up (l.getD i ByteArray.empty) (way i l.length) (pathB l i).reverse = rootB l
  | n, l, i, hn, hb, hi => by
    rcases Nat.lt_or_ge l.length 2 with h2 | h2
    · rw [pathB_one l i h2, way_one _ _ (by omega), rootB_one l (by omega), show i = 0 by omega]; exact ⟨rfl, rfl⟩
    match n, hn with
    | 0, hn => omega
    | n + 1, hn =>
      have p1 := spl_pos l.length
      have p2 := spl_lt l.length h2
      rw [pathB_more l i h2, way_more _ _ h2 hb, rootB_more l h2]
      have lt_ : (l.take (spl l.length)).length = spl l.length := by rw [List.length_take]; omega
      have ld_ : (l.drop (spl l.length)).length = l.length - spl l.length := List.length_drop
      by_cases h3 : i < spl l.length
      · obtain ⟨a, b⟩ := path_way n (l.take (spl l.length)) i (by omega) (by omega) (by omega)
        rw [lt_] at a b
        rw [if_pos h3, if_pos h3, List.length_append, a, List.reverse_append]
        refine ⟨rfl, ?_⟩
        show up _ (true :: _) (rootB _ :: (pathB _ _).reverse) = _
        rw [up, if_pos rfl, ← take_at l _ i h3, b]
      · obtain ⟨a, b⟩ := path_way n (l.drop (spl l.length)) (i - spl l.length) (by omega) (by omega) (by omega)
        rw [ld_] at a b
        rw [if_neg h3, if_neg h3, List.length_append, a, List.reverse_append]
        refine ⟨rfl, ?_⟩
        show up _ (false :: _) (rootB _ :: (pathB _ _).reverse) = _
        rw [up, if_neg (by decide), ← drop_at l (spl l.length) i (by omega), b]
theorem spl_between (m n : Nat) (h1 : spl n < m) (h2 : m < n) : spl m = spl n := by
  have a1 : n - 1 < 2 ^ (Nat.log2 (n - 1) + 1) := Nat.lt_log2_self
  have h3 : 2 ^ Nat.log2 (n - 1) < m := h1
  have e : Nat.log2 (m - 1) = Nat.log2 (n - 1) := (Nat.log2_eq_iff (by have := @Nat.one_le_two_pow (Nat.log2 (n - 1)); omega)).2 ⟨by omega, by omega⟩
  unfold spl
  rw [e]
theorem link_way : ∀ (n : Nat) (l : List ByteArray) (m : Nat) (b : Bool), l.length ≤ n → 1 ≤ m → m ≤ l.length →
    ∃ (s : ByteArray) (rest : List ByteArray), linkB l m b = (if b = true ∧ (wayL m l.length).2 = true then rest else s :: rest) ∧ rest.length = (wayL m l.length).1.length ∧ ((wayL m l.length).2 = true → s = rootB (l.take m)) ∧
      upA s (wayL m l.length).1 rest.reverse = rootB (l.take m) ∧ up s (wayL m l.length).1 rest.reverse = rootB l
  | n, l, m, b, hn, h1, hm => by
    rcases Nat.eq_or_lt_of_le hm with he | hl
    · subst he
      rw [wayL_eq _ _ (Nat.le_refl _), linkB_eq, List.take_of_length_le (Nat.le_refl _)]
      refine ⟨rootB l, [], ?_, rfl, fun _ => rfl, rfl, rfl⟩
      cases b <;> rfl
    match n, hn with
    | 0, hn => omega
    | n + 1, hn =>
      have p1 := spl_pos l.length
      have p2 := spl_lt l.length (by omega)
      have lt_ : (l.take (spl l.length)).length = spl l.length := by rw [List.length_take]; omega
      have ld_ : (l.drop (spl l.length)).length = l.length - spl l.length := List.length_drop
      rw [linkB_more l m b (by omega) (by omega), wayL_more m _ h1 hl, rootB_more l (by omega)]
      by_cases h3 : m ≤ spl l.length
      · obtain ⟨s, rest, e1, e2, e3, e4, e5⟩ := link_way n (l.take (spl l.length)) m b (by omega) h1 (by omega)
        rw [lt_] at e1 e2 e3 e4 e5
        rw [List.take_take, Nat.min_eq_left h3] at e3 e4
        rw [if_pos h3, if_pos h3, e1]
        refine ⟨s, rest ++ [rootB (l.drop (spl l.length))], ?_, by rw [List.length_append, e2]; rfl, e3, ?_, ?_⟩
        · by_cases hb : b = true ∧ (wayL m (spl l.length)).2 = true
          · rw [if_pos hb, if_pos hb]
          · rw [if_neg hb, if_neg hb]; rfl
        · rw [List.reverse_append]
          show upA _ (true :: _) (rootB _ :: rest.reverse) = _
          rw [upA, if_pos rfl, e4]
        · rw [List.reverse_append]
          show up _ (true :: _) (rootB _ :: rest.reverse) = _
          rw [up, if_pos rfl, e5]
      · obtain ⟨s, rest, e1, e2, e3, e4, e5⟩ := link_way n (l.drop (spl l.length)) (m - spl l.length) false (by omega) (by omega) (by omega)
        rw [ld_] at e1 e2 e3 e4 e5
        rw [if_neg h3, if_neg h3, e1, if_neg (by simp)]
        have hsp : spl (l.take m).length = spl l.length := by rw [List.length_take, Nat.min_eq_left hm]; exact spl_between m _ (by omega) hl
        have hA : rootB (l.take m) = nodeB (rootB (l.take (spl l.length))) (rootB ((l.drop (spl l.length)).take (m - spl l.length))) := by
          rw [rootB_more (l.take m) (by rw [List.length_take]; omega), hsp, List.take_take, Nat.min_eq_left (by omega), List.drop_take]
        refine ⟨s, rest ++ [rootB (l.take (spl l.length))], by rw [if_neg (by simp)]; rfl, by rw [List.length_append, e2]; rfl, (fun h => by cases h), ?_, ?_⟩
        · rw [List.reverse_append, hA]
          show upA _ (false :: _) (rootB _ :: rest.reverse) = _
          rw [upA, if_neg (by decide), e4]
        · rw [List.reverse_append]
          show up _ (false :: _) (rootB _ :: rest.reverse) = _
          rw [up, if_neg (by decide), e5]
/-- two different strings of a list have the same digest -/
def HasClash (l : List ByteArray) : Prop := ∃ a ∈ l, ∃ b ∈ l, a ≠ b ∧ Sch.shaB a = Sch.shaB b
theorem HasClash.mono {l k : List ByteArray} (h : HasClash l) (hs : ∀ x ∈ l, x ∈ k) : HasClash k := by
  obtain ⟨a, ha, b, hb, h1, h2⟩ := h
  exact ⟨a, hs a ha, b, hs b hb, h1, h2⟩
theorem pre_inj {a b c d : ByteArray} (h : preB a b = preB c d) (hs : a.size = c.size) : a = c ∧ b = d := by
  have h1 : (preB a b).data.toList = (preB c d).data.toList := by rw [h]
  unfold preB at h1
  simp only [ByteArray.data_append, Array.toList_append] at h1
  rw [List.append_assoc, List.append_assoc] at h1
  have h2 := List.append_cancel_left h1
  have hl : a.data.toList.length = c.data.toList.length := by rw [Array.length_toList, Array.length_toList]; exact hs
  obtain ⟨h3, h4⟩ := List.append_inj h2 hl
  exact ⟨ByteArray.ext (Array.toList_inj.1 h3), ByteArray.ext (Array.toList_inj.1 h4)⟩
/-- all strings that are digested for the root of a list -/
def inputsF : Nat → List ByteArray → List ByteArray
  | 0, _ => []
  | n + 1, l => if l.length < 2 then [] else (inputsF n (l.take (spl l.length)) ++ inputsF n (l.drop (spl l.length))) ++ [preB (rootB (l.take (spl l.length))) (rootB (l.drop (spl l.length)))]
def inputsB (l : List ByteArray) : List ByteArray := inputsF (l.length + 1) l
theorem inputsF_fuel : ∀ (n m : Nat) (l : List ByteArray), l.length < n → l.length < m → inputsF n l = inputsF m l
  | 0, _, _, h, _ => by omega
  | _, 0, _, _, h => by omega
  | n + 1, m + 1, l, h1, h2 => by
    rw [inputsF, inputsF]
    by_cases h0 : l.length < 2
    · rw [if_pos h0, if_pos h0]
    rw [if_neg h0, if_neg h0]
    have p1 := spl_pos l.length
    have p2 := spl_lt l.length (by omega)
    rw [inputsF_fuel n m (l.take (spl l.length)) (by rw [List.length_take]; omega) (by rw [List.length_take]; omega), inputsF_fuel n m (l.drop (spl l.length)) (by rw [List.length_drop]; omega) (by rw [List.length_drop]; omega)]
theorem inputsB_one (l : List ByteArray) (h : l.length < 2) : inputsB l = [] := by rw [inputsB, inputsF, if_pos h]
theorem inputsB_more (l : List ByteArray) (h : 2 ≤ l.length) : inputsB l = (inputsB (l.take (spl l.length)) ++ inputsB (l.drop (spl l.length))) ++ [preB (rootB (l.take (spl l.length))) (rootB (l.drop (spl l.length)))] := by
  have p1 := spl_pos l.length
  have p2 := spl_lt l.length h
  rw [inputsB, inputsF, if_neg (by omega), inputsB, inputsB, inputsF_fuel l.length _ (l.take (spl l.length)) (by rw [List.length_take]; omega) (Nat.lt_succ_self _), inputsF_fuel l.length _ (l.drop (spl l.length)) (by rw [List.length_drop]; omega) (Nat.lt_succ_self _)]
theorem inputsB_length : ∀ (n : Nat) (l : List ByteArray), l.length ≤ n → 1 ≤ l.length → (inputsB l).length + 1 ≤ l.length
  | n, l, h, h1 => by
    rcases Nat.lt_or_ge l.length 2 with h2 | h2
    · rw [inputsB_one l h2]; simpa using h1
    match n, h with
    | 0, h => omega
    | n + 1, h =>
      have p1 := spl_pos l.length
      have p2 := spl_lt l.length h2
      rw [inputsB_more l h2]
      have a := inputsB_length n (l.take (spl l.length)) (by rw [List.length_take]; omega) (by rw [List.length_take]; omega)
      have c := inputsB_length n (l.drop (spl l.length)) (by rw [List.length_drop]; omega) (by rw [List.length_drop]; omega)
      rw [List.length_take] at a
      rw [List.length_drop] at c
      simp only [List.length_append, List.length_cons, List.length_nil]
      omega
theorem root_size32 (l : List ByteArray) (h : ∀ x ∈ l, x.size = 32) : (rootB l).size = 32 := by
  rcases Nat.lt_or_ge l.length 2 with h2 | h2
  · rcases Nat.eq_zero_or_pos l.length with h0 | h0
    · rw [rootB_nil l h0, shaB_size]
    · rw [rootB_one l (by omega), List.getD_eq_getElem?_getD, List.getElem?_eq_getElem h0]; exact h _ (List.getElem_mem h0)
  · rw [rootB_more l h2, node_size]
theorem up_size (x : ByteArray) (hx : x.size = 32) : ∀ (w : List Bool) (r : List ByteArray), (up x w r).size = 32
  | [], _ => by rw [up]; exact hx; simp
  | _ :: _, [] => by rw [up]; exact hx; simp
  | b :: w, q :: r => by rw [up]; split <;> exact node_size _ _
theorem upA_size (x : ByteArray) (hx : x.size = 32) : ∀ (w : List Bool) (r : List ByteArray), (upA x w r).size = 32
  | [], _ => by rw [upA]; exact hx; simp
  | _ :: _, [] => by rw [upA]; exact hx; simp
  | b :: w, q :: r => by rw [upA]; split; exact upA_size x hx w r; exact node_size _ _
/-- equal nodes: equal parts, or a clash -/
theorem node_inj {a b c d : ByteArray} (h : nodeB a b = nodeB c d) (hs : a.size = c.size) (L : List ByteArray) (h1 : preB a b ∈ L) (h2 : preB c d ∈ L) : (a = c ∧ b = d) ∨ HasClash L := by
  by_cases e : preB a b = preB c d
  · exact .inl (pre_inj e hs)
  · exact .inr ⟨_, h1, _, h2, e, h⟩
theorem binds : ∀ (n : Nat) (l : List ByteArray) (i : Nat) (x : ByteArray) (rp : List ByteArray), l.length ≤ n → l.length ≤ 2 ^ 64 → i < l.length → (∀ y ∈ l, y.size = 32) → x.size = 32 → (∀ y ∈ rp, y.size = 32) → rp.length = (way i l.length).length →
    up x (way i l.length) rp = rootB l → (l.getD i ByteArray.empty = x ∧ rp.reverse = pathB l i) ∨ HasClash (inputsB l ++ ins x (way i l.length) rp)
  | n, l, i, x, rp, hn, hb, hi, hl, hx, hr, hlen, h => by
    rcases Nat.lt_or_ge l.length 2 with h2 | h2
    · rw [way_one _ _ (by omega)] at hlen h
      rw [List.eq_nil_of_length_eq_zero hlen] at h ⊢
      rw [pathB_one l i h2]
      rw [rootB_one l (by omega), up] at h
      · exact .inl ⟨by rw [show i = 0 by omega]; exact h.symm, rfl⟩
      · simp
    match n, hn with
    | 0, hn => omega
    | n + 1, hn =>
      have p1 := spl_pos l.length
      have p2 := spl_lt l.length h2
      have lt_ : (l.take (spl l.length)).length = spl l.length := by rw [List.length_take]; omega
      have ld_ : (l.drop (spl l.length)).length = l.length - spl l.length := List.length_drop
      have st := root_size32 (l.take (spl l.length)) (fun y hy => hl y (List.mem_of_mem_take hy))
      rw [way_more _ _ h2 hb] at hlen h ⊢
      rw [pathB_more l i h2, inputsB_more l h2]
      rw [rootB_more l h2] at h
      by_cases h3 : i < spl l.length
      · rw [if_pos h3] at hlen h ⊢
        rw [if_pos h3]
        match rp, hr, hlen, h with
        | q :: r, hr, hlen, h =>
        rw [up, if_pos rfl] at h
        rw [ins, if_pos rfl]
        have su := up_size x hx (way i (spl l.length)) r
        rcases node_inj h (su.trans st.symm) (((inputsB (l.take (spl l.length)) ++ inputsB (l.drop (spl l.length))) ++ [preB (rootB (l.take (spl l.length))) (rootB (l.drop (spl l.length)))]) ++ (ins x (way i (spl l.length)) r ++ [preB (up x (way i (spl l.length)) r) q])) (by simp) (by simp) with ⟨e1, e2⟩ | hc
        · rcases binds n (l.take (spl l.length)) i x r (by omega) (by omega) (by omega) (fun y hy => hl y (List.mem_of_mem_take hy)) hx (fun y hy => hr y (List.mem_cons_of_mem _ hy)) (by rw [lt_]; simpa using hlen) (by rw [lt_]; exact e1) with ⟨e3, e4⟩ | hc
          · rw [take_at l _ i h3] at e3
            exact .inl ⟨e3, by rw [List.reverse_cons, e4, e2]⟩
          · rw [lt_] at hc
            exact .inr (hc.mono fun y hy => by simp only [List.mem_append] at hy ⊢; rcases hy with hy | hy <;> simp [hy])
        · exact .inr hc
      · rw [if_neg h3] at hlen h ⊢
        rw [if_neg h3]
        match rp, hr, hlen, h with
        | q :: r, hr, hlen, h =>
        rw [up, if_neg (by decide)] at h
        rw [ins, if_neg (by decide)]
        rcases node_inj h ((hr q (List.mem_cons_self ..)).trans st.symm) (((inputsB (l.take (spl l.length)) ++ inputsB (l.drop (spl l.length))) ++ [preB (rootB (l.take (spl l.length))) (rootB (l.drop (spl l.length)))]) ++ (ins x (way (i - spl l.length) (l.length - spl l.length)) r ++ [preB q (up x (way (i - spl l.length) (l.length - spl l.length)) r)])) (by simp) (by simp) with ⟨e2, e1⟩ | hc
        · rcases binds n (l.drop (spl l.length)) (i - spl l.length) x r (by omega) (by omega) (by omega) (fun y hy => hl y (List.mem_of_mem_drop hy)) hx (fun y hy => hr y (List.mem_cons_of_mem _ hy)) (by rw [ld_]; simpa using hlen) (by rw [ld_]; exact e1) with ⟨e3, e4⟩ | hc
          · rw [drop_at l _ i (by omega)] at e3
            exact .inl ⟨e3, by rw [List.reverse_cons, e4, e2]⟩
          · rw [ld_] at hc
            exact .inr (hc.mono fun y hy => by simp only [List.mem_append] at hy ⊢; rcases hy with hy | hy <;> simp [hy])
        · exact .inr hc
/-- two paths from the same index to the same root -/
theorem once : ∀ (w : List Bool) (x y root : ByteArray) (rp rq : List ByteArray), x.size = 32 → y.size = 32 → (∀ z ∈ rp, z.size = 32) → (∀ z ∈ rq, z.size = 32) → rp.length = w.length → rq.length = w.length → up x w rp = root → up y w rq = root →
    (x = y ∧ rp = rq) ∨ HasClash (ins x w rp ++ ins y w rq)
  | [], x, y, root, rp, rq, hx, hy, hp, hq, lp, lq, h1, h2 => by
    rw [List.eq_nil_of_length_eq_zero lp, List.eq_nil_of_length_eq_zero lq] at *
    rw [up] at h1 h2
    · exact .inl ⟨h1.trans h2.symm, rfl⟩
    · simp
    · simp
  | b :: w, x, y, root, [], rq, hx, hy, hp, hq, lp, lq, h1, h2 => by simp at lp
  | b :: w, x, y, root, _ :: _, [], hx, hy, hp, hq, lp, lq, h1, h2 => by simp at lq
  | b :: w, x, y, root, p :: rp, q :: rq, hx, hy, hp, hq, lp, lq, h1, h2 => by
    rw [up] at h1 h2
    rw [ins, ins]
    have sx := up_size x hx w rp
    have sy := up_size y hy w rq
    have s1 := hp p (List.mem_cons_self ..)
    have s2 := hq q (List.mem_cons_self ..)
    have ih := fun e => once w x y (up x w rp) rp rq hx hy (fun z hz => hp z (List.mem_cons_of_mem _ hz)) (fun z hz => hq z (List.mem_cons_of_mem _ hz)) (by simpa using lp) (by simpa using lq) rfl e
    cases b
    · rw [if_neg (by decide)] at h1 h2 ⊢
      rw [if_neg (by decide)]
      rcases node_inj (h1.trans h2.symm) (s1.trans s2.symm) ((ins x w rp ++ [preB p (up x w rp)]) ++ (ins y w rq ++ [preB q (up y w rq)])) (by simp) (by simp) with ⟨e1, e2⟩ | hc
      · rcases ih e2.symm with ⟨a, c⟩ | hc
        · exact .inl ⟨a, by rw [e1, c]⟩
        · exact .inr (hc.mono fun z hz => by simp only [List.mem_append] at hz ⊢; rcases hz with hz | hz <;> simp [hz])
      · exact .inr hc
    · rw [if_pos rfl] at h1 h2 ⊢
      rw [if_pos rfl]
      rcases node_inj (h1.trans h2.symm) (sx.trans sy.symm) ((ins x w rp ++ [preB (up x w rp) p]) ++ (ins y w rq ++ [preB (up y w rq) q])) (by simp) (by simp) with ⟨e1, e2⟩ | hc
      · rcases ih e1.symm with ⟨a, c⟩ | hc
        · exact .inl ⟨a, by rw [e2, c]⟩
        · exact .inr (hc.mono fun z hz => by simp only [List.mem_append] at hz ⊢; rcases hz with hz | hz <;> simp [hz])
      · exact .inr hc
/-- equal roots of lists of the same length -/
theorem roots_inj : ∀ (n : Nat) (a b : List ByteArray), a.length ≤ n → a.length = b.length → (∀ y ∈ a, y.size = 32) → (∀ y ∈ b, y.size = 32) → rootB a = rootB b → a = b ∨ HasClash (inputsB a ++ inputsB b)
  | n, a, b, hn, hl, ha, hb, h => by
    rcases Nat.lt_or_ge a.length 2 with h2 | h2
    · rcases Nat.eq_zero_or_pos a.length with h0 | h0
      · exact .inl ((List.eq_nil_of_length_eq_zero h0).trans (List.eq_nil_of_length_eq_zero (hl.symm.trans h0)).symm)
      · obtain ⟨x, rfl⟩ := List.length_eq_one_iff.1 (show a.length = 1 by omega)
        obtain ⟨y, rfl⟩ := List.length_eq_one_iff.1 hl.symm
        rw [rootB_one _ rfl, rootB_one _ rfl] at h
        exact .inl (congrArg (fun z => [z]) h)
    match n, hn with
    | 0, hn => omega
    | n + 1, hn =>
      have p1 := spl_pos a.length
      have p2 := spl_lt a.length h2
      rw [rootB_more a h2, rootB_more b (by omega), ← hl] at h
      rw [inputsB_more a h2, inputsB_more b (by omega), ← hl]
      generalize spl a.length = k at *
      have st := root_size32 (a.take k) (fun y hy => ha y (List.mem_of_mem_take hy))
      have st' := root_size32 (b.take k) (fun y hy => hb y (List.mem_of_mem_take hy))
      rcases node_inj h (st.trans st'.symm) (((inputsB (a.take k) ++ inputsB (a.drop k)) ++ [preB (rootB (a.take k)) (rootB (a.drop k))]) ++ ((inputsB (b.take k) ++ inputsB (b.drop k)) ++ [preB (rootB (b.take k)) (rootB (b.drop k))])) (by simp) (by simp) with ⟨e1, e2⟩ | hc
      · rcases roots_inj n (a.take k) (b.take k) (by rw [List.length_take]; omega) (by rw [List.length_take, List.length_take, hl]) (fun y hy => ha y (List.mem_of_mem_take hy)) (fun y hy => hb y (List.mem_of_mem_take hy)) e1 with e3 | hc
        · rcases roots_inj n (a.drop k) (b.drop k) (by rw [List.length_drop]; omega) (by rw [List.length_drop, List.length_drop, hl]) (fun y hy => ha y (List.mem_of_mem_drop hy)) (fun y hy => hb y (List.mem_of_mem_drop hy)) e2 with e4 | hc
          · exact .inl (by rw [← List.take_append_drop k a, e3, e4, List.take_append_drop])
          · exact .inr (hc.mono fun y hy => by simp only [List.mem_append] at hy ⊢; rcases hy with hy | hy <;> simp [hy])
        · exact .inr (hc.mono fun y hy => by simp only [List.mem_append] at hy ⊢; rcases hy with hy | hy <;> simp [hy])
      · exact .inr hc
theorem grows : ∀ (n : Nat) (a b : List ByteArray) (s : ByteArray) (rl : List ByteArray), b.length ≤ n → 1 ≤ a.length → a.length ≤ b.length → (∀ y ∈ a, y.size = 32) → (∀ y ∈ b, y.size = 32) → s.size = 32 → (∀ y ∈ rl, y.size = 32) → rl.length = (wayL a.length b.length).1.length →
    upA s (wayL a.length b.length).1 rl = rootB a → up s (wayL a.length b.length).1 rl = rootB b → a = b.take a.length ∨ HasClash ((inputsB a ++ inputsB b) ++ insR s (wayL a.length b.length).1 rl)
  | n, a, b, s, rl, hn, h1, hab, ha, hb, hs, hr, hlen, hA, hB => by
    rcases Nat.eq_or_lt_of_le hab with he | hl
    · rw [wayL_eq _ _ (by omega)] at hlen hA hB
      rw [List.eq_nil_of_length_eq_zero hlen] at hA hB
      rw [upA] at hA
      · rw [up] at hB
        · rcases roots_inj a.length a b (Nat.le_refl _) he ha hb (hA.symm.trans hB) with e | hc
          · exact .inl (by rw [he, List.take_of_length_le (Nat.le_refl _)]; exact e)
          · exact .inr (hc.mono fun y hy => List.mem_append_left _ hy)
        · simp
      · simp
    match n, hn with
    | 0, hn => omega
    | n + 1, hn =>
      have p1 := spl_pos b.length
      have p2 := spl_lt b.length (by omega)
      have lt_ : (b.take (spl b.length)).length = spl b.length := by rw [List.length_take]; omega
      have ld_ : (b.drop (spl b.length)).length = b.length - spl b.length := List.length_drop
      have hbt : ∀ y ∈ b.take (spl b.length), y.size = 32 := fun y hy => hb y (List.mem_of_mem_take hy)
      have hbd : ∀ y ∈ b.drop (spl b.length), y.size = 32 := fun y hy => hb y (List.mem_of_mem_drop hy)
      have st := root_size32 _ hbt
      rw [wayL_more _ _ h1 hl] at hlen hA hB ⊢
      rw [inputsB_more b (by omega)]
      rw [rootB_more b (by omega)] at hB
      by_cases h3 : a.length ≤ spl b.length
      · rw [if_pos h3] at hlen hA hB ⊢
        match rl, hr, hlen, hA, hB with
        | q :: r, hr, hlen, hA, hB =>
        simp only [upA, up, insR, if_true] at hA hB ⊢
        have su := up_size s hs (wayL a.length (spl b.length)).1 r
        rcases node_inj hB (su.trans st.symm) ((inputsB a ++ ((inputsB (b.take (spl b.length)) ++ inputsB (b.drop (spl b.length))) ++ [preB (rootB (b.take (spl b.length))) (rootB (b.drop (spl b.length)))])) ++ (insR s (wayL a.length (spl b.length)).1 r ++ [preB (up s (wayL a.length (spl b.length)).1 r) q])) (by simp) (by simp) with ⟨e1, e2⟩ | hc
        · have ih := grows n a (b.take (spl b.length)) s r (by omega) h1 (by omega) ha hbt hs (fun y hy => hr y (List.mem_cons_of_mem _ hy))
          rw [lt_] at ih
          rcases ih (by simpa using hlen) hA e1 with e | hc
          · rw [List.take_take, Nat.min_eq_left h3] at e
            exact .inl e
          · exact .inr (hc.mono fun y hy => by simp only [List.mem_append] at hy ⊢; rcases hy with (hy | hy) | hy <;> simp [hy])
        · exact .inr hc
      · rw [if_neg h3] at hlen hA hB ⊢
        match rl, hr, hlen, hA, hB with
        | q :: r, hr, hlen, hA, hB =>
        have hsp : spl a.length = spl b.length := spl_between _ _ (by omega) hl
        have lta : (a.take (spl b.length)).length = spl b.length := by rw [List.length_take]; omega
        have lda : (a.drop (spl b.length)).length = a.length - spl b.length := List.length_drop
        have hat : ∀ y ∈ a.take (spl b.length), y.size = 32 := fun y hy => ha y (List.mem_of_mem_take hy)
        have had : ∀ y ∈ a.drop (spl b.length), y.size = 32 := fun y hy => ha y (List.mem_of_mem_drop hy)
        have sa := root_size32 _ hat
        have sq := hr q (List.mem_cons_self ..)
        rw [rootB_more a (by omega), hsp] at hA
        rw [inputsB_more a (by omega), hsp]
        simp only [upA, up, insR, Bool.false_eq_true, if_false] at hA hB ⊢
        generalize hL : (((inputsB (a.take (spl b.length)) ++ inputsB (a.drop (spl b.length))) ++ [preB (rootB (a.take (spl b.length))) (rootB (a.drop (spl b.length)))]) ++ ((inputsB (b.take (spl b.length)) ++ inputsB (b.drop (spl b.length))) ++ [preB (rootB (b.take (spl b.length))) (rootB (b.drop (spl b.length)))])) ++ (insR s (wayL (a.length - spl b.length) (b.length - spl b.length)).1 r ++ [preB q (upA s (wayL (a.length - spl b.length) (b.length - spl b.length)).1 r), preB q (up s (wayL (a.length - spl b.length) (b.length - spl b.length)).1 r)]) = L
        rcases node_inj hA (sq.trans sa.symm) L (by rw [← hL]; simp) (by rw [← hL]; simp) with ⟨a1, a2⟩ | hc
        · rcases node_inj hB (sq.trans st.symm) L (by rw [← hL]; simp) (by rw [← hL]; simp) with ⟨b1, b2⟩ | hc
          · rcases roots_inj _ (a.take (spl b.length)) (b.take (spl b.length)) (Nat.le_refl _) (lta.trans lt_.symm) hat hbt (a1.symm.trans b1) with e | hc
            · have ih := grows n (a.drop (spl b.length)) (b.drop (spl b.length)) s r (by omega) (by omega) (by omega) had hbd hs (fun y hy => hr y (List.mem_cons_of_mem _ hy))
              rw [ld_, lda] at ih
              rcases ih (by simpa using hlen) a2 b2 with e' | hc
              · refine .inl ?_
                have : a.length = spl b.length + (a.length - spl b.length) := by omega
                rw [this, List.take_add, ← e', ← e, List.take_append_drop]
              · exact .inr (hc.mono fun y hy => by rw [← hL]; simp only [List.mem_append] at hy ⊢; rcases hy with (hy | hy) | hy <;> simp [hy])
            · exact .inr (hc.mono fun y hy => by rw [← hL]; simp only [List.mem_append] at hy ⊢; rcases hy with hy | hy <;> simp [hy])
          · exact .inr hc
        · exact .inr hc
end Go.Proofs.Ytkhkppehdgkboaa.Mk
end MkS_
section MkN_
namespace Go.Proofs.Ytkhkppehdgkboaa.Mk
open Go.RowKit Go.Proofs.Ytkhkppehdgkboaa.P Go.Proofs.YtkhkppehdgkboaaW.PrintWords Go.Proofs.YtkhkppehdgkboaaW.PrintLast Go.Proofs.YtkhkppehdgkboaaW.PrintMore
set_option linter.unusedVariables false
def lenT : ByteArray := ⟨#[0, 1, 2, 2, 3, 3, 3, 3, 4, 4, 4, 4, 4, 4, 4, 4, 5, 5, 5, 5, 5, 5, 5, 5, 5, 5, 5, 5, 5, 5, 5, 5, 6, 6, 6, 6, 6, 6, 6, 6, 6, 6, 6, 6, 6, 6, 6, 6, 6, 6, 6, 6, 6, 6, 6, 6, 6, 6, 6, 6, 6, 6, 6, 6, 7, 7, 7, 7, 7, 7, 7, 7, 7, 7, 7, 7, 7, 7, 7, 7, 7, 7, 7, 7, 7, 7, 7, 7, 7, 7, 7, 7, 7, 7, 7, 7, 7, 7, 7, 7, 7, 7, 7, 7, 7, 7, 7, 7, 7, 7, 7, 7, 7, 7, 7, 7, 7, 7, 7, 7, 7, 7, 7, 7, 7, 7, 7, 7, 8, 8, 8, 8, 8, 8, 8, 8, 8, 8, 8, 8, 8, 8, 8, 8, 8, 8, 8, 8, 8, 8, 8, 8, 8, 8, 8, 8, 8, 8, 8, 8, 8, 8, 8, 8, 8, 8, 8, 8, 8, 8, 8, 8, 8, 8, 8, 8, 8, 8, 8, 8, 8, 8, 8, 8, 8, 8, 8, 8, 8, 8, 8, 8, 8, 8, 8, 8, 8, 8, 8, 8, 8, 8, 8, 8, 8, 8, 8, 8, 8, 8, 8, 8, 8, 8, 8, 8, 8, 8, 8, 8, 8, 8, 8, 8, 8, 8, 8, 8, 8, 8, 8, 8, 8, 8, 8, 8, 8, 8, 8, 8, 8, 8, 8, 8, 8, 8, 8, 8, 8, 8, 8, 8, 8, 8, 8, 8]⟩
set_option maxRecDepth 100000 in
theorem len_byte : ∀ b : Nat, b < 256 → 0 < b → wrap64 (bt lenT (b : Int)) = ((Nat.log2 b + 1 : Nat) : Int) := by decide +kernel
theorem log2_div (x k : Nat) (h : 2 ^ k ≤ x) : Nat.log2 (x / 2 ^ k) + k = Nat.log2 x := by
  have hp : 0 < 2 ^ k := Nat.two_pow_pos k
  have hx : x / 2 ^ k ≠ 0 := by have := Nat.div_pos h hp; omega
  have h1 : 2 ^ Nat.log2 (x / 2 ^ k) ≤ x / 2 ^ k := Nat.log2_self_le hx
  have h2 : x / 2 ^ k < 2 ^ (Nat.log2 (x / 2 ^ k) + 1) := Nat.lt_log2_self
  refine ((Nat.log2_eq_iff (by omega)).2 ⟨?_, ?_⟩).symm
  · rw [Nat.pow_add]; exact (Nat.le_div_iff_mul_le hp).1 h1
  · rw [show Nat.log2 (x / 2 ^ k) + k + 1 = (Nat.log2 (x / 2 ^ k) + 1) + k by omega, Nat.pow_add]; exact (Nat.div_lt_iff_lt_mul hp).1 h2
theorem wrap_nat (n : Nat) (h : n < 9223372036854775808) : wrap64 (n : Int) = (n : Int) := by rw [wrap64]; omega
theorem log2_lt32 (x : Nat) (h : x < 4294967296) (h0 : 0 < x) : Nat.log2 x < 32 := (Nat.log2_lt (by omega)).2 h
theorem len_j0 (k x y : Nat) (hk : 1 ≤ k) (hx : x < 4294967296) (h0 : 0 < x) (hy : y ≤ 32) : bits_Len64.j0 k (x : Int) (y : Int) = some ((y + Nat.log2 x + 1 : Nat) : Int) := by
  obtain ⟨k, rfl⟩ : ∃ k', k = k' + 1 := ⟨k - 1, by omega⟩
  have hlog := log2_lt32 x hx h0
  rw [bits_Len64.j0]
  rw [show (⟨#[0, 1, 2, 2, 3, 3, 3, 3, 4, 4, 4, 4, 4, 4, 4, 4, 5, 5, 5, 5, 5, 5, 5, 5, 5, 5, 5, 5, 5, 5, 5, 5, 6, 6, 6, 6, 6, 6, 6, 6, 6, 6, 6, 6, 6, 6, 6, 6, 6, 6, 6, 6, 6, 6, 6, 6, 6, 6, 6, 6, 6, 6, 6, 6, 7, 7, 7, 7, 7, 7, 7, 7, 7, 7, 7, 7, 7, 7, 7, 7, 7, 7, 7, 7, 7, 7, 7, 7, 7, 7, 7, 7, 7, 7, 7, 7, 7, 7, 7, 7, 7, 7, 7, 7, 7, 7, 7, 7, 7, 7, 7, 7, 7, 7, 7, 7, 7, 7, 7, 7, 7, 7, 7, 7, 7, 7, 7, 7, 8, 8, 8, 8, 8, 8, 8, 8, 8, 8, 8, 8, 8, 8, 8, 8, 8, 8, 8, 8, 8, 8, 8, 8, 8, 8, 8, 8, 8, 8, 8, 8, 8, 8, 8, 8, 8, 8, 8, 8, 8, 8, 8, 8, 8, 8, 8, 8, 8, 8, 8, 8, 8, 8, 8, 8, 8, 8, 8, 8, 8, 8, 8, 8, 8, 8, 8, 8, 8, 8, 8, 8, 8, 8, 8, 8, 8, 8, 8, 8, 8, 8, 8, 8, 8, 8, 8, 8, 8, 8, 8, 8, 8, 8, 8, 8, 8, 8, 8, 8, 8, 8, 8, 8, 8, 8, 8, 8, 8, 8, 8, 8, 8, 8, 8, 8, 8, 8, 8, 8, 8, 8, 8, 8, 8, 8, 8, 8]⟩ : ByteArray) = lenT from rfl]
  by_cases h1 : 65536 ≤ x
  · rw [if_pos (by omega)]
    by_cases h2 : 16777216 ≤ x
    · rw [if_pos (by omega)]
      have hd := log2_div x 24 h2
      have hb : ((((x : Int) / 65536) / 256) % 256) = ((x / 2 ^ 24 : Nat) : Int) := by omega
      rw [hb, if_pos (by omega), if_pos (by omega), len_byte _ (by omega) (by omega)]
      generalize Nat.log2 (x / 2 ^ 24) = g at hd ⊢
      congr 1
      rw [show wrap64 ((y : Int) + 16) = ((y + 16 : Nat) : Int) by rw [wrap64]; omega, show wrap64 (((y + 16 : Nat) : Int) + 8) = ((y + 24 : Nat) : Int) by rw [wrap64]; omega, wrap64]
      omega
    · rw [if_neg (by omega)]
      have hd := log2_div x 16 h1
      have hb : (((x : Int) / 65536) % 256) = ((x / 2 ^ 16 : Nat) : Int) := by omega
      rw [hb, if_pos (by omega), if_pos (by omega), len_byte _ (by omega) (by omega)]
      generalize Nat.log2 (x / 2 ^ 16) = g at hd ⊢
      congr 1
      rw [show wrap64 ((y : Int) + 16) = ((y + 16 : Nat) : Int) by rw [wrap64]; omega, wrap64]
      omega
  · rw [if_neg (by omega)]
    by_cases h2 : 256 ≤ x
    · rw [if_pos (by omega)]
      have hd := log2_div x 8 h2
      have hb : (((x : Int) / 256) % 256) = ((x / 2 ^ 8 : Nat) : Int) := by omega
      rw [hb, if_pos (by omega), if_pos (by omega), len_byte _ (by omega) (by omega)]
      generalize Nat.log2 (x / 2 ^ 8) = g at hd ⊢
      congr 1
      rw [show wrap64 ((y : Int) + 8) = ((y + 8 : Nat) : Int) by rw [wrap64]; omega, wrap64]
      omega
    · rw [if_neg (by omega)]
      have hb : ((x : Int) % 256) = ((x : Nat) : Int) := by omega
      rw [hb, if_pos (by omega), if_pos (by omega), len_byte _ (by omega) (by omega)]
      generalize Nat.log2 x = g at hlog ⊢
      congr 1
      rw [wrap64]
      omega
theorem len_at (k x : Nat) (hk : 1 ≤ k) (hx : x < 18446744073709551616) (h0 : 0 < x) : bits_Len.f k (x : Int) = some ((Nat.log2 x + 1 : Nat) : Int) := by
  rw [bits_Len.f, bits_Len64.f]
  by_cases h1 : 4294967296 ≤ x
  · have hd := log2_div x 32 h1
    rw [if_pos (by omega), show ((x : Int) / 4294967296) = ((x / 2 ^ 32 : Nat) : Int) by omega, show (32 : Int) = ((32 : Nat) : Int) from rfl, len_j0 k _ 32 hk (by omega) (by omega) (Nat.le_refl _), Option.bind_some, ← hd]
    congr 2
    omega
  · rw [if_neg (by omega), show (0 : Int) = ((0 : Nat) : Int) from rfl, len_j0 k x 0 hk (by omega) h0 (by omega), Option.bind_some]
    congr 2
    omega
theorem shl_one : ∀ j : Nat, j < 63 → shl .i64 1 (wrap64 (((j + 1 : Nat) : Int) - 1)) = ((2 ^ j : Nat) : Int) ∧ 0 ≤ wrap64 (((j + 1 : Nat) : Int) - 1) := by decide +kernel
theorem split_at (k n : Nat) (hk : 1 ≤ k) (h2 : 2 ≤ n) (hn : n < 9223372036854775808) : merkle_split.f k (n : Int) = some ((spl n : Nat) : Int) := by
  have hw : IntKind.u64.wrap (wrap64 ((n : Int) - 1)) = ((n - 1 : Nat) : Int) := by
    rw [show wrap64 ((n : Int) - 1) = ((n - 1 : Nat) : Int) by rw [wrap64]; omega]
    simp only [IntKind.wrap, IntKind.bits, IntKind.signed]
    simp
    omega
  have hl : Nat.log2 (n - 1) < 63 := (Nat.log2_lt (by omega)).2 (by omega)
  obtain ⟨a, b⟩ := shl_one _ hl
  rw [merkle_split.f, hw, len_at k _ hk (by omega) (by omega), Option.bind_some, if_pos b, a]
  rfl
end Go.Proofs.Ytkhkppehdgkboaa.Mk
end MkN_
