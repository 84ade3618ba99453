/- Functions of the given program as plain Lean functions, each with the proof that a call of it comes to what that function says (no conditions beside those in the statements). Written by a program of the session (myprint.py). -/
import Derived.Test.YtloieoneckjjeaaP0
import Derived.Test.YtloieoneckjjeaaP3
namespace Go.Proofs.Ytloieoneckjjeaa.P
open Go.RowKit Go.Proofs.YtloieoneckjjeaaW.PrintWords Go.Proofs.YtloieoneckjjeaaW.PrintLast Go.Proofs.YtloieoneckjjeaaW.PrintMore
attribute [local go_sem] max2_int min2_int max_two min_two max_three min_three max_four min_four   -- for this text's walks alone
set_option linter.unusedVariables false
set_option linter.unusedSimpArgs false
private theorem isEmpty_ne_ (l : List UInt8) : (l != []) = !l.isEmpty := by cases l <;> rfl
private theorem bytes_gtr_ : ∀ a b : List UInt8, (!(Op.bytesLess a b || a == b)) = Op.bytesLess b a
  | [], [] => rfl
  | [], _ :: _ => rfl
  | _ :: _, [] => rfl
  | a :: x, b :: y => by
    have ih := bytes_gtr_ x y
    rcases Nat.lt_trichotomy a.toNat b.toNat with h | h | h
    · have h1 : a < b := UInt8.lt_iff_toNat_lt.2 h
      have h2 : ¬ b < a := fun e => by have := UInt8.lt_iff_toNat_lt.1 e; omega
      have h3 : (b == a) = false := by simp only [beq_eq_false_iff_ne]; rintro rfl; omega
      simp [Op.bytesLess, h1, h2, h3]
    · obtain rfl := UInt8.toNat_inj.1 h
      have h2 : ¬ a < a := fun e => by have := UInt8.lt_iff_toNat_lt.1 e; omega
      simp [Op.bytesLess, h2] at ih ⊢
      exact ih
    · have h1 : b < a := UInt8.lt_iff_toNat_lt.2 h
      have h2 : ¬ a < b := fun e => by have := UInt8.lt_iff_toNat_lt.1 e; omega
      have h3 : (a == b) = false := by simp only [beq_eq_false_iff_ne]; rintro rfl; omega
      simp [Op.bytesLess, h1, h2, h3]
private theorem string_gtr_ (t : TypeId) (a b : ByteArray) : binOp .gtr t (.string a) (.string b) = pure (.bool (Op.bytesLess b.toList a.toList)) := by rw [← bytes_gtr_]; simp [binOp, Op.stringOp]
attribute [local go_sem high] string_gtr_

/-! ### agoralaw03_SumNumbers: function 8 -/
mutual
def agoralaw03_SumNumbers.j0 : Nat → ByteArray → ByteArray → ByteArray → Bool → Int → Bool → Option (Bool)
  | 0, _, _, _, _, _, _ => none
  | k + 1, x0, x1, x2, x7, x8, x21 => if x21 = true then (none) else (agoralaw03_SumNumbers.l0 k x1 x2 x7 x8 x0)
def agoralaw03_SumNumbers.l0 : Nat → ByteArray → ByteArray → Bool → Int → ByteArray → Option (Bool)
  | 0, _, _, _, _, _ => none
  | k + 1, x1, x2, x7, x8, x9 => if (x9.size : Int) < 8 then (if x9.size + 1 ≤ 9223372036854775807 then (agoralaw03_SumNumbers.l0 k x1 x2 x7 x8 (x9 ++ (⟨#[0]⟩ : ByteArray))) else (none)) else (agoralaw03_SumNumbers.l1 k x1 x2 x7 x8 x9 x1)
def agoralaw03_SumNumbers.l1 : Nat → ByteArray → ByteArray → Bool → Int → ByteArray → ByteArray → Option (Bool)
  | 0, _, _, _, _, _, _ => none
  | k + 1, x1, x2, x7, x8, x9, x10 => if (x10.size : Int) < 8 then (if x10.size + 1 ≤ 9223372036854775807 then (agoralaw03_SumNumbers.l1 k x1 x2 x7 x8 x9 (x10 ++ (⟨#[0]⟩ : ByteArray))) else (none)) else (if 0 ≤ 8 then (if 8 ≤ (x9.size : Int) then (if 8 ≤ (x10.size : Int) then (if (x9.extract 0 8).size + x2.size ≤ 9223372036854775807 then ((sum_Num.f k ((x9.extract 0 8) ++ x2)).bind fun t263 => (if t263 = x8 then (if (Op.bytesLess ((x9.extract 0 8).toList) ((x10.extract 0 8).toList)) = true then ((sum_Num.f k x1).bind fun t264 => (if x8 > t264 then (agoralaw03_SumNumbers.j3 k x7 x8 (x9.extract 0 8) true) else (if (Op.bytesLess ((x10.extract 0 8).toList) ((x9.extract 0 8).toList)) = true then (agoralaw03_SumNumbers.j3 k x7 x8 (x9.extract 0 8) (decide (x8 < t264))) else (agoralaw03_SumNumbers.j3 k x7 x8 (x9.extract 0 8) false)))) else (if (Op.bytesLess ((x10.extract 0 8).toList) ((x9.extract 0 8).toList)) = true then ((sum_Num.f k x1).bind fun t265 => (agoralaw03_SumNumbers.j3 k x7 x8 (x9.extract 0 8) (decide (x8 < t265)))) else (agoralaw03_SumNumbers.j3 k x7 x8 (x9.extract 0 8) false))) else (agoralaw03_SumNumbers.j3 k x7 x8 (x9.extract 0 8) true))) else (none)) else (none)) else (none)) else (none))
def agoralaw03_SumNumbers.j3 : Nat → Bool → Int → ByteArray → Bool → Option (Bool)
  | 0, _, _, _, _ => none
  | k + 1, x7, x8, x9, x65 => if x65 = true then (none) else (agoralaw03_SumNumbers.l2 k x7 x8 x9 ([] : List Int) 0)
def agoralaw03_SumNumbers.l2 : Nat → Bool → Int → ByteArray → List Int → Int → Option (Bool)
  | 0, _, _, _, _, _ => none
  | k + 1, x7, x8, x9, x11, x12 => if x12 < 8 then (if 0 ≤ (wrap64 (56 - (wrap64 (8 * x12)))) then (if x11.length < 140737488355328 then (agoralaw03_SumNumbers.l2 k x7 x8 x9 (x11 ++ [(shr .u64 (IntKind.u64.wrap ((IntKind.u64.wrap (x8)) * 8)) (wrap64 (56 - (wrap64 (8 * x12))))) % 256]) (wrap64 (x12 + 1))) else (none)) else (none)) else (if x7 = true then (if 7 ≤ (x11.length : Int) then (if 0 ≤ 7 then (if 7 ≤ (x9.size : Int) then (if (strOfNums (x11.take 7)).toList = (x9.extract 0 7).toList then (if 7 < (x11.length : Int) then (if 7 < (x9.size : Int) then (some ((rd x11 7) == ((((Int.tdiv (bt x9 7) 8) % 256) * 8) % 256))) else (none)) else (none)) else (none)) else (none)) else (none)) else (none)) else (none))
end
def agoralaw03_SumNumbers.f (k : Nat) (a0 : ByteArray) (a1 : ByteArray) (a2 : ByteArray) : Option (Bool) := (agoralaw03_small.f k).bind fun t261 => ((sum_Num.f k a0).bind fun t262 => (if t262 < 0 then (agoralaw03_SumNumbers.j0 k a0 a1 a2 t261 t262 true) else (agoralaw03_SumNumbers.j0 k a0 a1 a2 t261 t262 (decide (t262 > 2305843009213693951)))))
theorem agoralaw03_SumNumbers.mono_l : ∀ k, (∀ y0 y1 y2 y3 y4 y5, LeO (agoralaw03_SumNumbers.j0 k y0 y1 y2 y3 y4 y5) (agoralaw03_SumNumbers.j0 (k + 1) y0 y1 y2 y3 y4 y5)) ∧ (∀ y0 y1 y2 y3 y4, LeO (agoralaw03_SumNumbers.l0 k y0 y1 y2 y3 y4) (agoralaw03_SumNumbers.l0 (k + 1) y0 y1 y2 y3 y4)) ∧ (∀ y0 y1 y2 y3 y4 y5, LeO (agoralaw03_SumNumbers.l1 k y0 y1 y2 y3 y4 y5) (agoralaw03_SumNumbers.l1 (k + 1) y0 y1 y2 y3 y4 y5)) ∧ (∀ y0 y1 y2 y3, LeO (agoralaw03_SumNumbers.j3 k y0 y1 y2 y3) (agoralaw03_SumNumbers.j3 (k + 1) y0 y1 y2 y3)) ∧ (∀ y0 y1 y2 y3 y4, LeO (agoralaw03_SumNumbers.l2 k y0 y1 y2 y3 y4) (agoralaw03_SumNumbers.l2 (k + 1) y0 y1 y2 y3 y4))
  | 0 => ⟨fun _ _ _ _ _ _ r h => by simp [agoralaw03_SumNumbers.j0] at h, fun _ _ _ _ _ r h => by simp [agoralaw03_SumNumbers.l0] at h, fun _ _ _ _ _ _ r h => by simp [agoralaw03_SumNumbers.l1] at h, fun _ _ _ _ r h => by simp [agoralaw03_SumNumbers.j3] at h, fun _ _ _ _ _ r h => by simp [agoralaw03_SumNumbers.l2] at h⟩
  | k + 1 => by
    obtain ⟨ih0, ih1, ih2, ih3, ih4⟩ := agoralaw03_SumNumbers.mono_l k
    refine ⟨?_, ?_, ?_, ?_, ?_⟩
    · intro y0 y1 y2 y3 y4 y5
      unfold agoralaw03_SumNumbers.j0
      repeat' first
      | (with_reducible exact ih0 _ _ _ _ _ _)
      | (with_reducible exact ih1 _ _ _ _ _)
      | (with_reducible exact ih2 _ _ _ _ _ _)
      | (with_reducible exact ih3 _ _ _ _)
      | (with_reducible exact ih4 _ _ _ _ _)
      | (with_reducible exact agoralaw03_small.mono _)
      | (with_reducible exact sum_Num.mono _ _)
      | (with_reducible exact LeO.refl _)
      | (with_reducible exact LeO.none _)
      | (with_reducible refine LeO.ite ?_ ?_)
      | (with_reducible refine LeO.bind ?_ (fun _ => ?_))
      | exact ih0 _ _ _ _ _ _
      | exact ih1 _ _ _ _ _
      | exact ih2 _ _ _ _ _ _
      | exact ih3 _ _ _ _
      | exact ih4 _ _ _ _ _
      | exact agoralaw03_small.mono _
      | exact sum_Num.mono _ _
      | exact LeO.none _
      | refine LeO.ite ?_ ?_
      | refine LeO.bind ?_ (fun _ => ?_)
    · intro y0 y1 y2 y3 y4
      unfold agoralaw03_SumNumbers.l0
      repeat' first
      | (with_reducible exact ih0 _ _ _ _ _ _)
      | (with_reducible exact ih1 _ _ _ _ _)
      | (with_reducible exact ih2 _ _ _ _ _ _)
      | (with_reducible exact ih3 _ _ _ _)
      | (with_reducible exact ih4 _ _ _ _ _)
      | (with_reducible exact agoralaw03_small.mono _)
      | (with_reducible exact sum_Num.mono _ _)
      | (with_reducible exact LeO.refl _)
      | (with_reducible exact LeO.none _)
      | (with_reducible refine LeO.ite ?_ ?_)
      | (with_reducible refine LeO.bind ?_ (fun _ => ?_))
      | exact ih0 _ _ _ _ _ _
      | exact ih1 _ _ _ _ _
      | exact ih2 _ _ _ _ _ _
      | exact ih3 _ _ _ _
      | exact ih4 _ _ _ _ _
      | exact agoralaw03_small.mono _
      | exact sum_Num.mono _ _
      | exact LeO.none _
      | refine LeO.ite ?_ ?_
      | refine LeO.bind ?_ (fun _ => ?_)
    · intro y0 y1 y2 y3 y4 y5
      unfold agoralaw03_SumNumbers.l1
      repeat' first
      | (with_reducible exact ih0 _ _ _ _ _ _)
      | (with_reducible exact ih1 _ _ _ _ _)
      | (with_reducible exact ih2 _ _ _ _ _ _)
      | (with_reducible exact ih3 _ _ _ _)
      | (with_reducible exact ih4 _ _ _ _ _)
      | (with_reducible exact agoralaw03_small.mono _)
      | (with_reducible exact sum_Num.mono _ _)
      | (with_reducible exact LeO.refl _)
      | (with_reducible exact LeO.none _)
      | (with_reducible refine LeO.ite ?_ ?_)
      | (with_reducible refine LeO.bind ?_ (fun _ => ?_))
      | exact ih0 _ _ _ _ _ _
      | exact ih1 _ _ _ _ _
      | exact ih2 _ _ _ _ _ _
      | exact ih3 _ _ _ _
      | exact ih4 _ _ _ _ _
      | exact agoralaw03_small.mono _
      | exact sum_Num.mono _ _
      | exact LeO.none _
      | refine LeO.ite ?_ ?_
      | refine LeO.bind ?_ (fun _ => ?_)
    · intro y0 y1 y2 y3
      unfold agoralaw03_SumNumbers.j3
      repeat' first
      | (with_reducible exact ih0 _ _ _ _ _ _)
      | (with_reducible exact ih1 _ _ _ _ _)
      | (with_reducible exact ih2 _ _ _ _ _ _)
      | (with_reducible exact ih3 _ _ _ _)
      | (with_reducible exact ih4 _ _ _ _ _)
      | (with_reducible exact agoralaw03_small.mono _)
      | (with_reducible exact sum_Num.mono _ _)
      | (with_reducible exact LeO.refl _)
      | (with_reducible exact LeO.none _)
      | (with_reducible refine LeO.ite ?_ ?_)
      | (with_reducible refine LeO.bind ?_ (fun _ => ?_))
      | exact ih0 _ _ _ _ _ _
      | exact ih1 _ _ _ _ _
      | exact ih2 _ _ _ _ _ _
      | exact ih3 _ _ _ _
      | exact ih4 _ _ _ _ _
      | exact agoralaw03_small.mono _
      | exact sum_Num.mono _ _
      | exact LeO.none _
      | refine LeO.ite ?_ ?_
      | refine LeO.bind ?_ (fun _ => ?_)
    · intro y0 y1 y2 y3 y4
      unfold agoralaw03_SumNumbers.l2
      repeat' first
      | (with_reducible exact ih0 _ _ _ _ _ _)
      | (with_reducible exact ih1 _ _ _ _ _)
      | (with_reducible exact ih2 _ _ _ _ _ _)
      | (with_reducible exact ih3 _ _ _ _)
      | (with_reducible exact ih4 _ _ _ _ _)
      | (with_reducible exact agoralaw03_small.mono _)
      | (with_reducible exact sum_Num.mono _ _)
      | (with_reducible exact LeO.refl _)
      | (with_reducible exact LeO.none _)
      | (with_reducible refine LeO.ite ?_ ?_)
      | (with_reducible refine LeO.bind ?_ (fun _ => ?_))
      | exact ih0 _ _ _ _ _ _
      | exact ih1 _ _ _ _ _
      | exact ih2 _ _ _ _ _ _
      | exact ih3 _ _ _ _
      | exact ih4 _ _ _ _ _
      | exact agoralaw03_small.mono _
      | exact sum_Num.mono _ _
      | exact LeO.none _
      | refine LeO.ite ?_ ?_
      | refine LeO.bind ?_ (fun _ => ?_)
theorem agoralaw03_SumNumbers.mono : ∀ a0 a1 a2 k, LeO (agoralaw03_SumNumbers.f k a0 a1 a2) (agoralaw03_SumNumbers.f (k + 1) a0 a1 a2) := by
  intro a0 a1 a2 k
  obtain ⟨ih0, ih1, ih2, ih3, ih4⟩ := agoralaw03_SumNumbers.mono_l k
  unfold agoralaw03_SumNumbers.f
  repeat' first
      | (with_reducible exact ih0 _ _ _ _ _ _)
      | (with_reducible exact ih1 _ _ _ _ _)
      | (with_reducible exact ih2 _ _ _ _ _ _)
      | (with_reducible exact ih3 _ _ _ _)
      | (with_reducible exact ih4 _ _ _ _ _)
      | (with_reducible exact agoralaw03_small.mono _)
      | (with_reducible exact sum_Num.mono _ _)
      | (with_reducible exact LeO.refl _)
      | (with_reducible exact LeO.none _)
      | (with_reducible refine LeO.ite ?_ ?_)
      | (with_reducible refine LeO.bind ?_ (fun _ => ?_))
      | exact ih0 _ _ _ _ _ _
      | exact ih1 _ _ _ _ _
      | exact ih2 _ _ _ _ _ _
      | exact ih3 _ _ _ _
      | exact ih4 _ _ _ _ _
      | exact agoralaw03_small.mono _
      | exact sum_Num.mono _ _
      | exact LeO.none _
      | refine LeO.ite ?_ ?_
      | refine LeO.bind ?_ (fun _ => ?_)
set_option maxHeartbeats 8000000 in
set_option maxRecDepth 100000 in
theorem agoralaw03_SumNumbers.calls (k : Nat) (a0 : ByteArray) (a1 : ByteArray) (a2 : ByteArray) (r : Bool) (w : World) (h : agoralaw03_SumNumbers.f k a0 a1 a2 = some r) :
    Calls Try.prog 8 #[.string a0, .string a1, .string a2] w fun e w' => e = .returned (.bool r) ∧ Below w.heap.size w w' := by
  have HB := Aside0.mk (Below.refl w.heap.size w)
  have H : ((agoralaw03_small.f k).bind fun t261 => ((sum_Num.f k a0).bind fun t262 => (if t262 < 0 then (agoralaw03_SumNumbers.j0 k a0 a1 a2 t261 t262 true) else (agoralaw03_SumNumbers.j0 k a0 a1 a2 t261 t262 (decide (t262 > 2305843009213693951)))))) = some r := h
  clear h
  replace H := Option.bind_eq_some_iff.mp H
  obtain ⟨t261, A40, H⟩ := H
  replace H : ((sum_Num.f k a0).bind fun t262 => (if t262 < 0 then (agoralaw03_SumNumbers.j0 k a0 a1 a2 t261 t262 true) else (agoralaw03_SumNumbers.j0 k a0 a1 a2 t261 t262 (decide (t262 > 2305843009213693951))))) = some r := H
  have A4 := Aside0.mk A40
  clear A40
  replace H := Option.bind_eq_some_iff.mp H
  obtain ⟨t262, A50, H⟩ := H
  replace H : (if t262 < 0 then (agoralaw03_SumNumbers.j0 k a0 a1 a2 t261 t262 true) else (agoralaw03_SumNumbers.j0 k a0 a1 a2 t261 t262 (decide (t262 > 2305843009213693951)))) = some r := H
  have A5 := Aside0.mk A50
  clear A50
  have HC6 := Aside0.mk H
  clear H
  go_enter Try.func8, Try.ntmps8
  go_upto_region 3 with (first | (go_at_call 9; (with_reducible refine (agoralaw03_small.calls k  t261 _ A4.out).mono ?_); rintro e w7 ⟨rfl, hb⟩; have n0_ := Aside0.mk (below_step (by repeat (first | (with_reducible first | exact HB.out | apply below_alloc | apply pw_below_drewN | apply below_drew1) | exact HB.out)) hb); clear HB; have HB := n0_; clear n0_; (try clear hb); (try clear hb2); (try clear hk); (try clear hi)) | (go_at_call 18; (with_reducible refine (sum_Num.calls k a0 t262 _ A5.out).mono ?_); rintro e w' ⟨rfl, ⟨nd, rfl⟩⟩; (try first | exact ⟨rfl, _, World.drewN_drewN _ _ _⟩ | exact ⟨rfl, _, Eq.trans (World.drewN_drewN _ _ _) (congrArg (World.drewN _) (Nat.add_assoc _ _ _))⟩)))
  repeat (go_quiet (first | (go_at_call 9; (with_reducible refine (agoralaw03_small.calls k  t261 _ A4.out).mono ?_); rintro e w7 ⟨rfl, hb⟩; have n0_ := Aside0.mk (below_step (by repeat (first | (with_reducible first | exact HB.out | apply below_alloc | apply pw_below_drewN | apply below_drew1) | exact HB.out)) hb); clear HB; have HB := n0_; clear n0_; (try clear hb); (try clear hb2); (try clear hk); (try clear hi)) | (go_at_call 18; (with_reducible refine (sum_Num.calls k a0 t262 _ A5.out).mono ?_); rintro e w' ⟨rfl, ⟨nd, rfl⟩⟩; (try first | exact ⟨rfl, _, World.drewN_drewN _ _ _⟩ | exact ⟨rfl, _, Eq.trans (World.drewN_drewN _ _ _) (congrArg (World.drewN _) (Nat.add_assoc _ _ _))⟩))); go_upto_region 3 with (first | (go_at_call 9; (with_reducible refine (agoralaw03_small.calls k  t261 _ A4.out).mono ?_); rintro e w7 ⟨rfl, hb⟩; have n0_ := Aside0.mk (below_step (by repeat (first | (with_reducible first | exact HB.out | apply below_alloc | apply pw_below_drewN | apply below_drew1) | exact HB.out)) hb); clear HB; have HB := n0_; clear n0_; (try clear hb); (try clear hb2); (try clear hk); (try clear hi)) | (go_at_call 18; (with_reducible refine (sum_Num.calls k a0 t262 _ A5.out).mono ?_); rintro e w' ⟨rfl, ⟨nd, rfl⟩⟩; (try first | exact ⟨rfl, _, World.drewN_drewN _ _ _⟩ | exact ⟨rfl, _, Eq.trans (World.drewN_drewN _ _ _) (congrArg (World.drewN _) (Nat.add_assoc _ _ _))⟩))))
  (try simp only [Act.put, List.setIfInBounds_toArray, List.set_cons_zero, List.set_cons_succ])
  go_cut [21] (fun v21 wc => ∃ (kq : Nat) (x21_5 : Bool), v21 = .bool x21_5 ∧ Aside0 (agoralaw03_SumNumbers.j0 kq a0 a1 a2 t261 t262 x21_5 = some r) ∧ Aside0 (kq ≤ k) ∧ Aside0 (Below w.heap.size w wc))
  case first =>
    have H := HC6.out
    clear HC6
    by_cases c8 : t262 < 0
    · rw [if_pos c8] at H
      have c8b0 : decide (t262 < 0) = true := decide_eq_true c8
      clear c8
      (first | rw [c8b0] | (simp only [i64_w, i32_w]; rw [c8b0]) | skip)
      have H' := Aside0.mk H
      clear H
      go_wp2
      repeat (go_quiet (fail); try go_wp2)
      go_meet
      case rel => exact ⟨_, (true), (by first | rfl | (simp; done) | (simp [*]; done) | (simp [isEmpty_ne_]; done)), H', ⟨by first | omega | exact Nat.le_refl _⟩, ⟨by repeat (first | (with_reducible first | exact HB.out | apply below_alloc | apply pw_below_drewN | apply below_drew1) | exact HB.out)⟩⟩
    · rw [if_neg c8] at H
      have c8b0 : decide (t262 < 0) = false := decide_eq_false c8
      clear c8
      (first | rw [c8b0] | (simp only [i64_w, i32_w]; rw [c8b0]) | skip)
      have H' := Aside0.mk H
      clear H
      go_wp2
      repeat (go_quiet (fail); try go_wp2)
      go_meet
      case rel => exact ⟨_, (decide (t262 > 2305843009213693951)), (by first | rfl | (simp; done) | (simp [*]; done) | (simp [isEmpty_ne_]; done)), H', ⟨by first | omega | exact Nat.le_refl _⟩, ⟨by repeat (first | (with_reducible first | exact HB.out | apply below_alloc | apply pw_below_drewN | apply below_drew1) | exact HB.out)⟩⟩
  case rest =>
    clear HC6
    try clear p2
    try clear c8
    try clear c8b0
    obtain ⟨kq, x21_5, rfl, HA, HJ5, HB⟩ := hcut
    cases kq with
    | zero => exact absurd HA.out (by simp [agoralaw03_SumNumbers.j0])
    | succ kj5 =>
      have H := HA.out
      clear HA
      simp only [agoralaw03_SumNumbers.j0] at H
      by_cases c9 : x21_5 = true
      · subst c9
        have H1 : (none) = some r := by rw [if_pos rfl] at H; exact H
        clear H
        have H := H1
        clear H1
        exact absurd H (by simp)
      · replace c9 := Bool.eq_false_iff.mpr c9
        subst c9
        have H1 : (agoralaw03_SumNumbers.l0 kj5 a1 a2 t261 t262 a0) = some r := by rw [if_neg (show ¬ (false = true) by decide)] at H; exact H
        clear H
        have H := H1
        clear H1
        have H' := Aside0.mk H
        clear H
        go_wp2
        repeat (go_quiet (fail); try go_wp2)
        go_loopg [9] kj5 (fun kq v9 w' => ∃ (x9_2 : ByteArray), v9 = .string x9_2 ∧ Aside0 (agoralaw03_SumNumbers.l0 kq a1 a2 t261 t262 x9_2 = some r) ∧ Aside0 (kq ≤ kj5) ∧ Aside0 (Below w.heap.size w w'))
        case atStart => exact ⟨(a0), (by first | rfl | (simp; done) | (simp [*]; done) | (simp [isEmpty_ne_]; done)), H', ⟨Nat.le_refl _⟩, ⟨by repeat (first | (with_reducible first | exact HB.out | apply below_alloc | apply pw_below_drewN | apply below_drew1) | exact HB.out)⟩⟩
        case round =>
          clear H'
          try clear p2
          try clear c8
          try clear c8b0
          try clear c9
          try clear p2
          obtain ⟨x9_2, rfl, HA, HK2, HB⟩ := hrel
          cases gk with
          | zero => exact absurd HA.out (by simp [agoralaw03_SumNumbers.l0])
          | succ k2 =>
            have H := HA.out
            clear HA
            simp only [agoralaw03_SumNumbers.l0] at H
            by_cases c10 : (x9_2.size : Int) < 8
            · rw [if_pos c10] at H
              have c10b0 : decide ((x9_2.size : Int) < 8) = true := decide_eq_true c10
              have c10b1 : decide (x9_2.size < 8) = true := decide_eq_true (by omega)
              clear c10
              by_cases c11 : x9_2.size + 1 ≤ 9223372036854775807
              · rw [if_pos c11] at H
                have c11b0 := eq_true c11
                have c11b1 : decide (x9_2.size + 1 ≤ 9223372036854775807) = true := decide_eq_true c11
                try have c11b2 : (9223372036854775807 < x9_2.size + 1) = False := eq_false (Nat.not_lt.2 c11)
                have H' := Aside0.mk H
                clear H
                go_wp2
                repeat (go_quiet (fail); try go_wp2)
                go_roundg k2
                case measure => have := HJ5.out; have := HK2.out; omega
                case rel => exact ⟨(x9_2 ++ (⟨#[0]⟩ : ByteArray)), (by first | rfl | (simp; done) | (simp [*]; done) | (simp [isEmpty_ne_]; done)), H', ⟨by have := HJ5.out; have := HK2.out; omega⟩, ⟨by repeat (first | (with_reducible first | exact HB.out | apply below_alloc | apply pw_below_drewN | apply below_drew1) | exact HB.out)⟩⟩
              · rw [if_neg c11] at H
                exact absurd H (by simp)
            · rw [if_neg c10] at H
              have c10b0 : decide ((x9_2.size : Int) < 8) = false := decide_eq_false c10
              have c10b1 : decide (x9_2.size < 8) = false := decide_eq_false (by omega)
              clear c10
              have H' := Aside0.mk H
              clear H
              go_wp2
              repeat (go_quiet (fail); try go_wp2)
              go_loopg [10] k2 (fun kq v10 w' => ∃ (x10_3 : ByteArray), v10 = .string x10_3 ∧ Aside0 (agoralaw03_SumNumbers.l1 kq a1 a2 t261 t262 x9_2 x10_3 = some r) ∧ Aside0 (kq ≤ k2) ∧ Aside0 (Below w.heap.size w w'))
              case atStart => exact ⟨(a1), (by first | rfl | (simp; done) | (simp [*]; done) | (simp [isEmpty_ne_]; done)), H', ⟨Nat.le_refl _⟩, ⟨by repeat (first | (with_reducible first | exact HB.out | apply below_alloc | apply pw_below_drewN | apply below_drew1) | exact HB.out)⟩⟩
              case round =>
                clear H'
                try clear c1
                try clear p2
                try clear c8
                try clear c8b0
                try clear c9
                try clear c10
                try clear c10b0
                try clear c10b1
                try clear c11
                try clear c11b0
                try clear c11b1
                try clear c11b2
                try clear p2
                obtain ⟨x10_3, rfl, HA, HK3, HB⟩ := hrel
                cases gk with
                | zero => exact absurd HA.out (by simp [agoralaw03_SumNumbers.l1])
                | succ k3 =>
                  have H := HA.out
                  clear HA
                  simp only [agoralaw03_SumNumbers.l1] at H
                  by_cases c12 : (x10_3.size : Int) < 8
                  · rw [if_pos c12] at H
                    have c12b0 : decide ((x10_3.size : Int) < 8) = true := decide_eq_true c12
                    have c12b1 : decide (x10_3.size < 8) = true := decide_eq_true (by omega)
                    clear c12
                    by_cases c13 : x10_3.size + 1 ≤ 9223372036854775807
                    · rw [if_pos c13] at H
                      have c13b0 := eq_true c13
                      have c13b1 : decide (x10_3.size + 1 ≤ 9223372036854775807) = true := decide_eq_true c13
                      try have c13b2 : (9223372036854775807 < x10_3.size + 1) = False := eq_false (Nat.not_lt.2 c13)
                      have H' := Aside0.mk H
                      clear H
                      go_wp2
                      repeat (go_quiet (fail); try go_wp2)
                      go_roundg k3
                      case measure => have := HJ5.out; have := HK2.out; have := HK3.out; omega
                      case rel => exact ⟨(x10_3 ++ (⟨#[0]⟩ : ByteArray)), (by first | rfl | (simp; done) | (simp [*]; done) | (simp [isEmpty_ne_]; done)), H', ⟨by have := HJ5.out; have := HK2.out; have := HK3.out; omega⟩, ⟨by repeat (first | (with_reducible first | exact HB.out | apply below_alloc | apply pw_below_drewN | apply below_drew1) | exact HB.out)⟩⟩
                    · rw [if_neg c13] at H
                      exact absurd H (by simp)
                  · rw [if_neg c12] at H
                    have c12b0 : decide ((x10_3.size : Int) < 8) = false := decide_eq_false c12
                    have c12b1 : decide (x10_3.size < 8) = false := decide_eq_false (by omega)
                    clear c12
                    by_cases c14 : 0 ≤ 8
                    · rw [if_pos c14] at H
                      have c14b0 := eq_true c14
                      have c14b1 : decide (0 ≤ 8) = true := decide_eq_true c14
                      clear c14
                      by_cases c15 : 8 ≤ (x9_2.size : Int)
                      · rw [if_pos c15] at H
                        have c15b0 := eq_true c15
                        have c15b1 : decide (8 ≤ (x9_2.size : Int)) = true := decide_eq_true c15
                        clear c15
                        have c16b0 := eq_true (of_decide_eq_true (by first | (with_reducible assumption) | assumption) : 0 ≤ 8)
                        by_cases c17 : 8 ≤ (x10_3.size : Int)
                        · rw [if_pos c17] at H
                          have c17b0 := eq_true c17
                          have c17b1 : decide (8 ≤ (x10_3.size : Int)) = true := decide_eq_true c17
                          clear c17
                          have HC18 := Aside0.mk H
                          clear H
                          go_upto_region 13 with (fail)
                          repeat (go_quiet (fail); go_upto_region 13 with (fail))
                          go_cut [65] (fun v65 wc => ∃ (kq : Nat) (x65_17 : Bool), v65 = .bool x65_17 ∧ Aside0 (agoralaw03_SumNumbers.j3 kq t261 t262 (x9_2.extract 0 8) x65_17 = some r) ∧ Aside0 (kq ≤ k3) ∧ Aside0 (Below w.heap.size w wc))
                          case first =>
                            have H := HC18.out
                            clear HC18
                            by_cases c19 : (x9_2.extract 0 8).size + a2.size ≤ 9223372036854775807
                            · rw [if_pos c19] at H
                              have c19b0 := eq_true c19
                              have c19b1 : decide ((x9_2.extract 0 8).size + a2.size ≤ 9223372036854775807) = true := decide_eq_true c19
                              try have c19b2 : (9223372036854775807 < (x9_2.extract 0 8).size + a2.size) = False := eq_false (Nat.not_lt.2 c19)
                              replace H := Option.bind_eq_some_iff.mp H
                              obtain ⟨t263, A200, H⟩ := H
                              replace H : (if t263 = t262 then (if (Op.bytesLess ((x9_2.extract 0 8).toList) ((x10_3.extract 0 8).toList)) = true then ((sum_Num.f k3 a1).bind fun t264 => (if t262 > t264 then (agoralaw03_SumNumbers.j3 k3 t261 t262 (x9_2.extract 0 8) true) else (if (Op.bytesLess ((x10_3.extract 0 8).toList) ((x9_2.extract 0 8).toList)) = true then (agoralaw03_SumNumbers.j3 k3 t261 t262 (x9_2.extract 0 8) (decide (t262 < t264))) else (agoralaw03_SumNumbers.j3 k3 t261 t262 (x9_2.extract 0 8) false)))) else (if (Op.bytesLess ((x10_3.extract 0 8).toList) ((x9_2.extract 0 8).toList)) = true then ((sum_Num.f k3 a1).bind fun t265 => (agoralaw03_SumNumbers.j3 k3 t261 t262 (x9_2.extract 0 8) (decide (t262 < t265)))) else (agoralaw03_SumNumbers.j3 k3 t261 t262 (x9_2.extract 0 8) false))) else (agoralaw03_SumNumbers.j3 k3 t261 t262 (x9_2.extract 0 8) true)) = some r := H
                              have A20 := Aside0.mk A200
                              clear A200
                              by_cases c21 : t263 = t262
                              · rw [if_pos c21] at H
                                have c21b0 : (t263 == t262) = true := beq_iff_eq.mpr c21
                                have c21b1 : (t263 != t262) = false := bne_eq_false_iff_eq.mpr c21
                                clear c21
                                (first | rw [c21b0] | (simp only [i64_w, i32_w]; rw [c21b0]) | skip)
                                by_cases c22 : (Op.bytesLess ((x9_2.extract 0 8).toList) ((x10_3.extract 0 8).toList)) = true
                                · rw [if_pos c22] at H
                                  have c22b0 : (Op.bytesLess ((x9_2.extract 0 8).toList) ((x10_3.extract 0 8).toList)) = true := c22
                                  clear c22
                                  replace H := Option.bind_eq_some_iff.mp H
                                  obtain ⟨t264, A230, H⟩ := H
                                  replace H : (if t262 > t264 then (agoralaw03_SumNumbers.j3 k3 t261 t262 (x9_2.extract 0 8) true) else (if (Op.bytesLess ((x10_3.extract 0 8).toList) ((x9_2.extract 0 8).toList)) = true then (agoralaw03_SumNumbers.j3 k3 t261 t262 (x9_2.extract 0 8) (decide (t262 < t264))) else (agoralaw03_SumNumbers.j3 k3 t261 t262 (x9_2.extract 0 8) false))) = some r := H
                                  have A23 := Aside0.mk A230
                                  clear A230
                                  by_cases c24 : t262 > t264
                                  · rw [if_pos c24] at H
                                    have c24b0 : decide (t264 < t262) = true := decide_eq_true c24
                                    clear c24
                                    have H' := Aside0.mk H
                                    clear H
                                    go_wp2_with (first | (go_at_call 18; (with_reducible refine (sum_Num.calls k3 ((x9_2.extract 0 8) ++ a2) t263 _ A20.out).mono ?_); rintro e w' ⟨rfl, ⟨nd, rfl⟩⟩; (try first | exact ⟨rfl, _, World.drewN_drewN _ _ _⟩ | exact ⟨rfl, _, Eq.trans (World.drewN_drewN _ _ _) (congrArg (World.drewN _) (Nat.add_assoc _ _ _))⟩)) | (go_at_call 18; (with_reducible refine (sum_Num.calls k3 a1 t264 _ A23.out).mono ?_); rintro e w' ⟨rfl, ⟨nd, rfl⟩⟩; (try first | exact ⟨rfl, _, World.drewN_drewN _ _ _⟩ | exact ⟨rfl, _, Eq.trans (World.drewN_drewN _ _ _) (congrArg (World.drewN _) (Nat.add_assoc _ _ _))⟩)))
                                    repeat (go_quiet (first | (go_at_call 18; (with_reducible refine (sum_Num.calls k3 ((x9_2.extract 0 8) ++ a2) t263 _ A20.out).mono ?_); rintro e w' ⟨rfl, ⟨nd, rfl⟩⟩; (try first | exact ⟨rfl, _, World.drewN_drewN _ _ _⟩ | exact ⟨rfl, _, Eq.trans (World.drewN_drewN _ _ _) (congrArg (World.drewN _) (Nat.add_assoc _ _ _))⟩)) | (go_at_call 18; (with_reducible refine (sum_Num.calls k3 a1 t264 _ A23.out).mono ?_); rintro e w' ⟨rfl, ⟨nd, rfl⟩⟩; (try first | exact ⟨rfl, _, World.drewN_drewN _ _ _⟩ | exact ⟨rfl, _, Eq.trans (World.drewN_drewN _ _ _) (congrArg (World.drewN _) (Nat.add_assoc _ _ _))⟩))); try go_wp2_with (first | (go_at_call 18; (with_reducible refine (sum_Num.calls k3 ((x9_2.extract 0 8) ++ a2) t263 _ A20.out).mono ?_); rintro e w' ⟨rfl, ⟨nd, rfl⟩⟩; (try first | exact ⟨rfl, _, World.drewN_drewN _ _ _⟩ | exact ⟨rfl, _, Eq.trans (World.drewN_drewN _ _ _) (congrArg (World.drewN _) (Nat.add_assoc _ _ _))⟩)) | (go_at_call 18; (with_reducible refine (sum_Num.calls k3 a1 t264 _ A23.out).mono ?_); rintro e w' ⟨rfl, ⟨nd, rfl⟩⟩; (try first | exact ⟨rfl, _, World.drewN_drewN _ _ _⟩ | exact ⟨rfl, _, Eq.trans (World.drewN_drewN _ _ _) (congrArg (World.drewN _) (Nat.add_assoc _ _ _))⟩))))
                                    go_meet
                                    case rel => exact ⟨_, (true), (by first | rfl | (simp; done) | (simp [*]; done) | (simp [isEmpty_ne_]; done)), H', ⟨by have := HJ5.out; have := HK2.out; have := HK3.out; first | omega | exact Nat.le_refl _⟩, ⟨by repeat (first | (with_reducible first | exact HB.out | apply below_alloc | apply pw_below_drewN | apply below_drew1) | exact HB.out)⟩⟩
                                  · rw [if_neg c24] at H
                                    have c24b0 : decide (t264 < t262) = false := decide_eq_false c24
                                    clear c24
                                    by_cases c25 : (Op.bytesLess ((x10_3.extract 0 8).toList) ((x9_2.extract 0 8).toList)) = true
                                    · rw [if_pos c25] at H
                                      have c25b0 : (Op.bytesLess ((x10_3.extract 0 8).toList) ((x9_2.extract 0 8).toList)) = true := c25
                                      clear c25
                                      have H' := Aside0.mk H
                                      clear H
                                      go_wp2_with (first | (go_at_call 18; (with_reducible refine (sum_Num.calls k3 ((x9_2.extract 0 8) ++ a2) t263 _ A20.out).mono ?_); rintro e w' ⟨rfl, ⟨nd, rfl⟩⟩; (try first | exact ⟨rfl, _, World.drewN_drewN _ _ _⟩ | exact ⟨rfl, _, Eq.trans (World.drewN_drewN _ _ _) (congrArg (World.drewN _) (Nat.add_assoc _ _ _))⟩)) | (go_at_call 18; (with_reducible refine (sum_Num.calls k3 a1 t264 _ A23.out).mono ?_); rintro e w' ⟨rfl, ⟨nd, rfl⟩⟩; (try first | exact ⟨rfl, _, World.drewN_drewN _ _ _⟩ | exact ⟨rfl, _, Eq.trans (World.drewN_drewN _ _ _) (congrArg (World.drewN _) (Nat.add_assoc _ _ _))⟩)))
                                      repeat (go_quiet (first | (go_at_call 18; (with_reducible refine (sum_Num.calls k3 ((x9_2.extract 0 8) ++ a2) t263 _ A20.out).mono ?_); rintro e w' ⟨rfl, ⟨nd, rfl⟩⟩; (try first | exact ⟨rfl, _, World.drewN_drewN _ _ _⟩ | exact ⟨rfl, _, Eq.trans (World.drewN_drewN _ _ _) (congrArg (World.drewN _) (Nat.add_assoc _ _ _))⟩)) | (go_at_call 18; (with_reducible refine (sum_Num.calls k3 a1 t264 _ A23.out).mono ?_); rintro e w' ⟨rfl, ⟨nd, rfl⟩⟩; (try first | exact ⟨rfl, _, World.drewN_drewN _ _ _⟩ | exact ⟨rfl, _, Eq.trans (World.drewN_drewN _ _ _) (congrArg (World.drewN _) (Nat.add_assoc _ _ _))⟩))); try go_wp2_with (first | (go_at_call 18; (with_reducible refine (sum_Num.calls k3 ((x9_2.extract 0 8) ++ a2) t263 _ A20.out).mono ?_); rintro e w' ⟨rfl, ⟨nd, rfl⟩⟩; (try first | exact ⟨rfl, _, World.drewN_drewN _ _ _⟩ | exact ⟨rfl, _, Eq.trans (World.drewN_drewN _ _ _) (congrArg (World.drewN _) (Nat.add_assoc _ _ _))⟩)) | (go_at_call 18; (with_reducible refine (sum_Num.calls k3 a1 t264 _ A23.out).mono ?_); rintro e w' ⟨rfl, ⟨nd, rfl⟩⟩; (try first | exact ⟨rfl, _, World.drewN_drewN _ _ _⟩ | exact ⟨rfl, _, Eq.trans (World.drewN_drewN _ _ _) (congrArg (World.drewN _) (Nat.add_assoc _ _ _))⟩))))
                                      go_meet
                                      case rel => exact ⟨_, (decide (t262 < t264)), (by first | rfl | (simp; done) | (simp [*]; done) | (simp [isEmpty_ne_]; done)), H', ⟨by have := HJ5.out; have := HK2.out; have := HK3.out; first | omega | exact Nat.le_refl _⟩, ⟨by repeat (first | (with_reducible first | exact HB.out | apply below_alloc | apply pw_below_drewN | apply below_drew1) | exact HB.out)⟩⟩
                                    · rw [if_neg c25] at H
                                      have c25b0 : (Op.bytesLess ((x10_3.extract 0 8).toList) ((x9_2.extract 0 8).toList)) = false := by simpa using c25
                                      clear c25
                                      have H' := Aside0.mk H
                                      clear H
                                      go_wp2_with (first | (go_at_call 18; (with_reducible refine (sum_Num.calls k3 ((x9_2.extract 0 8) ++ a2) t263 _ A20.out).mono ?_); rintro e w' ⟨rfl, ⟨nd, rfl⟩⟩; (try first | exact ⟨rfl, _, World.drewN_drewN _ _ _⟩ | exact ⟨rfl, _, Eq.trans (World.drewN_drewN _ _ _) (congrArg (World.drewN _) (Nat.add_assoc _ _ _))⟩)) | (go_at_call 18; (with_reducible refine (sum_Num.calls k3 a1 t264 _ A23.out).mono ?_); rintro e w' ⟨rfl, ⟨nd, rfl⟩⟩; (try first | exact ⟨rfl, _, World.drewN_drewN _ _ _⟩ | exact ⟨rfl, _, Eq.trans (World.drewN_drewN _ _ _) (congrArg (World.drewN _) (Nat.add_assoc _ _ _))⟩)))
                                      repeat (go_quiet (first | (go_at_call 18; (with_reducible refine (sum_Num.calls k3 ((x9_2.extract 0 8) ++ a2) t263 _ A20.out).mono ?_); rintro e w' ⟨rfl, ⟨nd, rfl⟩⟩; (try first | exact ⟨rfl, _, World.drewN_drewN _ _ _⟩ | exact ⟨rfl, _, Eq.trans (World.drewN_drewN _ _ _) (congrArg (World.drewN _) (Nat.add_assoc _ _ _))⟩)) | (go_at_call 18; (with_reducible refine (sum_Num.calls k3 a1 t264 _ A23.out).mono ?_); rintro e w' ⟨rfl, ⟨nd, rfl⟩⟩; (try first | exact ⟨rfl, _, World.drewN_drewN _ _ _⟩ | exact ⟨rfl, _, Eq.trans (World.drewN_drewN _ _ _) (congrArg (World.drewN _) (Nat.add_assoc _ _ _))⟩))); try go_wp2_with (first | (go_at_call 18; (with_reducible refine (sum_Num.calls k3 ((x9_2.extract 0 8) ++ a2) t263 _ A20.out).mono ?_); rintro e w' ⟨rfl, ⟨nd, rfl⟩⟩; (try first | exact ⟨rfl, _, World.drewN_drewN _ _ _⟩ | exact ⟨rfl, _, Eq.trans (World.drewN_drewN _ _ _) (congrArg (World.drewN _) (Nat.add_assoc _ _ _))⟩)) | (go_at_call 18; (with_reducible refine (sum_Num.calls k3 a1 t264 _ A23.out).mono ?_); rintro e w' ⟨rfl, ⟨nd, rfl⟩⟩; (try first | exact ⟨rfl, _, World.drewN_drewN _ _ _⟩ | exact ⟨rfl, _, Eq.trans (World.drewN_drewN _ _ _) (congrArg (World.drewN _) (Nat.add_assoc _ _ _))⟩))))
                                      go_meet
                                      case rel => exact ⟨_, (false), (by first | rfl | (simp; done) | (simp [*]; done) | (simp [isEmpty_ne_]; done)), H', ⟨by have := HJ5.out; have := HK2.out; have := HK3.out; first | omega | exact Nat.le_refl _⟩, ⟨by repeat (first | (with_reducible first | exact HB.out | apply below_alloc | apply pw_below_drewN | apply below_drew1) | exact HB.out)⟩⟩
                                · rw [if_neg c22] at H
                                  have c22b0 : (Op.bytesLess ((x9_2.extract 0 8).toList) ((x10_3.extract 0 8).toList)) = false := by simpa using c22
                                  clear c22
                                  by_cases c26 : (Op.bytesLess ((x10_3.extract 0 8).toList) ((x9_2.extract 0 8).toList)) = true
                                  · rw [if_pos c26] at H
                                    have c26b0 : (Op.bytesLess ((x10_3.extract 0 8).toList) ((x9_2.extract 0 8).toList)) = true := c26
                                    clear c26
                                    replace H := Option.bind_eq_some_iff.mp H
                                    obtain ⟨t265, A270, H⟩ := H
                                    replace H : (agoralaw03_SumNumbers.j3 k3 t261 t262 (x9_2.extract 0 8) (decide (t262 < t265))) = some r := H
                                    have A27 := Aside0.mk A270
                                    clear A270
                                    have H' := Aside0.mk H
                                    clear H
                                    go_wp2_with (first | (go_at_call 18; (with_reducible refine (sum_Num.calls k3 ((x9_2.extract 0 8) ++ a2) t263 _ A20.out).mono ?_); rintro e w' ⟨rfl, ⟨nd, rfl⟩⟩; (try first | exact ⟨rfl, _, World.drewN_drewN _ _ _⟩ | exact ⟨rfl, _, Eq.trans (World.drewN_drewN _ _ _) (congrArg (World.drewN _) (Nat.add_assoc _ _ _))⟩)) | (go_at_call 18; (with_reducible refine (sum_Num.calls k3 a1 t265 _ A27.out).mono ?_); rintro e w' ⟨rfl, ⟨nd, rfl⟩⟩; (try first | exact ⟨rfl, _, World.drewN_drewN _ _ _⟩ | exact ⟨rfl, _, Eq.trans (World.drewN_drewN _ _ _) (congrArg (World.drewN _) (Nat.add_assoc _ _ _))⟩)))
                                    repeat (go_quiet (first | (go_at_call 18; (with_reducible refine (sum_Num.calls k3 ((x9_2.extract 0 8) ++ a2) t263 _ A20.out).mono ?_); rintro e w' ⟨rfl, ⟨nd, rfl⟩⟩; (try first | exact ⟨rfl, _, World.drewN_drewN _ _ _⟩ | exact ⟨rfl, _, Eq.trans (World.drewN_drewN _ _ _) (congrArg (World.drewN _) (Nat.add_assoc _ _ _))⟩)) | (go_at_call 18; (with_reducible refine (sum_Num.calls k3 a1 t265 _ A27.out).mono ?_); rintro e w' ⟨rfl, ⟨nd, rfl⟩⟩; (try first | exact ⟨rfl, _, World.drewN_drewN _ _ _⟩ | exact ⟨rfl, _, Eq.trans (World.drewN_drewN _ _ _) (congrArg (World.drewN _) (Nat.add_assoc _ _ _))⟩))); try go_wp2_with (first | (go_at_call 18; (with_reducible refine (sum_Num.calls k3 ((x9_2.extract 0 8) ++ a2) t263 _ A20.out).mono ?_); rintro e w' ⟨rfl, ⟨nd, rfl⟩⟩; (try first | exact ⟨rfl, _, World.drewN_drewN _ _ _⟩ | exact ⟨rfl, _, Eq.trans (World.drewN_drewN _ _ _) (congrArg (World.drewN _) (Nat.add_assoc _ _ _))⟩)) | (go_at_call 18; (with_reducible refine (sum_Num.calls k3 a1 t265 _ A27.out).mono ?_); rintro e w' ⟨rfl, ⟨nd, rfl⟩⟩; (try first | exact ⟨rfl, _, World.drewN_drewN _ _ _⟩ | exact ⟨rfl, _, Eq.trans (World.drewN_drewN _ _ _) (congrArg (World.drewN _) (Nat.add_assoc _ _ _))⟩))))
                                    go_meet
                                    case rel => exact ⟨_, (decide (t262 < t265)), (by first | rfl | (simp; done) | (simp [*]; done) | (simp [isEmpty_ne_]; done)), H', ⟨by have := HJ5.out; have := HK2.out; have := HK3.out; first | omega | exact Nat.le_refl _⟩, ⟨by repeat (first | (with_reducible first | exact HB.out | apply below_alloc | apply pw_below_drewN | apply below_drew1) | exact HB.out)⟩⟩
                                  · rw [if_neg c26] at H
                                    have c26b0 : (Op.bytesLess ((x10_3.extract 0 8).toList) ((x9_2.extract 0 8).toList)) = false := by simpa using c26
                                    clear c26
                                    have H' := Aside0.mk H
                                    clear H
                                    go_wp2_with (first | (go_at_call 18; (with_reducible refine (sum_Num.calls k3 ((x9_2.extract 0 8) ++ a2) t263 _ A20.out).mono ?_); rintro e w' ⟨rfl, ⟨nd, rfl⟩⟩; (try first | exact ⟨rfl, _, World.drewN_drewN _ _ _⟩ | exact ⟨rfl, _, Eq.trans (World.drewN_drewN _ _ _) (congrArg (World.drewN _) (Nat.add_assoc _ _ _))⟩)))
                                    repeat (go_quiet (first | (go_at_call 18; (with_reducible refine (sum_Num.calls k3 ((x9_2.extract 0 8) ++ a2) t263 _ A20.out).mono ?_); rintro e w' ⟨rfl, ⟨nd, rfl⟩⟩; (try first | exact ⟨rfl, _, World.drewN_drewN _ _ _⟩ | exact ⟨rfl, _, Eq.trans (World.drewN_drewN _ _ _) (congrArg (World.drewN _) (Nat.add_assoc _ _ _))⟩))); try go_wp2_with (first | (go_at_call 18; (with_reducible refine (sum_Num.calls k3 ((x9_2.extract 0 8) ++ a2) t263 _ A20.out).mono ?_); rintro e w' ⟨rfl, ⟨nd, rfl⟩⟩; (try first | exact ⟨rfl, _, World.drewN_drewN _ _ _⟩ | exact ⟨rfl, _, Eq.trans (World.drewN_drewN _ _ _) (congrArg (World.drewN _) (Nat.add_assoc _ _ _))⟩))))
                                    go_meet
                                    case rel => exact ⟨_, (false), (by first | rfl | (simp; done) | (simp [*]; done) | (simp [isEmpty_ne_]; done)), H', ⟨by have := HJ5.out; have := HK2.out; have := HK3.out; first | omega | exact Nat.le_refl _⟩, ⟨by repeat (first | (with_reducible first | exact HB.out | apply below_alloc | apply pw_below_drewN | apply below_drew1) | exact HB.out)⟩⟩
                              · rw [if_neg c21] at H
                                have c21b0 : (t263 == t262) = false := beq_eq_false_iff_ne.mpr c21
                                have c21b1 : (t263 != t262) = true := bne_iff_ne.mpr c21
                                (first | rw [c21b0] | (simp only [i64_w, i32_w]; rw [c21b0]) | skip)
                                have H' := Aside0.mk H
                                clear H
                                go_wp2_with (first | (go_at_call 18; (with_reducible refine (sum_Num.calls k3 ((x9_2.extract 0 8) ++ a2) t263 _ A20.out).mono ?_); rintro e w' ⟨rfl, ⟨nd, rfl⟩⟩; (try first | exact ⟨rfl, _, World.drewN_drewN _ _ _⟩ | exact ⟨rfl, _, Eq.trans (World.drewN_drewN _ _ _) (congrArg (World.drewN _) (Nat.add_assoc _ _ _))⟩)))
                                repeat (go_quiet (first | (go_at_call 18; (with_reducible refine (sum_Num.calls k3 ((x9_2.extract 0 8) ++ a2) t263 _ A20.out).mono ?_); rintro e w' ⟨rfl, ⟨nd, rfl⟩⟩; (try first | exact ⟨rfl, _, World.drewN_drewN _ _ _⟩ | exact ⟨rfl, _, Eq.trans (World.drewN_drewN _ _ _) (congrArg (World.drewN _) (Nat.add_assoc _ _ _))⟩))); try go_wp2_with (first | (go_at_call 18; (with_reducible refine (sum_Num.calls k3 ((x9_2.extract 0 8) ++ a2) t263 _ A20.out).mono ?_); rintro e w' ⟨rfl, ⟨nd, rfl⟩⟩; (try first | exact ⟨rfl, _, World.drewN_drewN _ _ _⟩ | exact ⟨rfl, _, Eq.trans (World.drewN_drewN _ _ _) (congrArg (World.drewN _) (Nat.add_assoc _ _ _))⟩))))
                                go_meet
                                case rel => exact ⟨_, (true), (by first | rfl | (simp; done) | (simp [*]; done) | (simp [isEmpty_ne_]; done)), H', ⟨by have := HJ5.out; have := HK2.out; have := HK3.out; first | omega | exact Nat.le_refl _⟩, ⟨by repeat (first | (with_reducible first | exact HB.out | apply below_alloc | apply pw_below_drewN | apply below_drew1) | exact HB.out)⟩⟩
                            · rw [if_neg c19] at H
                              exact absurd H (by simp)
                          case rest =>
                            clear HC18
                            try clear c1
                            try clear c2
                            try clear p2
                            try clear c8
                            try clear c8b0
                            try clear c9
                            try clear c10
                            try clear c10b0
                            try clear c10b1
                            try clear c11
                            try clear c11b0
                            try clear c11b1
                            try clear c11b2
                            try clear c12
                            try clear c12b0
                            try clear c12b1
                            try clear c13
                            try clear c13b0
                            try clear c13b1
                            try clear c13b2
                            try clear c14
                            try clear c14b0
                            try clear c14b1
                            try clear c15
                            try clear c15b0
                            try clear c15b1
                            try clear c16
                            try clear c16b0
                            try clear c17
                            try clear c17b0
                            try clear c17b1
                            try clear c19
                            try clear c19b0
                            try clear c19b1
                            try clear c19b2
                            try clear c21
                            try clear c21b0
                            try clear c21b1
                            try clear c22
                            try clear c22b0
                            try clear c24
                            try clear c24b0
                            try clear c25
                            try clear c25b0
                            try clear c26
                            try clear c26b0
                            try clear p2
                            obtain ⟨kq, x65_17, rfl, HA, HJ17, HB⟩ := hcut
                            cases kq with
                            | zero => exact absurd HA.out (by simp [agoralaw03_SumNumbers.j3])
                            | succ kj17 =>
                              have H := HA.out
                              clear HA
                              simp only [agoralaw03_SumNumbers.j3] at H
                              by_cases c28 : x65_17 = true
                              · subst c28
                                have H1 : (none) = some r := by rw [if_pos rfl] at H; exact H
                                clear H
                                have H := H1
                                clear H1
                                exact absurd H (by simp)
                              · replace c28 := Bool.eq_false_iff.mpr c28
                                subst c28
                                have H1 : (agoralaw03_SumNumbers.l2 kj17 t261 t262 (x9_2.extract 0 8) ([] : List Int) 0) = some r := by rw [if_neg (show ¬ (false = true) by decide)] at H; exact H
                                clear H
                                have H := H1
                                clear H1
                                have H' := Aside0.mk H
                                clear H
                                go_wp2
                                repeat (go_quiet (fail); try go_wp2)
                                go_loopg [11, 12] kj17 (fun kq v11 v12 w' => ∃ (x11_5 : List Int) (x12_5 : Int), v12 = .int .i64 x12_5 ∧ Aside0 (agoralaw03_SumNumbers.l2 kq t261 t262 (x9_2.extract 0 8) x11_5 x12_5 = some r) ∧ Aside0 (kq ≤ kj17) ∧ Aside0 (Kd.R (Kd.int .u8) 5 w' w.heap.size (fun _ => True) v11 x11_5) ∧ Aside0 (Below w.heap.size w w'))
                                case atStart => exact ⟨(([] : List Int)), (0), (by first | rfl | (simp; done) | (simp [*]; done) | (simp [isEmpty_ne_]; done)), H', ⟨Nat.le_refl _⟩, ⟨by first | exact Kd.R_nil _ _ _ _ _ | exact Kd.N_nil _ _ _ _ _ | exact Kd.V_nil _ _ _ _ _ | exact Kd.Q_nil _ _ _ _ _ | exact Kd.S_nil _ _ _ _ _⟩, ⟨by repeat (first | (with_reducible first | exact HB.out | apply below_alloc | apply pw_below_drewN | apply below_drew1) | exact HB.out)⟩⟩
                                case round =>
                                  clear H'
                                  try clear c1
                                  try clear c2
                                  try clear p2
                                  try clear c8
                                  try clear c8b0
                                  try clear c9
                                  try clear c10
                                  try clear c10b0
                                  try clear c10b1
                                  try clear c11
                                  try clear c11b0
                                  try clear c11b1
                                  try clear c11b2
                                  try clear c12
                                  try clear c12b0
                                  try clear c12b1
                                  try clear c13
                                  try clear c13b0
                                  try clear c13b1
                                  try clear c13b2
                                  try clear c14
                                  try clear c14b0
                                  try clear c14b1
                                  try clear c15
                                  try clear c15b0
                                  try clear c15b1
                                  try clear c16
                                  try clear c16b0
                                  try clear c17
                                  try clear c17b0
                                  try clear c17b1
                                  try clear c19
                                  try clear c19b0
                                  try clear c19b1
                                  try clear c19b2
                                  try clear c21
                                  try clear c21b0
                                  try clear c21b1
                                  try clear c22
                                  try clear c22b0
                                  try clear c24
                                  try clear c24b0
                                  try clear c25
                                  try clear c25b0
                                  try clear c26
                                  try clear c26b0
                                  try clear c28
                                  try clear p2
                                  obtain ⟨x11_5, x12_5, rfl, HA, HK5, HO_11, HB⟩ := hrel
                                  cases gk with
                                  | zero => exact absurd HA.out (by simp [agoralaw03_SumNumbers.l2])
                                  | succ k5 =>
                                    have H := HA.out
                                    clear HA
                                    simp only [agoralaw03_SumNumbers.l2] at H
                                    by_cases c29 : x12_5 < 8
                                    · rw [if_pos c29] at H
                                      have c29b0 : decide (x12_5 < 8) = true := decide_eq_true c29
                                      clear c29
                                      obtain ⟨ji30, hji30⟩ : ∃ j_ : Int, (wrap64 (56 - (wrap64 (8 * x12_5)))) = j_ := ⟨_, rfl⟩
                                      replace H : (if 0 ≤ (ji30) then (if x11_5.length < 140737488355328 then (agoralaw03_SumNumbers.l2 k5 t261 t262 (x9_2.extract 0 8) (x11_5 ++ [(shr .u64 (IntKind.u64.wrap ((IntKind.u64.wrap (t262)) * 8)) (ji30)) % 256]) (wrap64 (x12_5 + 1))) else (none)) else (none)) = some r := by first | (rw [hji30] at H; exact H) | (simp only [hji30] at H ⊢; exact H)
                                      have hji30w : (IntKind.i64.wrap (56 - (wrap64 (8 * x12_5)))) = ji30 := (i64_w _).trans hji30
                                      by_cases c31 : 0 ≤ (ji30)
                                      · rw [if_pos c31] at H
                                        have c31b0 := eq_true c31
                                        have c31b1 : decide (0 ≤ (ji30)) = true := decide_eq_true c31
                                        clear c31
                                        obtain ⟨ji32, hji32⟩ : ∃ j_ : Int, (shr .u64 (IntKind.u64.wrap ((IntKind.u64.wrap (t262)) * 8)) (ji30)) = j_ := ⟨_, rfl⟩
                                        replace H : (if x11_5.length < 140737488355328 then (agoralaw03_SumNumbers.l2 k5 t261 t262 (x9_2.extract 0 8) (x11_5 ++ [(ji32) % 256]) (wrap64 (x12_5 + 1))) else (none)) = some r := by first | (rw [hji32] at H; exact H) | (simp only [hji32] at H ⊢; exact H)
                                        have hji32_ : ((IntKind.u64.wrap ((IntKind.u64.wrap (t262)) * 8)) / 2 ^ min (ji30).toNat 64) = ji32 := hji32
                                        have hji32z : (ji30) ≤ 64 → ((IntKind.u64.wrap ((IntKind.u64.wrap (t262)) * 8)) / 2 ^ (ji30).toNat) = ji32 := shr_small hji32
                                        by_cases c33 : x11_5.length < 140737488355328
                                        · rw [if_pos c33] at H
                                          have LMc33 := Aside0.mk c33
                                          clear c33
                                          obtain ⟨y266, hy266⟩ : ∃ y_ : List Int, y_ = (x11_5 ++ [(ji32) % 256]) := ⟨_, rfl⟩
                                          replace H : (agoralaw03_SumNumbers.l2 k5 t261 t262 (x9_2.extract 0 8) y266 (wrap64 (x12_5 + 1))) = some r := by first | (rw [hy266]; with_reducible exact H) | (have H2_ := (Option.bind_some _ _).symm.trans H; rw [hy266]; with_reducible exact H2_) | (have H2_ := (Option.bind_some _ _).symm.trans H; with_reducible exact H2_) | with_reducible exact H | (rw [hy266]; exact H) | exact H
                                          have Ny266 := Aside0.mk hy266
                                          clear hy266
                                          have H' := Aside0.mk H
                                          clear H
                                          go_wp2_with (first | ((with_reducible refine gate_builtin (b := .append) (xs := #[.tmp 70, .tmp 79]) rfl ?_); at_builtin; refine Kd.R_append (Kd.int .u8) (w0 := w) w.heap.size rfl (.tmp 70) (.tmp 79) 34 5 (.int .u8 0) 1 rfl Try.underlying34 info5 rfl (by decide) (by omega) u11 x11_5 ((ji32) % 256) [.int .u8 ((ji32) % 256)] (fun _ => True) (fun _ => False) rfl rfl ?aP (fun _ hk => hk.elim) ?aF ?aO ?aB ?aS ?aL ?_; (case aP => exact rfl); (case aB => exact (by repeat (first | (with_reducible first | exact HB.out | apply below_alloc | apply pw_below_drewN | apply below_drew1) | exact HB.out))); (case aF => exact (fun _ _ => trivial)); (case aO => exact (by (with_reducible repeat (first | apply Kd.R_alloc | apply Kd.R_drewN | apply Kd.R_drew)); exact HO_11.out)); (case aS => exact (below_size (by repeat (first | (with_reducible first | exact HB.out | apply below_alloc | apply pw_below_drewN | apply below_drew1) | exact HB.out)))); (case aL => have := LMc33.out; omega); intro v267 w34 ho hb hg hat; rw [← Ny266.out] at ho; have n0_ := Aside0.mk (hb); have n1_ := Aside0.mk (ho); clear HB; clear HO_11; have HB := n0_; have HO268 := n1_; clear n0_ n1_; clear ho hb hg hat))
                                          repeat (go_quiet (first | ((with_reducible refine gate_builtin (b := .append) (xs := #[.tmp 70, .tmp 79]) rfl ?_); at_builtin; refine Kd.R_append (Kd.int .u8) (w0 := w) w.heap.size rfl (.tmp 70) (.tmp 79) 34 5 (.int .u8 0) 1 rfl Try.underlying34 info5 rfl (by decide) (by omega) u11 x11_5 ((ji32) % 256) [.int .u8 ((ji32) % 256)] (fun _ => True) (fun _ => False) rfl rfl ?aP (fun _ hk => hk.elim) ?aF ?aO ?aB ?aS ?aL ?_; (case aP => exact rfl); (case aB => exact (by repeat (first | (with_reducible first | exact HB.out | apply below_alloc | apply pw_below_drewN | apply below_drew1) | exact HB.out))); (case aF => exact (fun _ _ => trivial)); (case aO => exact (by (with_reducible repeat (first | apply Kd.R_alloc | apply Kd.R_drewN | apply Kd.R_drew)); exact HO_11.out)); (case aS => exact (below_size (by repeat (first | (with_reducible first | exact HB.out | apply below_alloc | apply pw_below_drewN | apply below_drew1) | exact HB.out)))); (case aL => have := LMc33.out; omega); intro v267 w34 ho hb hg hat; rw [← Ny266.out] at ho; have n0_ := Aside0.mk (hb); have n1_ := Aside0.mk (ho); clear HB; clear HO_11; have HB := n0_; have HO268 := n1_; clear n0_ n1_; clear ho hb hg hat)); try go_wp2_with (first | ((with_reducible refine gate_builtin (b := .append) (xs := #[.tmp 70, .tmp 79]) rfl ?_); at_builtin; refine Kd.R_append (Kd.int .u8) (w0 := w) w.heap.size rfl (.tmp 70) (.tmp 79) 34 5 (.int .u8 0) 1 rfl Try.underlying34 info5 rfl (by decide) (by omega) u11 x11_5 ((ji32) % 256) [.int .u8 ((ji32) % 256)] (fun _ => True) (fun _ => False) rfl rfl ?aP (fun _ hk => hk.elim) ?aF ?aO ?aB ?aS ?aL ?_; (case aP => exact rfl); (case aB => exact (by repeat (first | (with_reducible first | exact HB.out | apply below_alloc | apply pw_below_drewN | apply below_drew1) | exact HB.out))); (case aF => exact (fun _ _ => trivial)); (case aO => exact (by (with_reducible repeat (first | apply Kd.R_alloc | apply Kd.R_drewN | apply Kd.R_drew)); exact HO_11.out)); (case aS => exact (below_size (by repeat (first | (with_reducible first | exact HB.out | apply below_alloc | apply pw_below_drewN | apply below_drew1) | exact HB.out)))); (case aL => have := LMc33.out; omega); intro v267 w34 ho hb hg hat; rw [← Ny266.out] at ho; have n0_ := Aside0.mk (hb); have n1_ := Aside0.mk (ho); clear HB; clear HO_11; have HB := n0_; have HO268 := n1_; clear n0_ n1_; clear ho hb hg hat)))
                                          go_roundg k5
                                          case measure => have := HJ5.out; have := HK2.out; have := HK3.out; have := HJ17.out; have := HK5.out; omega
                                          case rel => exact ⟨(y266), (wrap64 (x12_5 + 1)), (by first | rfl | (simp; done) | (simp [*]; done) | (simp [isEmpty_ne_]; done)), H', ⟨by have := HJ5.out; have := HK2.out; have := HK3.out; have := HJ17.out; have := HK5.out; omega⟩, ⟨by (with_reducible repeat (first | apply Kd.R_alloc | apply Kd.R_drewN | apply Kd.R_drew)); exact HO268.out⟩, ⟨by repeat (first | (with_reducible first | exact HB.out | apply below_alloc | apply pw_below_drewN | apply below_drew1) | exact HB.out)⟩⟩
                                        · rw [if_neg c33] at H
                                          exact absurd H (by simp)
                                      · rw [if_neg c31] at H
                                        exact absurd H (by simp)
                                    · rw [if_neg c29] at H
                                      have c29b0 : decide (x12_5 < 8) = false := decide_eq_false c29
                                      clear c29
                                      by_cases c35 : t261 = true
                                      · subst c35
                                        have H1 : (if 7 ≤ (x11_5.length : Int) then (if 0 ≤ 7 then (if 7 ≤ ((x9_2.extract 0 8).size : Int) then (if (strOfNums (x11_5.take 7)).toList = ((x9_2.extract 0 8).extract 0 7).toList then (if 7 < (x11_5.length : Int) then (if 7 < ((x9_2.extract 0 8).size : Int) then (some ((rd x11_5 7) == ((((Int.tdiv (bt (x9_2.extract 0 8) 7) 8) % 256) * 8) % 256))) else (none)) else (none)) else (none)) else (none)) else (none)) else (none)) = some r := by rw [if_pos rfl] at H; exact H
                                        clear H
                                        have H := H1
                                        clear H1
                                        by_cases c36 : 7 ≤ (x11_5.length : Int)
                                        · rw [if_pos c36] at H
                                          have c36b0 := eq_true c36
                                          have c36b1 : decide (7 ≤ (x11_5.length : Int)) = true := decide_eq_true c36
                                          clear c36
                                          obtain ⟨y269, hy269⟩ : ∃ y_ : List Int, y_ = (x11_5.take 7) := ⟨_, rfl⟩
                                          replace H : (if 0 ≤ 7 then (if 7 ≤ ((x9_2.extract 0 8).size : Int) then (if (strOfNums y269).toList = ((x9_2.extract 0 8).extract 0 7).toList then (if 7 < (x11_5.length : Int) then (if 7 < ((x9_2.extract 0 8).size : Int) then (some ((rd x11_5 7) == ((((Int.tdiv (bt (x9_2.extract 0 8) 7) 8) % 256) * 8) % 256))) else (none)) else (none)) else (none)) else (none)) else (none)) = some r := by first | (rw [hy269]; with_reducible exact H) | (have H2_ := (Option.bind_some _ _).symm.trans H; rw [hy269]; with_reducible exact H2_) | (have H2_ := (Option.bind_some _ _).symm.trans H; with_reducible exact H2_) | with_reducible exact H | (rw [hy269]; exact H) | exact H
                                          have Ny269 := Aside0.mk hy269
                                          clear hy269
                                          by_cases c37 : 0 ≤ 7
                                          · rw [if_pos c37] at H
                                            have c37b0 := eq_true c37
                                            have c37b1 : decide (0 ≤ 7) = true := decide_eq_true c37
                                            clear c37
                                            by_cases c38 : 7 ≤ ((x9_2.extract 0 8).size : Int)
                                            · rw [if_pos c38] at H
                                              have c38b0 := eq_true c38
                                              have c38b1 : decide (7 ≤ ((x9_2.extract 0 8).size : Int)) = true := decide_eq_true c38
                                              clear c38
                                              by_cases c39 : (strOfNums y269).toList = ((x9_2.extract 0 8).extract 0 7).toList
                                              · rw [if_pos c39] at H
                                                have c39b0 : ((strOfNums y269).toList == ((x9_2.extract 0 8).extract 0 7).toList) = true := beq_iff_eq.mpr c39
                                                have c39b1 : ((strOfNums y269).toList != ((x9_2.extract 0 8).extract 0 7).toList) = false := bne_eq_false_iff_eq.mpr c39
                                                clear c39
                                                by_cases c40 : 7 < (x11_5.length : Int)
                                                · rw [if_pos c40] at H
                                                  have c40b0 : decide (7 < (x11_5.length : Int)) = true := decide_eq_true c40
                                                  have c40b1 : decide (7 < x11_5.length) = true := decide_eq_true (by omega)
                                                  clear c40
                                                  by_cases c41 : 7 < ((x9_2.extract 0 8).size : Int)
                                                  · rw [if_pos c41] at H
                                                    have c41b0 : decide (7 < ((x9_2.extract 0 8).size : Int)) = true := decide_eq_true c41
                                                    have c41b1 : decide (7 < (x9_2.extract 0 8).size) = true := decide_eq_true (by omega)
                                                    clear c41
                                                    obtain rfl := Option.some.inj H
                                                    obtain ⟨Ao44, co44, eo44⟩ := Kd.R_slice HO_11.out
                                                    subst eo44
                                                    have q43 : (7 : Int) ≤ ((x11_5.length : Int) : Int) := of_decide_eq_true (by first | (with_reducible assumption) | assumption)
                                                    obtain ⟨i043, hi043, _, hsz43, _⟩ := info_parts info5
                                                    have hroom43 : x11_5.length ≤ co44 := (Kd.R_reads' HO_11.out).2.1
                                                    have hC43 : Kd.C (Kd.int .u8) _ Ao44 x11_5.length x11_5 := (Kd.R_reads' HO_11.out).2.2
                                                    have hcut43 := cut_to (P := Try.prog) 34 5 .i64 Try.underlying34 hi043 Ao44 x11_5.length co44 7 (by omega) q43 hroom43
                                                    have hr43 := Kd.C_take (m := 7) hC43 (by omega)
                                                    have hy43 : y269.length = (7 : Int).toNat := (by rw [Ny269.out, List.length_take]; omega)
                                                    rw [← Ny269.out] at hr43
                                                    rw [← hy43] at hcut43
                                                    have HR272 := Aside0.mk hr43
                                                    have HC272 := Aside0.mk (show y269.length ≤ co44 from by omega)
                                                    clear hr43 hC43 hroom43 hi043 hsz43
                                                    have KY43 := Aside0.mk hy43
                                                    clear hy43
                                                    have KL43 := Aside0.mk (show 7 ≤ x11_5.length from by omega)
                                                    replace q43 := eq_true q43
                                                    have hcv45 := Kd.C_string (P := Try.prog) (A := Ao44) (c := co44) Try.underlying34 Try.underlying5 Try.underlying9 (by repeat (first | (with_reducible exact HR272.out) | (with_reducible refine Kd.C_alloc ?_ _) | (with_reducible refine Kd.C_drewN ?_ _) | (with_reducible refine Kd.C_drew ?_) | exact HR272.out))
                                                    (try have hcv45q := fun n_ : Nat => Kd.C_string (P := Try.prog) (A := Ao44) (c := co44) Try.underlying34 Try.underlying5 Try.underlying9 (Kd.C_drewN HR272.out n_))
                                                    have p273 : 0 ≤ (7 : Int) := (by omega)
                                                    have q273 : 7 < (x11_5.length : Int) := of_decide_eq_true (by first | (with_reducible assumption) | assumption)
                                                    obtain ⟨ad273, e273, hx273_0⟩ := Kd.at_int (Kd.R_reads' HO_11.out).2.2 7 p273 q273
                                                    cases e273
                                                    (try simp only [show (7 : Int).toNat = 7 from rfl, Nat.reduceMul, Nat.reduceEqDiff, Go.Addr.add, ↓reduceIte] at hx273_0)
                                                    have qi273 : (7 < x11_5.length) = True := eq_true (by omega)
                                                    (try rw [show ((7 : Int)).toNat = 7 from rfl] at hx273_0)
                                                    replace p273 := eq_true p273
                                                    replace q273 := eq_true q273
                                                    have p42 : 0 ≤ (7 : Int) := (by omega)
                                                    have q42 : 7 < (x9_2.extract 0 8).size := (by have : (7 : Int) < ((x9_2.extract 0 8).size : Int) := of_decide_eq_true (by first | (with_reducible assumption) | assumption); omega)
                                                    have hx42 : ∀ h : 7 < (x9_2.extract 0 8).size, (((x9_2.extract 0 8)[7]'h).toNat : Int) = bt (x9_2.extract 0 8) 7 := bt_at (x9_2.extract 0 8) 7
                                                    clear p42
                                                    have qi42 : (7 < ((x9_2.extract 0 8).size : Int)) = True := eq_true (of_decide_eq_true (by first | (with_reducible assumption) | assumption))
                                                    (try have qi42m : ((7 : Int) ≤ ((min 8 x9_2.size : Nat) : Int)) = True := eq_true (by have h_ := of_eq_true qi42; rw [ByteArray.size_extract] at h_; omega))
                                                    (try have qi42n : ((7 : Int) < ((min 8 x9_2.size : Nat) : Int)) = True := eq_true (by have h_ := of_eq_true qi42; rw [ByteArray.size_extract] at h_; omega))
                                                    replace q42 := eq_true q42
                                                    go_wp2
                                                    repeat (go_quiet (fail); try go_wp2)
                                                    go_ret
                                                    exact ⟨by first | rfl | (simp [errW_none, errW_some] <;> rfl) | (simp [*, errW_none, errW_some] <;> rfl), by repeat (first | (with_reducible first | exact HB.out | apply below_alloc | apply pw_below_drewN | apply below_drew1) | exact HB.out)⟩
                                                  · rw [if_neg c41] at H
                                                    exact absurd H (by simp)
                                                · rw [if_neg c40] at H
                                                  exact absurd H (by simp)
                                              · rw [if_neg c39] at H
                                                exact absurd H (by simp)
                                            · rw [if_neg c38] at H
                                              exact absurd H (by simp)
                                          · rw [if_neg c37] at H
                                            exact absurd H (by simp)
                                        · rw [if_neg c36] at H
                                          exact absurd H (by simp)
                                      · replace c35 := Bool.eq_false_iff.mpr c35
                                        subst c35
                                        have H1 : (none) = some r := by rw [if_neg (show ¬ (false = true) by decide)] at H; exact H
                                        clear H
                                        have H := H1
                                        clear H1
                                        exact absurd H (by simp)
                        · rw [if_neg c17] at H
                          exact absurd H (by simp)
                      · rw [if_neg c15] at H
                        exact absurd H (by simp)
                    · rw [if_neg c14] at H
                      exact absurd H (by simp)

/-- THE ONE PURE STATEMENT of agoralaw03_SumNumbers: yours. -/
def agoralaw03_SumNumbers.Pure : Prop := ∀ (a0 : ByteArray) (a1 : ByteArray) (a2 : ByteArray), a0.size ≤ 140737488351232 → a1.size ≤ 140737488351232 → a2.size ≤ 140737488351232 → ∃ k, agoralaw03_SumNumbers.f k a0 a1 a2 = some true
theorem agoralaw03_SumNumbers.walk (P : agoralaw03_SumNumbers.Pure) (a0 : ByteArray) (a1 : ByteArray) (a2 : ByteArray) (w : World) (w0 : a0.size ≤ 140737488351232) (w1 : a1.size ≤ 140737488351232) (w2 : a2.size ≤ 140737488351232) :
    Calls Try.prog 8 #[.string a0, .string a1, .string a2] w fun e w' => e = .returned (.bool true) ∧ Below w.heap.size w w' := by
  obtain ⟨k, h⟩ := P a0 a1 a2 w0 w1 w2
  refine (agoralaw03_SumNumbers.calls k a0 a1 a2 true w h).mono ?_
  rintro e w' ⟨rfl, hd⟩
  exact ⟨rfl, hd⟩

end Go.Proofs.Ytloieoneckjjeaa.P
