/- Texts of this claim, merged: what the functions that the law reaches compute, and what that says. -/
import Derived.Laws.BitsAllLaws
import Derived.Test.YtggmjfonhcinhaaKB5
import Derived.Test.YtggmjfonhcinhaaKB12
section ShaF_
namespace Go.Proofs.Ytggmjfonhcinhaa.ShaL
open Go.RowKit Go.Proofs.Ytggmjfonhcinhaa.P Go.Proofs.YtggmjfonhcinhaaW.PrintWords Go.Proofs.YtggmjfonhcinhaaW.PrintLast Go.Proofs.YtggmjfonhcinhaaW.PrintMore
set_option linter.unusedVariables false
theorem or_nat (a b : Nat) (ha : a < 4294967296) (hb : b < 4294967296) : Go.bits .or .u32 (a : Int) (b : Int) = ((a ||| b : Nat) : Int) := u32_or_nat a b ha hb
theorem xor_nat (a b : Nat) (ha : a < 4294967296) (hb : b < 4294967296) : Go.bits .xor .u32 (a : Int) (b : Int) = ((a ^^^ b : Nat) : Int) := u32_xor_nat a b ha hb
theorem and_nat (a b : Nat) (ha : a < 4294967296) (hb : b < 4294967296) : Go.bits .and .u32 (a : Int) (b : Int) = ((a &&& b : Nat) : Int) := u32_and_nat a b ha hb
/-- bits.RotateLeft32 by a negative count -/
theorem rot_eq (x n : Nat) (hx : x < 4294967296) (h0 : 0 < n) (hn : n < 32) : bits_RotateLeft32.f x (-(n : Int)) = some ((rotr x n : Nat) : Int) := by
  unfold bits_RotateLeft32.f
  have e1 : Go.bits .and .u64 (IntKind.u64.wrap (-(n : Int))) 31 = ((32 - n : Nat) : Int) := by
    rw [IntKind.wrap_u64, show (-(n : Int)) % 18446744073709551616 = ((18446744073709551616 - n : Nat) : Int) by omega, u64_and _ 31 (by omega) (by omega) (by omega) (by omega), Int.toNat_natCast,
      show (31 : Int).toNat = 2 ^ 5 - 1 from rfl, Nat.and_two_pow_sub_one_eq_mod]
    omega
  have e2 : IntKind.u64.wrap (32 - ((32 - n : Nat) : Int)) = (n : Int) := by rw [IntKind.wrap_u64]; omega
  rw [e1, e2, if_pos (by omega), if_pos (by omega)]
  have e3 : shl .u32 (x : Int) ((32 - n : Nat) : Int) = (((x <<< (32 - n)) % 4294967296 : Nat) : Int) := by
    unfold shl
    rw [Int.toNat_natCast, show min (32 - n) IntKind.u32.bits = 32 - n by have : IntKind.u32.bits = 32 := rfl; omega, IntKind.wrap_u32', Nat.shiftLeft_eq]
    simp only [Int.natCast_emod, Int.natCast_mul, Int.natCast_pow]; rfl
  have e4 : shr .u32 (x : Int) (n : Int) = ((x >>> n : Nat) : Int) := by
    unfold shr
    rw [Int.toNat_natCast, show min n IntKind.u32.bits = n by have : IntKind.u32.bits = 32 := rfl; omega, Nat.shiftRight_eq_div_pow]
    simp only [Int.natCast_ediv, Int.natCast_pow]; rfl
  rw [e3, e4, or_nat _ _ (Nat.mod_lt _ (by decide)) (Nat.lt_of_le_of_lt (Nat.shiftRight_le x n) hx)]
  unfold rotr; rw [Nat.or_comm]
theorem rots_eq (x a b c : Nat) (hx : x < 4294967296) (ha : 0 < a ∧ a < 32) (hb : 0 < b ∧ b < 32) (hc : 0 < c ∧ c < 32) :
    sum_rotations.f x a b c = some ((rotr x a ^^^ rotr x b ^^^ rotr x c : Nat) : Int) := by
  unfold sum_rotations.f
  have w (n : Nat) (h : n < 32) : wrap64 (-(n : Int)) = -(n : Int) := by unfold wrap64; omega
  rw [w a ha.2, w b hb.2, w c hc.2, rot_eq x a hx ha.1 ha.2, Option.bind_some, rot_eq x b hx hb.1 hb.2, Option.bind_some, rot_eq x c hx hc.1 hc.2, Option.bind_some,
    xor_nat _ _ (rotr_lt _ _ hx) (rotr_lt _ _ hx), xor_nat _ _ (xor_lt _ _ (rotr_lt _ _ hx) (rotr_lt _ _ hx)) (rotr_lt _ _ hx)]
theorem or_add (a b k : Nat) (hb : b < 2 ^ k) : a * 2 ^ k ||| b = a * 2 ^ k + b := by
  rw [Nat.mul_comm, ← Nat.two_pow_add_eq_or_of_lt hb]
/-- a string's bytes as numbers -/
def bts (s : ByteArray) : List Nat := s.data.toList.map UInt8.toNat
theorem bts_length (s : ByteArray) : (bts s).length = s.size := by rw [bts, List.length_map, Array.length_toList]; rfl
theorem bts_lt (s : ByteArray) : ∀ n ∈ bts s, n < 256 := by
  intro n hn
  rw [bts, List.mem_map] at hn
  obtain ⟨b, _, rfl⟩ := hn
  exact b.toNat_lt
theorem bts_extract (s : ByteArray) (a b : Nat) : bts (s.extract a b) = ((bts s).drop a).take (b - a) := by
  unfold bts
  rw [ByteArray.data_extract, Array.toList_extract, List.extract_eq_take_drop, List.map_take, List.map_drop]
theorem bt_nat (s : ByteArray) (j : Nat) (h : j < s.size) : bt s (j : Int) = ((bts s).getD j 0 : Nat) := by
  rw [← bt_at s (j : Int) (by rw [Int.toNat_natCast]; exact h), bts, List.getD_eq_getElem?_getD, List.getElem?_map, Array.getElem?_toList]
  have h' : j < s.data.size := h
  rw [Array.getElem?_eq_getElem h']
  rfl
theorem word_eq (s : ByteArray) (i : Nat) (h : 4 * i + 4 ≤ s.size) : sum_word.f (s.extract (4 * i) s.size) = some ((word (bts s) i : Nat) : Int) := by
  unfold sum_word.f
  have hs : (s.extract (4 * i) s.size).size = s.size - 4 * i := by rw [ByteArray.size_extract]; omega
  have hb (j : Nat) (hj : j < 4) : bt (s.extract (4 * i) s.size) (j : Int) = ((bts s).getD (4 * i + j) 0 : Nat) := by
    rw [bt_nat _ j (by omega), bts_extract]
    simp only [List.getD_eq_getElem?_getD]
    rw [List.getElem?_take, if_pos (by omega), List.getElem?_drop]
  have g : ∀ j, (bts s).getD j 0 < 256 := fun j => by
    rw [List.getD_eq_getElem?_getD]
    cases e : (bts s)[j]? with
    | none => simp
    | some x => simpa using bts_lt s x (List.mem_of_getElem? e)
  have b0 := hb 0 (by decide)
  have b1 := hb 1 (by decide)
  have b2 := hb 2 (by decide)
  have b3 := hb 3 (by decide)
  rw [show ((0 : Nat) : Int) = 0 from rfl, Nat.add_zero] at b0
  rw [show ((1 : Nat) : Int) = 1 from rfl] at b1
  rw [show ((2 : Nat) : Int) = 2 from rfl] at b2
  rw [show ((3 : Nat) : Int) = 3 from rfl] at b3
  rw [if_pos (by omega), if_pos (by omega), if_pos (by omega), if_pos (by omega), b0, b1, b2, b3]
  have g0 := g (4 * i)
  have g1 := g (4 * i + 1)
  have g2 := g (4 * i + 2)
  have g3 := g (4 * i + 3)
  unfold word
  generalize (bts s).getD (4 * i) 0 = x0 at *
  generalize (bts s).getD (4 * i + 1) 0 = x1 at *
  generalize (bts s).getD (4 * i + 2) 0 = x2 at *
  generalize (bts s).getD (4 * i + 3) 0 = x3 at *
  clear b0 b1 b2 b3 hb hs g h
  have e0 : (x0 : Int) % 4294967296 * 16777216 % 4294967296 = ((x0 * 16777216 : Nat) : Int) := by omega
  have e1 : (x1 : Int) % 4294967296 * 65536 % 4294967296 = ((x1 * 65536 : Nat) : Int) := by omega
  have e2 : (x2 : Int) % 4294967296 * 256 % 4294967296 = ((x2 * 256 : Nat) : Int) := by omega
  have e3 : (x3 : Int) % 4294967296 = (x3 : Int) := by omega
  have o1 : x0 * 16777216 ||| x1 * 65536 = x0 * 16777216 + x1 * 65536 := or_add x0 (x1 * 65536) 24 (by omega)
  have o2 : x0 * 16777216 + x1 * 65536 ||| x2 * 256 = x0 * 16777216 + x1 * 65536 + x2 * 256 := by
    have := or_add (x0 * 256 + x1) (x2 * 256) 16 (by omega)
    rw [show (x0 * 256 + x1) * 2 ^ 16 = x0 * 16777216 + x1 * 65536 by omega] at this; exact this
  have o3 : x0 * 16777216 + x1 * 65536 + x2 * 256 ||| x3 = x0 * 16777216 + x1 * 65536 + x2 * 256 + x3 := by
    have := or_add (x0 * 65536 + x1 * 256 + x2) x3 8 (by omega)
    rw [show (x0 * 65536 + x1 * 256 + x2) * 2 ^ 8 = x0 * 16777216 + x1 * 65536 + x2 * 256 by omega] at this; exact this
  rw [e0, e1, e2, e3, or_nat _ _ (by omega) (by omega), o1, or_nat _ _ (by omega) (by omega), o2, or_nat _ _ (by omega) (by omega), o3]
end Go.Proofs.Ytggmjfonhcinhaa.ShaL
end ShaF_
section P15_
namespace Go.Proofs.Ytggmjfonhcinhaa.P
open Go.RowKit Go.Proofs.YtggmjfonhcinhaaW.PrintWords Go.Proofs.YtggmjfonhcinhaaW.PrintLast Go.Proofs.YtggmjfonhcinhaaW.PrintMore
attribute [local go_sem] max2_int min2_int max_two min_two max_three min_three max_four min_four   -- for this text's walks alone
set_option linter.unusedVariables false
set_option linter.unusedSimpArgs false
private theorem field38_0_ (c0 c1 : Value) (w : World) : (Instr.field 38 (.agg #[c0, c1]) 0).run Try.prog w = .ok c0 w := by kernel_rfl
private theorem field38_1_ (c0 c1 : Value) (w : World) : (Instr.field 38 (.agg #[c0, c1]) 1).run Try.prog w = .ok c1 w := by kernel_rfl
attribute [local go_sem] field38_0_ field38_1_
mutual
def agoralaw07_chosen.l0 : Nat → List (S38) → List Int → List (S38) → Int → Option ((List (S38)))
  | 0, _, _, _, _ => none
  | k + 1, x0, x1, x5, x6 => if x6 < (x1.length : Int) then (agoralaw07_chosen.j1 k x0 x1 x5 x6 (decide (x6 < 24))) else (agoralaw07_chosen.j1 k x0 x1 x5 x6 false)
def agoralaw07_chosen.j1 : Nat → List (S38) → List Int → List (S38) → Int → Bool → Option ((List (S38)))
  | 0, _, _, _, _, _ => none
  | k + 1, x0, x1, x5, x6, x16 => if x16 = true then (if 0 ≤ x6 then (if x6 < (x1.length : Int) then (if (rd x1 x6) ≥ 0 then (agoralaw07_chosen.j2 k x0 x1 x5 x6 (decide ((rd x1 x6) < (x0.length : Int)))) else (agoralaw07_chosen.j2 k x0 x1 x5 x6 false)) else (none)) else (none)) else (some x5)
def agoralaw07_chosen.j2 : Nat → List (S38) → List Int → List (S38) → Int → Bool → Option ((List (S38)))
  | 0, _, _, _, _, _ => none
  | k + 1, x0, x1, x5, x6, x32 => if x32 = true then (agoralaw07_chosen.l1 k x0 x1 x5 x6 false 0) else (agoralaw07_chosen.l0 k x0 x1 x5 (wrap64 (x6 + 1)))
def agoralaw07_chosen.l1 : Nat → List (S38) → List Int → List (S38) → Int → Bool → Int → Option ((List (S38)))
  | 0, _, _, _, _, _, _ => none
  | k + 1, x0, x1, x5, x6, x7, x8 => if x8 < (x5.length : Int) then (if x7 = true then (agoralaw07_chosen.l1 k x0 x1 x5 x6 true (wrap64 (x8 + 1))) else (if 0 ≤ x8 then (if 0 ≤ x6 then (if x6 < (x1.length : Int) then (if 0 ≤ (rd x1 x6) then (if (rd x1 x6) < (x0.length : Int) then (agoralaw07_chosen.l1 k x0 x1 x5 x6 (((rd_T38 x5 x8).f0) == ((rd_T38 x0 (rd x1 x6)).f0)) (wrap64 (x8 + 1))) else (none)) else (none)) else (none)) else (none)) else (none))) else (if x7 = true then (agoralaw07_chosen.l0 k x0 x1 x5 (wrap64 (x6 + 1))) else (if 0 ≤ x6 then (if x6 < (x1.length : Int) then (if 0 ≤ (rd x1 x6) then (if (rd x1 x6) < (x0.length : Int) then (if x5.length < 8796093022208 then (agoralaw07_chosen.l0 k x0 x1 (x5 ++ [(⟨(rd_T38 x0 (rd x1 x6)).f0, (rd_T38 x0 (rd x1 x6)).f1⟩ : S38)]) (wrap64 (x6 + 1))) else (none)) else (none)) else (none)) else (none)) else (none)))
end
def agoralaw07_chosen.f (k : Nat) (l0 : List (S38)) (l1 : List Int) : Option ((List (S38))) := agoralaw07_chosen.l0 k l0 l1 ([] : List (S38)) 0
set_option maxHeartbeats 8000000 in
set_option maxRecDepth 100000 in
theorem agoralaw07_chosen.calls (k : Nat) (A0 : Option Addr) (c0 : Nat) (l0 : List (S38)) (A1 : Option Addr) (c1 : Nat) (l1 : List Int) (r : List (S38)) (w : World) (hr0 : Kd.C k38 w A0 l0.length l0) (hc0 : l0.length ≤ c0) (hr1 : Kd.C (Kd.int .i64) w A1 l1.length l1) (hc1 : l1.length ≤ c1) (h : agoralaw07_chosen.f k l0 l1 = some r) :
    Calls Try.prog 16 #[.slice A0 l0.length c0, .slice A1 l1.length c1] w fun e w' => ∃ v0_ : Value, e = .returned (v0_) ∧ Kd.R k38 38 w' w.heap.size (fun _ => True) v0_ r ∧ Below w.heap.size w w' := by
  have hu38 := Try.underlying38
  have HR0 := Aside0.mk hr0
  have HC0 := Aside0.mk hc0
  clear hr0 hc0
  have HR1 := Aside0.mk hr1
  have HC1 := Aside0.mk hc1
  clear hr1 hc1
  have HB := Aside0.mk (Below.refl w.heap.size w)
  have H : (agoralaw07_chosen.l0 k l0 l1 ([] : List (S38)) 0) = some r := h
  clear h
  have H' := Aside0.mk H
  clear H
  go_enter Try.func16, Try.ntmps16
  go_wp2
  repeat (go_quiet (fail); try go_wp2)
  go_loopg [5, 6] k (fun kq v5 v6 w' => ∃ (x5_1 : List (S38)) (x6_1 : Int), v6 = .int .i64 x6_1 ∧ Aside0 (agoralaw07_chosen.l0 kq l0 l1 x5_1 x6_1 = some r) ∧ Aside0 (kq ≤ k) ∧ Aside0 (Kd.R k38 38 w' w.heap.size (fun _ => True) v5 x5_1) ∧ Aside0 (Below w.heap.size w w'))
  case atStart => exact ⟨(([] : List (S38))), (0), (by first | rfl | (simp; done) | (simp [*]; done)), H', ⟨Nat.le_refl _⟩, ⟨by first | exact Kd.R_nil _ _ _ _ _ | exact Kd.N_nil _ _ _ _ _ | exact Kd.V_nil _ _ _ _ _ | exact Kd.Q_nil _ _ _ _ _ | exact Kd.S_nil _ _ _ _ _⟩, ⟨by repeat (first | (with_reducible first | exact HB.out | apply below_alloc | apply pw_below_drewN | apply below_drew1) | exact HB.out)⟩⟩
  case round =>
    clear H'
    try clear c1
    try clear p2
    obtain ⟨x5_1, x6_1, rfl, HA, HK1, HO_5, HB⟩ := hrel
    cases gk with
    | zero => exact absurd HA.out (by simp [agoralaw07_chosen.l0])
    | succ k1 =>
      have H := HA.out
      clear HA
      simp only [agoralaw07_chosen.l0] at H
      have HC3 := Aside0.mk H
      clear H
      go_upto_region 3 with (fail)
      repeat (go_quiet (fail); go_upto_region 3 with (fail))
      go_cut [16] (fun v16 wc => ∃ (kq : Nat) (x16_2 : Bool), v16 = .bool x16_2 ∧ Aside0 (agoralaw07_chosen.j1 kq l0 l1 x5_1 x6_1 x16_2 = some r) ∧ Aside0 (kq ≤ k1) ∧ Aside0 (Kd.R k38 38 wc w.heap.size (fun _ => True) u5 x5_1) ∧ Aside0 (Below w.heap.size w wc))
      case first =>
        have H := HC3.out
        clear HC3
        by_cases c4 : x6_1 < (l1.length : Int)
        · rw [if_pos c4] at H
          have c4b0 : decide (x6_1 < (l1.length : Int)) = true := decide_eq_true c4
          clear c4
          (first | rw [c4b0] | (simp only [i64_w, i32_w]; rw [c4b0]) | skip)
          have H' := Aside0.mk H
          clear H
          go_wp2
          repeat (go_quiet (fail); try go_wp2)
          go_meet
          case rel => exact ⟨_, (decide (x6_1 < 24)), (by first | rfl | (simp; done) | (simp [*]; done)), H', ⟨by have := HK1.out; first | omega | exact Nat.le_refl _⟩, ⟨by (with_reducible repeat (first | apply Kd.R_alloc | apply Kd.R_drewN | apply Kd.R_drew)); exact HO_5.out⟩, ⟨by repeat (first | (with_reducible first | exact HB.out | apply below_alloc | apply pw_below_drewN | apply below_drew1) | exact HB.out)⟩⟩
        · rw [if_neg c4] at H
          have c4b0 : decide (x6_1 < (l1.length : Int)) = false := decide_eq_false c4
          clear c4
          (first | rw [c4b0] | (simp only [i64_w, i32_w]; rw [c4b0]) | skip)
          have H' := Aside0.mk H
          clear H
          go_wp2
          repeat (go_quiet (fail); try go_wp2)
          go_meet
          case rel => exact ⟨_, (false), (by first | rfl | (simp; done) | (simp [*]; done)), H', ⟨by have := HK1.out; first | omega | exact Nat.le_refl _⟩, ⟨by (with_reducible repeat (first | apply Kd.R_alloc | apply Kd.R_drewN | apply Kd.R_drew)); exact HO_5.out⟩, ⟨by repeat (first | (with_reducible first | exact HB.out | apply below_alloc | apply pw_below_drewN | apply below_drew1) | exact HB.out)⟩⟩
      case rest =>
        clear HC3
        try clear c1
        try clear p2
        try clear c4
        try clear c4b0
        try clear p2
        obtain ⟨kq, x16_2, rfl, HA, HJ2, HO_5, HB⟩ := hcut
        cases kq with
        | zero => exact absurd HA.out (by simp [agoralaw07_chosen.j1])
        | succ kj2 =>
          have H := HA.out
          clear HA
          simp only [agoralaw07_chosen.j1] at H
          by_cases c5 : x16_2 = true
          · subst c5
            have H1 : (if 0 ≤ x6_1 then (if x6_1 < (l1.length : Int) then (if (rd l1 x6_1) ≥ 0 then (agoralaw07_chosen.j2 kj2 l0 l1 x5_1 x6_1 (decide ((rd l1 x6_1) < (l0.length : Int)))) else (agoralaw07_chosen.j2 kj2 l0 l1 x5_1 x6_1 false)) else (none)) else (none)) = some r := by rw [if_pos rfl] at H; exact H
            clear H
            have H := H1
            clear H1
            have HC6 := Aside0.mk H
            clear H
            go_upto_region 5 with (fail)
            repeat (go_quiet (fail); go_upto_region 5 with (fail))
            go_cut [32] (fun v32 wc => ∃ (kq : Nat) (x32_5 : Bool), v32 = .bool x32_5 ∧ Aside0 (agoralaw07_chosen.j2 kq l0 l1 x5_1 x6_1 x32_5 = some r) ∧ Aside0 (kq ≤ kj2) ∧ Aside0 (Kd.R k38 38 wc w.heap.size (fun _ => True) u5 x5_1) ∧ Aside0 (Below w.heap.size w wc))
            case first =>
              have H := HC6.out
              clear HC6
              by_cases c7 : 0 ≤ x6_1
              · rw [if_pos c7] at H
                have c7b0 : decide (0 ≤ x6_1) = true := decide_eq_true c7
                clear c7
                (first | rw [c7b0] | (simp only [i64_w, i32_w]; rw [c7b0]) | skip)
                by_cases c8 : x6_1 < (l1.length : Int)
                · rw [if_pos c8] at H
                  have c8b0 : decide (x6_1 < (l1.length : Int)) = true := decide_eq_true c8
                  clear c8
                  by_cases c9 : (rd l1 x6_1) ≥ 0
                  · rw [if_pos c9] at H
                    have c9b0 : decide (0 ≤ (rd l1 x6_1)) = true := decide_eq_true c9
                    clear c9
                    have H' := Aside0.mk H
                    clear H
                    have p354 : 0 ≤ (x6_1 : Int) := of_decide_eq_true (by first | (with_reducible assumption) | assumption)
                    have q354 : x6_1 < (l1.length : Int) := of_decide_eq_true (by first | (with_reducible assumption) | assumption)
                    obtain ⟨ad354, e354, hx354_0⟩ := Kd.at_int HR1.out x6_1 p354 q354
                    cases e354
                    replace hx354_0 := (HB.out.cell (World.block_lt_of_cell? w _ hx354_0)).trans hx354_0
                    replace p354 := eq_true p354
                    replace q354 := eq_true q354
                    have p355 : 0 ≤ (x6_1 : Int) := of_decide_eq_true (by first | (with_reducible assumption) | assumption)
                    have q355 : x6_1 < (l1.length : Int) := of_decide_eq_true (by first | (with_reducible assumption) | assumption)
                    obtain ⟨ad355, e355, hx355_0⟩ := Kd.at_int HR1.out x6_1 p355 q355
                    obtain rfl : ad354 = ad355 := (by injection e355)
                    replace hx355_0 := (HB.out.cell (World.block_lt_of_cell? w _ hx355_0)).trans hx355_0
                    replace p355 := eq_true p355
                    replace q355 := eq_true q355
                    go_wp2
                    repeat (go_quiet (fail); try go_wp2)
                    go_meet
                    case rel => exact ⟨_, (decide ((rd l1 x6_1) < (l0.length : Int))), (by first | rfl | (simp; done) | (simp [*]; done)), H', ⟨by have := HK1.out; have := HJ2.out; first | omega | exact Nat.le_refl _⟩, ⟨by (with_reducible repeat (first | apply Kd.R_alloc | apply Kd.R_drewN | apply Kd.R_drew)); exact HO_5.out⟩, ⟨by repeat (first | (with_reducible first | exact HB.out | apply below_alloc | apply pw_below_drewN | apply below_drew1) | exact HB.out)⟩⟩
                  · rw [if_neg c9] at H
                    have c9b0 : decide (0 ≤ (rd l1 x6_1)) = false := decide_eq_false c9
                    clear c9
                    have H' := Aside0.mk H
                    clear H
                    have p354 : 0 ≤ (x6_1 : Int) := of_decide_eq_true (by first | (with_reducible assumption) | assumption)
                    have q354 : x6_1 < (l1.length : Int) := of_decide_eq_true (by first | (with_reducible assumption) | assumption)
                    obtain ⟨ad354, e354, hx354_0⟩ := Kd.at_int HR1.out x6_1 p354 q354
                    cases e354
                    replace hx354_0 := (HB.out.cell (World.block_lt_of_cell? w _ hx354_0)).trans hx354_0
                    replace p354 := eq_true p354
                    replace q354 := eq_true q354
                    go_wp2
                    repeat (go_quiet (fail); try go_wp2)
                    go_meet
                    case rel => exact ⟨_, (false), (by first | rfl | (simp; done) | (simp [*]; done)), H', ⟨by have := HK1.out; have := HJ2.out; first | omega | exact Nat.le_refl _⟩, ⟨by (with_reducible repeat (first | apply Kd.R_alloc | apply Kd.R_drewN | apply Kd.R_drew)); exact HO_5.out⟩, ⟨by repeat (first | (with_reducible first | exact HB.out | apply below_alloc | apply pw_below_drewN | apply below_drew1) | exact HB.out)⟩⟩
                · rw [if_neg c8] at H
                  exact absurd H (by simp)
              · rw [if_neg c7] at H
                exact absurd H (by simp)
            case rest =>
              clear HC6
              try clear c1
              try clear p2
              try clear p3
              try clear q3
              try clear hx3
              try clear c4
              try clear c4b0
              try clear c5
              try clear c7
              try clear c7b0
              try clear c8
              try clear c8b0
              try clear c9
              try clear c9b0
              try clear hx354_0
              try clear hx355_0
              try clear p2
              try clear p354
              try clear p355
              try clear q354
              try clear q355
              obtain ⟨kq, x32_5, rfl, HA, HJ5, HO_5, HB⟩ := hcut
              cases kq with
              | zero => exact absurd HA.out (by simp [agoralaw07_chosen.j2])
              | succ kj5 =>
                have H := HA.out
                clear HA
                simp only [agoralaw07_chosen.j2] at H
                by_cases c10 : x32_5 = true
                · subst c10
                  have H1 : (agoralaw07_chosen.l1 kj5 l0 l1 x5_1 x6_1 false 0) = some r := by rw [if_pos rfl] at H; exact H
                  clear H
                  have H := H1
                  clear H1
                  have H' := Aside0.mk H
                  clear H
                  go_wp2
                  repeat (go_quiet (fail); try go_wp2)
                  go_loopg [7, 8] kj5 (fun kq v7 v8 w' => ∃ (x7_4 : Bool) (x8_4 : Int), v7 = .bool x7_4 ∧ v8 = .int .i64 x8_4 ∧ Aside0 (agoralaw07_chosen.l1 kq l0 l1 x5_1 x6_1 x7_4 x8_4 = some r) ∧ Aside0 (kq ≤ kj5) ∧ Aside0 (Kd.R k38 38 w' w.heap.size (fun _ => True) u5 x5_1) ∧ Aside0 (Below w.heap.size w w'))
                  case atStart => exact ⟨(false), (0), (by first | rfl | (simp; done) | (simp [*]; done)), (by first | rfl | (simp; done) | (simp [*]; done)), H', ⟨Nat.le_refl _⟩, ⟨by (with_reducible repeat (first | apply Kd.R_alloc | apply Kd.R_drewN | apply Kd.R_drew)); exact HO_5.out⟩, ⟨by repeat (first | (with_reducible first | exact HB.out | apply below_alloc | apply pw_below_drewN | apply below_drew1) | exact HB.out)⟩⟩
                  case round =>
                    clear H'
                    try clear c1
                    try clear p2
                    try clear p3
                    try clear q3
                    try clear hx3
                    try clear c4
                    try clear c4b0
                    try clear c5
                    try clear c7
                    try clear c7b0
                    try clear c8
                    try clear c8b0
                    try clear c9
                    try clear c9b0
                    try clear c10
                    try clear hx354_0
                    try clear hx355_0
                    try clear p2
                    try clear p3
                    try clear p354
                    try clear p355
                    try clear q3
                    try clear q354
                    try clear q355
                    obtain ⟨x7_4, x8_4, rfl, rfl, HA, HK4, HO_5, HB⟩ := hrel
                    cases gk with
                    | zero => exact absurd HA.out (by simp [agoralaw07_chosen.l1])
                    | succ k4 =>
                      have H := HA.out
                      clear HA
                      simp only [agoralaw07_chosen.l1] at H
                      by_cases c11 : x8_4 < (x5_1.length : Int)
                      · rw [if_pos c11] at H
                        have c11b0 : decide (x8_4 < (x5_1.length : Int)) = true := decide_eq_true c11
                        clear c11
                        by_cases c12 : x7_4 = true
                        · subst c12
                          have H1 : (agoralaw07_chosen.l1 k4 l0 l1 x5_1 x6_1 true (wrap64 (x8_4 + 1))) = some r := by rw [if_pos rfl] at H; exact H
                          clear H
                          have H := H1
                          clear H1
                          have H' := Aside0.mk H
                          clear H
                          obtain ⟨Ao13, co13, eo13⟩ := Kd.R_slice HO_5.out
                          subst eo13
                          go_wp2
                          repeat (go_quiet (fail); try go_wp2)
                          go_roundg k4
                          case measure => have := HK1.out; have := HJ2.out; have := HJ5.out; have := HK4.out; omega
                          case rel => exact ⟨(true), (wrap64 (x8_4 + 1)), (by first | rfl | (simp; done) | (simp [*]; done)), (by first | rfl | (simp; done) | (simp [*]; done)), H', ⟨by have := HK1.out; have := HJ2.out; have := HJ5.out; have := HK4.out; omega⟩, ⟨by (with_reducible repeat (first | apply Kd.R_alloc | apply Kd.R_drewN | apply Kd.R_drew)); exact HO_5.out⟩, ⟨by repeat (first | (with_reducible first | exact HB.out | apply below_alloc | apply pw_below_drewN | apply below_drew1) | exact HB.out)⟩⟩
                        · replace c12 := Bool.eq_false_iff.mpr c12
                          subst c12
                          have H1 : (if 0 ≤ x8_4 then (if 0 ≤ x6_1 then (if x6_1 < (l1.length : Int) then (if 0 ≤ (rd l1 x6_1) then (if (rd l1 x6_1) < (l0.length : Int) then (agoralaw07_chosen.l1 k4 l0 l1 x5_1 x6_1 (((rd_T38 x5_1 x8_4).f0) == ((rd_T38 l0 (rd l1 x6_1)).f0)) (wrap64 (x8_4 + 1))) else (none)) else (none)) else (none)) else (none)) else (none)) = some r := by rw [if_neg (show ¬ (false = true) by decide)] at H; exact H
                          clear H
                          have H := H1
                          clear H1
                          by_cases c14 : 0 ≤ x8_4
                          · rw [if_pos c14] at H
                            have c14b0 : decide (0 ≤ x8_4) = true := decide_eq_true c14
                            clear c14
                            by_cases c15 : 0 ≤ x6_1
                            · rw [if_pos c15] at H
                              have c15b0 : decide (0 ≤ x6_1) = true := decide_eq_true c15
                              clear c15
                              by_cases c16 : x6_1 < (l1.length : Int)
                              · rw [if_pos c16] at H
                                have c16b0 : decide (x6_1 < (l1.length : Int)) = true := decide_eq_true c16
                                clear c16
                                by_cases c17 : 0 ≤ (rd l1 x6_1)
                                · rw [if_pos c17] at H
                                  have c17b0 : decide (0 ≤ (rd l1 x6_1)) = true := decide_eq_true c17
                                  clear c17
                                  by_cases c18 : (rd l1 x6_1) < (l0.length : Int)
                                  · rw [if_pos c18] at H
                                    have c18b0 : decide ((rd l1 x6_1) < (l0.length : Int)) = true := decide_eq_true c18
                                    clear c18
                                    have H' := Aside0.mk H
                                    clear H
                                    obtain ⟨Ao19, co19, eo19⟩ := Kd.R_slice HO_5.out
                                    subst eo19
                                    have p356 : 0 ≤ (x8_4 : Int) := of_decide_eq_true (by first | (with_reducible assumption) | assumption)
                                    have q356 : x8_4 < (x5_1.length : Int) := of_decide_eq_true (by first | (with_reducible assumption) | assumption)
                                    obtain ⟨ad356, e356, hx356_0, hx356_1⟩ := at_T38 (Kd.R_reads' HO_5.out).2.2 x8_4 p356 q356
                                    cases e356
                                    replace p356 := eq_true p356
                                    replace q356 := eq_true q356
                                    have p357 : 0 ≤ (x6_1 : Int) := of_decide_eq_true (by first | (with_reducible assumption) | assumption)
                                    have q357 : x6_1 < (l1.length : Int) := of_decide_eq_true (by first | (with_reducible assumption) | assumption)
                                    obtain ⟨ad357, e357, hx357_0⟩ := Kd.at_int HR1.out x6_1 p357 q357
                                    cases e357
                                    replace hx357_0 := (HB.out.cell (World.block_lt_of_cell? w _ hx357_0)).trans hx357_0
                                    replace p357 := eq_true p357
                                    replace q357 := eq_true q357
                                    have p358 : 0 ≤ ((rd l1 x6_1) : Int) := of_decide_eq_true (by first | (with_reducible assumption) | assumption)
                                    have q358 : (rd l1 x6_1) < (l0.length : Int) := of_decide_eq_true (by first | (with_reducible assumption) | assumption)
                                    obtain ⟨ad358, e358, hx358_0, hx358_1⟩ := at_T38 HR0.out (rd l1 x6_1) p358 q358
                                    cases e358
                                    replace hx358_0 := (HB.out.cell (World.block_lt_of_cell? w _ hx358_0)).trans hx358_0
                                    replace hx358_1 := (HB.out.cell (World.block_lt_of_cell? w _ hx358_1)).trans hx358_1
                                    replace p358 := eq_true p358
                                    replace q358 := eq_true q358
                                    go_wp2
                                    repeat (go_quiet (fail); try go_wp2)
                                    go_roundg k4
                                    case measure => have := HK1.out; have := HJ2.out; have := HJ5.out; have := HK4.out; omega
                                    case rel => exact ⟨((((rd_T38 x5_1 x8_4).f0) == ((rd_T38 l0 (rd l1 x6_1)).f0))), (wrap64 (x8_4 + 1)), (by first | rfl | (simp; done) | (simp [*]; done)), (by first | rfl | (simp; done) | (simp [*]; done)), H', ⟨by have := HK1.out; have := HJ2.out; have := HJ5.out; have := HK4.out; omega⟩, ⟨by (with_reducible repeat (first | apply Kd.R_alloc | apply Kd.R_drewN | apply Kd.R_drew)); exact HO_5.out⟩, ⟨by repeat (first | (with_reducible first | exact HB.out | apply below_alloc | apply pw_below_drewN | apply below_drew1) | exact HB.out)⟩⟩
                                  · rw [if_neg c18] at H
                                    exact absurd H (by simp)
                                · rw [if_neg c17] at H
                                  exact absurd H (by simp)
                              · rw [if_neg c16] at H
                                exact absurd H (by simp)
                            · rw [if_neg c15] at H
                              exact absurd H (by simp)
                          · rw [if_neg c14] at H
                            exact absurd H (by simp)
                      · rw [if_neg c11] at H
                        have c11b0 : decide (x8_4 < (x5_1.length : Int)) = false := decide_eq_false c11
                        clear c11
                        by_cases c20 : x7_4 = true
                        · subst c20
                          have H1 : (agoralaw07_chosen.l0 k4 l0 l1 x5_1 (wrap64 (x6_1 + 1))) = some r := by rw [if_pos rfl] at H; exact H
                          clear H
                          have H := H1
                          clear H1
                          have H' := Aside0.mk H
                          clear H
                          obtain ⟨Ao21, co21, eo21⟩ := Kd.R_slice HO_5.out
                          subst eo21
                          go_wp2
                          repeat (go_quiet (fail); try go_wp2)
                          go_roundg k4
                          case measure => have := HK1.out; have := HJ2.out; have := HJ5.out; have := HK4.out; omega
                          case rel => exact ⟨(x5_1), (wrap64 (x6_1 + 1)), (by first | rfl | (simp; done) | (simp [*]; done)), H', ⟨by have := HK1.out; have := HJ2.out; have := HJ5.out; have := HK4.out; omega⟩, ⟨by (with_reducible repeat (first | apply Kd.R_alloc | apply Kd.R_drewN | apply Kd.R_drew)); exact HO_5.out⟩, ⟨by repeat (first | (with_reducible first | exact HB.out | apply below_alloc | apply pw_below_drewN | apply below_drew1) | exact HB.out)⟩⟩
                        · replace c20 := Bool.eq_false_iff.mpr c20
                          subst c20
                          have H1 : (if 0 ≤ x6_1 then (if x6_1 < (l1.length : Int) then (if 0 ≤ (rd l1 x6_1) then (if (rd l1 x6_1) < (l0.length : Int) then (if x5_1.length < 8796093022208 then (agoralaw07_chosen.l0 k4 l0 l1 (x5_1 ++ [(⟨(rd_T38 l0 (rd l1 x6_1)).f0, (rd_T38 l0 (rd l1 x6_1)).f1⟩ : S38)]) (wrap64 (x6_1 + 1))) else (none)) else (none)) else (none)) else (none)) else (none)) = some r := by rw [if_neg (show ¬ (false = true) by decide)] at H; exact H
                          clear H
                          have H := H1
                          clear H1
                          by_cases c22 : 0 ≤ x6_1
                          · rw [if_pos c22] at H
                            have c22b0 : decide (0 ≤ x6_1) = true := decide_eq_true c22
                            clear c22
                            by_cases c23 : x6_1 < (l1.length : Int)
                            · rw [if_pos c23] at H
                              have c23b0 : decide (x6_1 < (l1.length : Int)) = true := decide_eq_true c23
                              clear c23
                              by_cases c24 : 0 ≤ (rd l1 x6_1)
                              · rw [if_pos c24] at H
                                have c24b0 : decide (0 ≤ (rd l1 x6_1)) = true := decide_eq_true c24
                                clear c24
                                by_cases c25 : (rd l1 x6_1) < (l0.length : Int)
                                · rw [if_pos c25] at H
                                  have c25b0 : decide ((rd l1 x6_1) < (l0.length : Int)) = true := decide_eq_true c25
                                  clear c25
                                  by_cases c26 : x5_1.length < 8796093022208
                                  · rw [if_pos c26] at H
                                    have LMc26 := Aside0.mk c26
                                    clear c26
                                    obtain ⟨y361, hy361⟩ : ∃ y_ : List (S38), y_ = (x5_1 ++ [(⟨(rd_T38 l0 (rd l1 x6_1)).f0, (rd_T38 l0 (rd l1 x6_1)).f1⟩ : S38)]) := ⟨_, rfl⟩
                                    replace H : (agoralaw07_chosen.l0 k4 l0 l1 y361 (wrap64 (x6_1 + 1))) = some r := by first | (rw [hy361]; with_reducible exact H) | (have H2_ := (Option.bind_some _ _).symm.trans H; rw [hy361]; with_reducible exact H2_) | (have H2_ := (Option.bind_some _ _).symm.trans H; with_reducible exact H2_) | with_reducible exact H | (rw [hy361]; exact H) | exact H
                                    have Ny361 := Aside0.mk hy361
                                    clear hy361
                                    have H' := Aside0.mk H
                                    clear H
                                    obtain ⟨Ao27, co27, eo27⟩ := Kd.R_slice HO_5.out
                                    subst eo27
                                    have p359 : 0 ≤ (x6_1 : Int) := of_decide_eq_true (by first | (with_reducible assumption) | assumption)
                                    have q359 : x6_1 < (l1.length : Int) := of_decide_eq_true (by first | (with_reducible assumption) | assumption)
                                    obtain ⟨ad359, e359, hx359_0⟩ := Kd.at_int HR1.out x6_1 p359 q359
                                    cases e359
                                    replace hx359_0 := (HB.out.cell (World.block_lt_of_cell? w _ hx359_0)).trans hx359_0
                                    replace p359 := eq_true p359
                                    replace q359 := eq_true q359
                                    have p360 : 0 ≤ ((rd l1 x6_1) : Int) := of_decide_eq_true (by first | (with_reducible assumption) | assumption)
                                    have q360 : (rd l1 x6_1) < (l0.length : Int) := of_decide_eq_true (by first | (with_reducible assumption) | assumption)
                                    obtain ⟨ad360, e360, hx360_0, hx360_1⟩ := at_T38 HR0.out (rd l1 x6_1) p360 q360
                                    cases e360
                                    replace hx360_0 := (HB.out.cell (World.block_lt_of_cell? w _ hx360_0)).trans hx360_0
                                    replace hx360_1 := (HB.out.cell (World.block_lt_of_cell? w _ hx360_1)).trans hx360_1
                                    replace p360 := eq_true p360
                                    replace q360 := eq_true q360
                                    go_wp2_with (first | ((with_reducible refine gate_builtin (b := .append) (xs := #[.tmp 58, .tmp 66]) rfl ?_); (try (refine gate_guard (by rfl) ?_; dsimp only)); at_builtin; refine Kd.R_append k38 (w0 := w) w.heap.size rfl (.tmp 58) (.tmp 66) 22 38 (.agg #[(.int .i64 0), (.int .i64 0)]) 16 rfl Try.underlying22 info38 rfl (by decide) (by omega) (.slice Ao27 x5_1.length co27) x5_1 (⟨(rd_T38 l0 (rd l1 x6_1)).f0, (rd_T38 l0 (rd l1 x6_1)).f1⟩ : S38) [.int .i64 ((rd_T38 l0 (rd l1 x6_1)).f0), .int .i64 ((rd_T38 l0 (rd l1 x6_1)).f1)] (fun _ => True) (fun _ => False) rfl rfl ?aP (fun _ hk => hk.elim) ?aF ?aO ?aB ?aS ?aL ?_; (case aP => exact k38_mkM _ _ _ (⟨(rd_T38 l0 (rd l1 x6_1)).f0, (rd_T38 l0 (rd l1 x6_1)).f1⟩ : S38)); (case aB => exact (by repeat (first | (with_reducible first | exact HB.out | apply below_alloc | apply pw_below_drewN | apply below_drew1) | exact HB.out))); (case aF => exact (fun _ _ => trivial)); (case aO => exact (by (with_reducible repeat (first | apply Kd.R_alloc | apply Kd.R_drewN | apply Kd.R_drew)); exact HO_5.out)); (case aS => exact (below_size (by repeat (first | (with_reducible first | exact HB.out | apply below_alloc | apply pw_below_drewN | apply below_drew1) | exact HB.out)))); (case aL => have := LMc26.out; omega); intro v362 w28 ho hb hg hat; rw [← Ny361.out] at ho; have n0_ := Aside0.mk (hb); have n1_ := Aside0.mk (ho); clear HB; clear HO_5; have HB := n0_; have HO363 := n1_; clear n0_ n1_; clear ho hb hg hat))
                                    repeat (go_quiet (first | ((with_reducible refine gate_builtin (b := .append) (xs := #[.tmp 58, .tmp 66]) rfl ?_); (try (refine gate_guard (by rfl) ?_; dsimp only)); at_builtin; refine Kd.R_append k38 (w0 := w) w.heap.size rfl (.tmp 58) (.tmp 66) 22 38 (.agg #[(.int .i64 0), (.int .i64 0)]) 16 rfl Try.underlying22 info38 rfl (by decide) (by omega) (.slice Ao27 x5_1.length co27) x5_1 (⟨(rd_T38 l0 (rd l1 x6_1)).f0, (rd_T38 l0 (rd l1 x6_1)).f1⟩ : S38) [.int .i64 ((rd_T38 l0 (rd l1 x6_1)).f0), .int .i64 ((rd_T38 l0 (rd l1 x6_1)).f1)] (fun _ => True) (fun _ => False) rfl rfl ?aP (fun _ hk => hk.elim) ?aF ?aO ?aB ?aS ?aL ?_; (case aP => exact k38_mkM _ _ _ (⟨(rd_T38 l0 (rd l1 x6_1)).f0, (rd_T38 l0 (rd l1 x6_1)).f1⟩ : S38)); (case aB => exact (by repeat (first | (with_reducible first | exact HB.out | apply below_alloc | apply pw_below_drewN | apply below_drew1) | exact HB.out))); (case aF => exact (fun _ _ => trivial)); (case aO => exact (by (with_reducible repeat (first | apply Kd.R_alloc | apply Kd.R_drewN | apply Kd.R_drew)); exact HO_5.out)); (case aS => exact (below_size (by repeat (first | (with_reducible first | exact HB.out | apply below_alloc | apply pw_below_drewN | apply below_drew1) | exact HB.out)))); (case aL => have := LMc26.out; omega); intro v362 w28 ho hb hg hat; rw [← Ny361.out] at ho; have n0_ := Aside0.mk (hb); have n1_ := Aside0.mk (ho); clear HB; clear HO_5; have HB := n0_; have HO363 := n1_; clear n0_ n1_; clear ho hb hg hat)); try go_wp2_with (first | ((with_reducible refine gate_builtin (b := .append) (xs := #[.tmp 58, .tmp 66]) rfl ?_); (try (refine gate_guard (by rfl) ?_; dsimp only)); at_builtin; refine Kd.R_append k38 (w0 := w) w.heap.size rfl (.tmp 58) (.tmp 66) 22 38 (.agg #[(.int .i64 0), (.int .i64 0)]) 16 rfl Try.underlying22 info38 rfl (by decide) (by omega) (.slice Ao27 x5_1.length co27) x5_1 (⟨(rd_T38 l0 (rd l1 x6_1)).f0, (rd_T38 l0 (rd l1 x6_1)).f1⟩ : S38) [.int .i64 ((rd_T38 l0 (rd l1 x6_1)).f0), .int .i64 ((rd_T38 l0 (rd l1 x6_1)).f1)] (fun _ => True) (fun _ => False) rfl rfl ?aP (fun _ hk => hk.elim) ?aF ?aO ?aB ?aS ?aL ?_; (case aP => exact k38_mkM _ _ _ (⟨(rd_T38 l0 (rd l1 x6_1)).f0, (rd_T38 l0 (rd l1 x6_1)).f1⟩ : S38)); (case aB => exact (by repeat (first | (with_reducible first | exact HB.out | apply below_alloc | apply pw_below_drewN | apply below_drew1) | exact HB.out))); (case aF => exact (fun _ _ => trivial)); (case aO => exact (by (with_reducible repeat (first | apply Kd.R_alloc | apply Kd.R_drewN | apply Kd.R_drew)); exact HO_5.out)); (case aS => exact (below_size (by repeat (first | (with_reducible first | exact HB.out | apply below_alloc | apply pw_below_drewN | apply below_drew1) | exact HB.out)))); (case aL => have := LMc26.out; omega); intro v362 w28 ho hb hg hat; rw [← Ny361.out] at ho; have n0_ := Aside0.mk (hb); have n1_ := Aside0.mk (ho); clear HB; clear HO_5; have HB := n0_; have HO363 := n1_; clear n0_ n1_; clear ho hb hg hat)))
                                    go_roundg k4
                                    case measure => have := HK1.out; have := HJ2.out; have := HJ5.out; have := HK4.out; omega
                                    case rel => exact ⟨(y361), (wrap64 (x6_1 + 1)), (by first | rfl | (simp; done) | (simp [*]; done)), H', ⟨by have := HK1.out; have := HJ2.out; have := HJ5.out; have := HK4.out; omega⟩, ⟨by (with_reducible repeat (first | apply Kd.R_alloc | apply Kd.R_drewN | apply Kd.R_drew)); exact HO363.out⟩, ⟨by repeat (first | (with_reducible first | exact HB.out | apply below_alloc | apply pw_below_drewN | apply below_drew1) | exact HB.out)⟩⟩
                                  · rw [if_neg c26] at H
                                    exact absurd H (by simp)
                                · rw [if_neg c25] at H
                                  exact absurd H (by simp)
                              · rw [if_neg c24] at H
                                exact absurd H (by simp)
                            · rw [if_neg c23] at H
                              exact absurd H (by simp)
                          · rw [if_neg c22] at H
                            exact absurd H (by simp)
                · replace c10 := Bool.eq_false_iff.mpr c10
                  subst c10
                  have H1 : (agoralaw07_chosen.l0 kj5 l0 l1 x5_1 (wrap64 (x6_1 + 1))) = some r := by rw [if_neg (show ¬ (false = true) by decide)] at H; exact H
                  clear H
                  have H := H1
                  clear H1
                  have H' := Aside0.mk H
                  clear H
                  go_wp2
                  repeat (go_quiet (fail); try go_wp2)
                  go_roundg kj5
                  case measure => have := HK1.out; have := HJ2.out; have := HJ5.out; omega
                  case rel => exact ⟨(x5_1), (wrap64 (x6_1 + 1)), (by first | rfl | (simp; done) | (simp [*]; done)), H', ⟨by have := HK1.out; have := HJ2.out; have := HJ5.out; omega⟩, ⟨by (with_reducible repeat (first | apply Kd.R_alloc | apply Kd.R_drewN | apply Kd.R_drew)); exact HO_5.out⟩, ⟨by repeat (first | (with_reducible first | exact HB.out | apply below_alloc | apply pw_below_drewN | apply below_drew1) | exact HB.out)⟩⟩
          · replace c5 := Bool.eq_false_iff.mpr c5
            subst c5
            have H1 : (some x5_1) = some r := by rw [if_neg (show ¬ (false = true) by decide)] at H; exact H
            clear H
            have H := H1
            clear H1
            obtain rfl := Option.some.inj H
            go_wp2
            repeat (go_quiet (fail); try go_wp2)
            go_ret
            exact ⟨_, by first | rfl | (simp [errW_none, errW_some] <;> rfl) | (simp [*, errW_none, errW_some] <;> rfl), by (with_reducible repeat (first | apply Kd.R_alloc | apply Kd.R_drewN | apply Kd.R_drew)); exact HO_5.out, by repeat (first | (with_reducible first | exact HB.out | apply below_alloc | apply pw_below_drewN | apply below_drew1) | exact HB.out)⟩
end Go.Proofs.Ytggmjfonhcinhaa.P
end P15_
section GrpDiv_
namespace Go.Proofs.Ytggmjfonhcinhaa.Grp
set_option linter.unusedVariables false
open Go.RowKit Go.Proofs.Ytggmjfonhcinhaa.P Go.Proofs.YtggmjfonhcinhaaW.PrintWords Go.Proofs.YtggmjfonhcinhaaW.PrintLast Go.Proofs.YtggmjfonhcinhaaW.PrintMore
theorem wu (n : Int) : IntKind.u64.wrap n = n % 18446744073709551616 := IntKind.wrap_u64 n
theorem wu_in (n : Int) (h0 : 0 ≤ n) (h : n < 18446744073709551616) : IntKind.u64.wrap n = n := by rw [wu]; exact Int.emod_eq_of_lt h0 h
theorem ex_snd {a b c : Int} (h : b = c) : ∃ x, (some (a, b) : Option (Int × Int)) = some (x, c) := ⟨a, by rw [h]⟩
/-- the divisor is one of the two, shifted to the left by three bits -/
def Two (D y0 : Int) : Prop := (D = 18446744073709551608 ∧ y0 = 4294967288) ∨ (D = 18446744073709551600 ∧ y0 = 4294967280)
theorem rest_eq {D y0 u x q : Int} (hD : Two D y0) (h1 : q * D ≤ u * 4294967296 + x) (h2 : u * 4294967296 + x < q * D + D) :
    IntKind.u64.wrap ((IntKind.u64.wrap ((IntKind.u64.wrap (u * 4294967296)) + x)) - (IntKind.u64.wrap (q * D))) = (u * 4294967296 + x) % D := by
  simp only [wu]
  rcases hD with ⟨rfl, rfl⟩ | ⟨rfl, rfl⟩ <;> omega
/-- the lower digit, where the loop ends in this round -/
theorem l1_end {D y0 : Int} (hD : Two D y0) (k : Nat) (x15 : Int) {u x r q : Int} (hu0 : 0 ≤ u) (hu : u < D) (hx0 : 0 ≤ x) (hx : x < 4294967296) (hq : q * 4294967295 + r = u) (hq0 : 0 ≤ q)
    (hr1 : 1 ≤ r) (hr : r < 4294967296) (ho : r * 4294967296 + x - q * y0 < D) :
    ∃ a, bits_Div64.l1 (k + 2) D 3 4294967295 y0 x x15 r u q = some (a, (u * 4294967296 + x) % D / 8) := by
  rw [show k + 2 = (k + 1) + 1 from rfl]
  unfold bits_Div64.l1
  by_cases c1 : q ≥ 4294967296
  · rw [if_pos c1]
    unfold bits_Div64.j4
    have hw : IntKind.u64.wrap (r + 4294967295) = r + 4294967295 := wu_in _ (by omega) (by omega)
    have hw2 : IntKind.u64.wrap (q - 1) = q - 1 := wu_in _ (by omega) (by rcases hD with ⟨rfl, rfl⟩ | ⟨rfl, rfl⟩ <;> omega)
    rw [if_pos rfl, hw, if_pos (by omega), if_pos (by omega), hw2]
    exact ex_snd (by rw [rest_eq hD (by rcases hD with ⟨rfl, rfl⟩ | ⟨rfl, rfl⟩ <;> omega) (by rcases hD with ⟨rfl, rfl⟩ | ⟨rfl, rfl⟩ <;> omega)]; rfl)
  · rw [if_neg c1]
    unfold bits_Div64.j4
    have hw : IntKind.u64.wrap (r + 4294967295) = r + 4294967295 := wu_in _ (by omega) (by omega)
    have ha : IntKind.u64.wrap (q * y0) = q * y0 := wu_in _ (by rcases hD with ⟨rfl, rfl⟩ | ⟨rfl, rfl⟩ <;> omega) (by rcases hD with ⟨rfl, rfl⟩ | ⟨rfl, rfl⟩ <;> omega)
    have hb : IntKind.u64.wrap ((IntKind.u64.wrap (4294967296 * r)) + x) = 4294967296 * r + x := by
      rw [wu_in (4294967296 * r) (by omega) (by omega)]; exact wu_in _ (by omega) (by omega)
    rw [ha, hb]
    by_cases c2 : q * y0 > 4294967296 * r + x
    · have hq1 : 1 ≤ q := by
        rcases hD with ⟨rfl, rfl⟩ | ⟨rfl, rfl⟩ <;> omega
      have hw2 : IntKind.u64.wrap (q - 1) = q - 1 := wu_in _ (by omega) (by omega)
      rw [decide_eq_true c2, if_pos rfl, hw, if_pos (by omega), if_pos (by omega), hw2]
      exact ex_snd (by rw [rest_eq hD (by rcases hD with ⟨rfl, rfl⟩ | ⟨rfl, rfl⟩ <;> omega) (by rcases hD with ⟨rfl, rfl⟩ | ⟨rfl, rfl⟩ <;> omega)]; rfl)
    · rw [decide_eq_false c2, if_neg (by simp), if_pos (by omega)]
      exact ex_snd (by rw [rest_eq hD (by rcases hD with ⟨rfl, rfl⟩ | ⟨rfl, rfl⟩ <;> omega) (by rcases hD with ⟨rfl, rfl⟩ | ⟨rfl, rfl⟩ <;> omega)]; rfl)
/-- the lower digit -/
theorem l1_ok {D y0 : Int} (hD : Two D y0) (k : Nat) (x15 : Int) {u x r q : Int} (hu0 : 0 ≤ u) (hu : u < D) (hx0 : 0 ≤ x) (hx : x < 4294967296) (hq : q * 4294967295 + r = u) (hq0 : 0 ≤ q)
    (hr0 : 0 ≤ r) (hr : r < 4294967295) :
    ∃ a, bits_Div64.l1 (k + 4) D 3 4294967295 y0 x x15 r u q = some (a, (u * 4294967296 + x) % D / 8) := by
  have ho : r * 4294967296 + x - q * y0 < D := by
    rcases hD with ⟨rfl, rfl⟩ | ⟨rfl, rfl⟩ <;> omega
  by_cases h1 : 1 ≤ r
  · exact l1_end hD (k + 2) x15 hu0 hu hx0 hx hq hq0 h1 (by omega) ho
  · obtain rfl : r = 0 := by omega
    have fin : ∀ q', q' = q - 1 → q * y0 > x → 1 ≤ q → ∃ a, bits_Div64.l1 (k + 2) D 3 4294967295 y0 x x15 4294967295 u q' = some (a, (u * 4294967296 + x) % D / 8) := by
      rintro q' rfl hgt hq1
      exact l1_end hD k x15 hu0 hu hx0 hx (by omega) (by omega) (by omega) (by omega) (by rcases hD with ⟨rfl, rfl⟩ | ⟨rfl, rfl⟩ <;> omega)
    have hw : IntKind.u64.wrap (0 + 4294967295) = 4294967295 := by rw [wu]; decide
    rw [show k + 4 = (k + 2 + 1) + 1 from rfl]
    unfold bits_Div64.l1
    by_cases c1 : q ≥ 4294967296
    · rw [if_pos c1]
      unfold bits_Div64.j4
      have hw2 : IntKind.u64.wrap (q - 1) = q - 1 := wu_in _ (by omega) (by rcases hD with ⟨rfl, rfl⟩ | ⟨rfl, rfl⟩ <;> omega)
      rw [if_pos rfl, hw, if_neg (by omega), hw2]
      exact fin _ rfl (by rcases hD with ⟨rfl, rfl⟩ | ⟨rfl, rfl⟩ <;> omega) (by omega)
    · rw [if_neg c1]
      unfold bits_Div64.j4
      have ha : IntKind.u64.wrap (q * y0) = q * y0 := wu_in _ (by rcases hD with ⟨rfl, rfl⟩ | ⟨rfl, rfl⟩ <;> omega) (by rcases hD with ⟨rfl, rfl⟩ | ⟨rfl, rfl⟩ <;> omega)
      have hb : IntKind.u64.wrap ((IntKind.u64.wrap (4294967296 * 0)) + x) = x := by
        rw [wu_in (4294967296 * 0) (by omega) (by omega), wu_in _ (by omega) (by omega)]; omega
      rw [ha, hb]
      by_cases c2 : q * y0 > x
      · have hq1 : 1 ≤ q := by
          rcases hD with ⟨rfl, rfl⟩ | ⟨rfl, rfl⟩ <;> omega
        have hw2 : IntKind.u64.wrap (q - 1) = q - 1 := wu_in _ (by omega) (by omega)
        rw [decide_eq_true c2, if_pos rfl, hw, if_neg (by omega), hw2]
        exact fin _ rfl c2 hq1
      · rw [decide_eq_false c2, if_neg (by simp), if_pos (by omega)]
        exact ex_snd (by rw [rest_eq hD (by rcases hD with ⟨rfl, rfl⟩ | ⟨rfl, rfl⟩ <;> omega) (by rcases hD with ⟨rfl, rfl⟩ | ⟨rfl, rfl⟩ <;> omega)]; rfl)
/-- between the digits -/
theorem j2_ok {D y0 : Int} (hD : Two D y0) (k : Nat) {u x x14 q : Int} (hu0 : 0 ≤ u) (hu : u < D) (hx0 : 0 ≤ x) (hx : x < 4294967296) (h140 : 0 ≤ x14) (h14 : x14 < 4294967296)
    (h1 : q * D ≤ u * 4294967296 + x) (h2 : u * 4294967296 + x < q * D + D) :
    ∃ a, bits_Div64.j2 (k + 5) D 3 4294967295 y0 u x x14 q = some (a, ((u * 4294967296 + x) % D * 4294967296 + x14) % D / 8) := by
  rw [show k + 5 = (k + 4) + 1 from rfl, bits_Div64.j2]
  rw [if_neg (by decide), rest_eq hD h1 h2]
  have hv0 : 0 ≤ (u * 4294967296 + x) % D := by rcases hD with ⟨rfl, rfl⟩ | ⟨rfl, rfl⟩ <;> omega
  have hv : (u * 4294967296 + x) % D < D := by rcases hD with ⟨rfl, rfl⟩ | ⟨rfl, rfl⟩ <;> omega
  have hD64 : D < 18446744073709551616 := by rcases hD with ⟨rfl, rfl⟩ | ⟨rfl, rfl⟩ <;> omega
  generalize (u * 4294967296 + x) % D = v at hv0 hv ⊢
  rw [Int.tdiv_eq_ediv_of_nonneg hv0, wu_in (v / 4294967295) (by omega) (by omega), wu_in (v / 4294967295 * 4294967295) (by omega) (by omega), wu_in (v - v / 4294967295 * 4294967295) (by omega) (by omega)]
  exact l1_ok hD k _ hv0 hv h140 h14 (by omega) (by omega) (by omega) (by omega)
theorem l0_end {D y0 : Int} (hD : Two D y0) (k : Nat) {u x x14 r q : Int} (hu0 : 0 ≤ u) (hu : u < D) (hx0 : 0 ≤ x) (hx : x < 4294967296) (h140 : 0 ≤ x14) (h14 : x14 < 4294967296) (hq : q * 4294967295 + r = u) (hq0 : 0 ≤ q)
    (hr1 : 1 ≤ r) (hr : r < 4294967296) (ho : r * 4294967296 + x - q * y0 < D) :
    ∃ a, bits_Div64.l0 (k + 7) D 3 4294967295 y0 u x x14 q r = some (a, ((u * 4294967296 + x) % D * 4294967296 + x14) % D / 8) := by
  rw [show k + 7 = (k + 5 + 1) + 1 from rfl]
  unfold bits_Div64.l0
  have hw : IntKind.u64.wrap (r + 4294967295) = r + 4294967295 := wu_in _ (by omega) (by omega)
  by_cases c1 : q ≥ 4294967296
  · rw [if_pos c1]
    unfold bits_Div64.j1
    have hw2 : IntKind.u64.wrap (q - 1) = q - 1 := wu_in _ (by omega) (by rcases hD with ⟨rfl, rfl⟩ | ⟨rfl, rfl⟩ <;> omega)
    rw [if_pos rfl, hw, if_pos (by omega), hw2]
    exact j2_ok hD k hu0 hu hx0 hx h140 h14 (by rcases hD with ⟨rfl, rfl⟩ | ⟨rfl, rfl⟩ <;> omega) (by rcases hD with ⟨rfl, rfl⟩ | ⟨rfl, rfl⟩ <;> omega)
  · rw [if_neg c1]
    unfold bits_Div64.j1
    have ha : IntKind.u64.wrap (q * y0) = q * y0 := wu_in _ (by rcases hD with ⟨rfl, rfl⟩ | ⟨rfl, rfl⟩ <;> omega) (by rcases hD with ⟨rfl, rfl⟩ | ⟨rfl, rfl⟩ <;> omega)
    have hb : IntKind.u64.wrap ((IntKind.u64.wrap (4294967296 * r)) + x) = 4294967296 * r + x := by
      rw [wu_in (4294967296 * r) (by omega) (by omega)]; exact wu_in _ (by omega) (by omega)
    rw [ha, hb]
    by_cases c2 : q * y0 > 4294967296 * r + x
    · have hq1 : 1 ≤ q := by
        rcases hD with ⟨rfl, rfl⟩ | ⟨rfl, rfl⟩ <;> omega
      have hw2 : IntKind.u64.wrap (q - 1) = q - 1 := wu_in _ (by omega) (by omega)
      rw [decide_eq_true c2, if_pos rfl, hw, if_pos (by omega), hw2]
      exact j2_ok hD k hu0 hu hx0 hx h140 h14 (by rcases hD with ⟨rfl, rfl⟩ | ⟨rfl, rfl⟩ <;> omega) (by rcases hD with ⟨rfl, rfl⟩ | ⟨rfl, rfl⟩ <;> omega)
    · rw [decide_eq_false c2, if_neg (by simp)]
      exact j2_ok hD k hu0 hu hx0 hx h140 h14 (by rcases hD with ⟨rfl, rfl⟩ | ⟨rfl, rfl⟩ <;> omega) (by rcases hD with ⟨rfl, rfl⟩ | ⟨rfl, rfl⟩ <;> omega)
theorem l0_ok {D y0 : Int} (hD : Two D y0) (k : Nat) {u x x14 r q : Int} (hu0 : 0 ≤ u) (hu : u < D) (hx0 : 0 ≤ x) (hx : x < 4294967296) (h140 : 0 ≤ x14) (h14 : x14 < 4294967296) (hq : q * 4294967295 + r = u) (hq0 : 0 ≤ q)
    (hr0 : 0 ≤ r) (hr : r < 4294967295) :
    ∃ a, bits_Div64.l0 (k + 9) D 3 4294967295 y0 u x x14 q r = some (a, ((u * 4294967296 + x) % D * 4294967296 + x14) % D / 8) := by
  have ho : r * 4294967296 + x - q * y0 < D := by
    rcases hD with ⟨rfl, rfl⟩ | ⟨rfl, rfl⟩ <;> omega
  by_cases h1 : 1 ≤ r
  · exact l0_end hD (k + 2) hu0 hu hx0 hx h140 h14 hq hq0 h1 (by omega) ho
  · obtain rfl : r = 0 := by omega
    have fin : ∀ q', q' = q - 1 → q * y0 > x → 1 ≤ q → ∃ a, bits_Div64.l0 (k + 7) D 3 4294967295 y0 u x x14 q' 4294967295 = some (a, ((u * 4294967296 + x) % D * 4294967296 + x14) % D / 8) := by
      rintro q' rfl hgt hq1
      exact l0_end hD k hu0 hu hx0 hx h140 h14 (by omega) (by omega) (by omega) (by omega) (by rcases hD with ⟨rfl, rfl⟩ | ⟨rfl, rfl⟩ <;> omega)
    have hw : IntKind.u64.wrap (0 + 4294967295) = 4294967295 := by rw [wu]; decide
    rw [show k + 9 = (k + 7 + 1) + 1 from rfl]
    unfold bits_Div64.l0
    by_cases c1 : q ≥ 4294967296
    · rw [if_pos c1]
      unfold bits_Div64.j1
      have hw2 : IntKind.u64.wrap (q - 1) = q - 1 := wu_in _ (by omega) (by rcases hD with ⟨rfl, rfl⟩ | ⟨rfl, rfl⟩ <;> omega)
      rw [if_pos rfl, hw, if_neg (by omega), hw2]
      exact fin _ rfl (by rcases hD with ⟨rfl, rfl⟩ | ⟨rfl, rfl⟩ <;> omega) (by omega)
    · rw [if_neg c1]
      unfold bits_Div64.j1
      have ha : IntKind.u64.wrap (q * y0) = q * y0 := wu_in _ (by rcases hD with ⟨rfl, rfl⟩ | ⟨rfl, rfl⟩ <;> omega) (by rcases hD with ⟨rfl, rfl⟩ | ⟨rfl, rfl⟩ <;> omega)
      have hb : IntKind.u64.wrap ((IntKind.u64.wrap (4294967296 * 0)) + x) = x := by
        rw [wu_in (4294967296 * 0) (by omega) (by omega), wu_in _ (by omega) (by omega)]; omega
      rw [ha, hb]
      by_cases c2 : q * y0 > x
      · have hq1 : 1 ≤ q := by
          rcases hD with ⟨rfl, rfl⟩ | ⟨rfl, rfl⟩ <;> omega
        have hw2 : IntKind.u64.wrap (q - 1) = q - 1 := wu_in _ (by omega) (by omega)
        rw [decide_eq_true c2, if_pos rfl, hw, if_neg (by omega), hw2]
        exact fin _ rfl c2 hq1
      · rw [decide_eq_false c2, if_neg (by simp)]
        exact j2_ok hD (k + 2) hu0 hu hx0 hx h140 h14 (by rcases hD with ⟨rfl, rfl⟩ | ⟨rfl, rfl⟩ <;> omega) (by rcases hD with ⟨rfl, rfl⟩ | ⟨rfl, rfl⟩ <;> omega)
end Go.Proofs.Ytggmjfonhcinhaa.Grp
end GrpDiv_
section NumS_
namespace Go.Proofs.Ytggmjfonhcinhaa.NumS
open Go.RowKit Go.Proofs.Ytggmjfonhcinhaa.P Go.Proofs.Ytggmjfonhcinhaa.ShaL Go.Proofs.YtggmjfonhcinhaaW.PrintWords Go.Proofs.YtggmjfonhcinhaaW.PrintLast
set_option linter.unusedVariables false
/-- the first i bytes as a number, the most significant first (0 behind the end) -/
def beTo (l : List Nat) : Nat → Nat
  | 0 => 0
  | i + 1 => beTo l i * 256 + l.getD i 0
theorem beTo_lt (l : List Nat) (h : ∀ j, l.getD j 0 < 256) (i : Nat) : beTo l i < 256 ^ i := by
  induction i with
  | zero => exact Nat.one_pos
  | succ i ih => rw [beTo, Nat.pow_succ]; have := h i; omega
theorem bts_get (s : ByteArray) (i : Nat) : (bts s).getD i 0 < 256 := by
  rw [List.getD_eq_getElem?_getD]
  cases e : (bts s)[i]? with
  | none => simp
  | some x => simpa using bts_lt s x (List.mem_of_getElem? e)
theorem or64 (a b : Nat) (ha : a < 72057594037927936) (hb : b < 256) : Go.bits .or .u64 (IntKind.u64.wrap ((a : Int) * 256)) (IntKind.u64.wrap (b : Int)) = ((a * 256 + b : Nat) : Int) := by
  rw [IntKind.wrap_u64, IntKind.wrap_u64, show ((a : Int) * 256) % 18446744073709551616 = ((a * 256 : Nat) : Int) by omega, show (b : Int) % 18446744073709551616 = (b : Int) by omega, u64_or_nat _ _ (by omega) (by omega)]
  congr 1
  have := Nat.two_pow_add_eq_or_of_lt (i := 8) (b := b) (by omega) a
  rw [Nat.mul_comm] at this
  exact this.symm
theorem num_l0 (s : ByteArray) (m : Nat) : ∀ (k i : Nat), i + m = 8 → m + 1 ≤ k → sum_Num.l0 k s ((beTo (bts s) i : Nat) : Int) (i : Int) = some (((beTo (bts s) 8) / 8 : Nat) : Int) := by
  induction m with
  | zero =>
    intro k i hi hk
    obtain ⟨k, rfl⟩ : ∃ k', k = k' + 1 := ⟨k - 1, by omega⟩
    obtain rfl : i = 8 := by omega
    have := beTo_lt (bts s) (bts_get s) 8
    rw [sum_Num.l0, if_neg (by omega)]
    congr 1
    rw [wrap64]; omega
  | succ m ih =>
    intro k i hi hk
    obtain ⟨k, rfl⟩ : ∃ k', k = k' + 1 := ⟨k - 1, by omega⟩
    have hb := beTo_lt (bts s) (bts_get s) i
    have hb7 : beTo (bts s) i < 72057594037927936 := Nat.lt_of_lt_of_le hb (Nat.pow_le_pow_right (n := 256) (by decide) (show i ≤ 7 by omega))
    have hw : wrap64 ((i : Int) + 1) = ((i + 1 : Nat) : Int) := by rw [wrap64]; omega
    have := ih k (i + 1) (by omega) (by omega)
    rw [sum_Num.l0, if_pos (by omega), hw]
    by_cases hs : (i : Int) < (s.size : Int)
    · rw [if_pos hs, if_pos (by omega), bt_nat s i (by omega), or64 _ _ hb7 (bts_get s i)]
      exact this
    · have hz : (bts s).getD i 0 = 0 := by
        rw [List.getD_eq_getElem?_getD, List.getElem?_eq_none (by rw [bts_length]; omega)]; rfl
      rw [if_neg hs, IntKind.wrap_u64, show ((beTo (bts s) i : Nat) : Int) * 256 % 18446744073709551616 = ((beTo (bts s) i * 256 : Nat) : Int) by omega]
      rw [beTo, hz, Nat.add_zero] at this
      exact this
/-- the number of a string -/
def numN (l : List Nat) : Nat := beTo l 8 / 8
theorem num_at (s : ByteArray) (k : Nat) (hk : 10 ≤ k) : sum_Num.f k s = some ((numN (bts s) : Nat) : Int) := num_l0 s 8 k 0 (by omega) (by omega)
end Go.Proofs.Ytggmjfonhcinhaa.NumS
end NumS_
