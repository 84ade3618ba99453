/- Texts of this claim, merged: what the functions that the law reaches compute, and what that says. -/
import Derived.Test.YtkhkppehdgkboaaKB4
import Derived.Test.YtkhkppehdgkboaaKB14
import Derived.Test.YtkhkppehdgkboaaKB15
import Derived.Test.YtkhkppehdgkboaaKB16
section MkL_
namespace Go.Proofs.Ytkhkppehdgkboaa.Mk
open Go.RowKit Go.Proofs.Ytkhkppehdgkboaa.P Go.Proofs.YtkhkppehdgkboaaW.PrintWords Go.Proofs.YtkhkppehdgkboaaW.PrintLast Go.Proofs.YtkhkppehdgkboaaW.PrintMore
set_option linter.unusedVariables false
def ok200 (l : List ByteArray) : Bool := l.all fun x => decide (x.size ≤ 200)
theorem ok200_cons (x : ByteArray) (l : List ByteArray) : ok200 (x :: l) = (decide (x.size ≤ 200) && ok200 l) := rfl
theorem ok200_mem {l : List ByteArray} (h : ok200 l = true) : ∀ x ∈ l, x.size ≤ 200 := fun x hx => of_decide_eq_true (List.all_eq_true.1 h x hx)
theorem short_l0 (l : List ByteArray) (hb : l.length ≤ 100) : ∀ (m k i : Nat), i + m = l.length → m < k → agoralaw08_short.l0 k l (i : Int) = some (ok200 (l.drop i))
  | m, 0, i, _, h => by omega
  | 0, k + 1, i, h, _ => by rw [agoralaw08_short.l0, if_neg (by omega), List.drop_eq_nil_of_le (by omega)]; rfl
  | m + 1, k + 1, i, h, hk => by
    rw [agoralaw08_short.l0, if_pos (by omega), if_pos (by omega), rd_nat, drop_getD l i (by omega), ok200_cons, show (i : Int) + 1 = ((i + 1 : Nat) : Int) by omega, wrap_nat _ (by omega)]
    by_cases hx : (l.getD i ByteArray.empty).size ≤ 200
    · rw [if_neg (by omega), short_l0 l hb m k (i + 1) (by omega) (by omega), decide_eq_true hx, Bool.true_and]
    · rw [if_pos (by omega), decide_eq_false hx, Bool.false_and]
theorem short_at (k : Nat) (l : List ByteArray) (hk : 200 ≤ k) : agoralaw08_short.f k l = some (decide (l.length ≤ 100) && ok200 l) := by
  rw [agoralaw08_short.f]
  by_cases h : l.length ≤ 100
  · rw [if_neg (by omega), show (0 : Int) = ((0 : Nat) : Int) from rfl, short_l0 l h l.length k 0 (by omega) (by omega), decide_eq_true h, List.drop_zero, Bool.true_and]
  · rw [if_pos (by omega), decide_eq_false h, Bool.false_and]
theorem dom200 {l : List ByteArray} (hl : l.length ≤ 100) (h : ∀ y ∈ l, y.size ≤ 200) : Dom l := ⟨by omega, fun x hx => by have := h x hx; omega⟩
end Go.Proofs.Ytkhkppehdgkboaa.Mk
end MkL_
section MkHalves_
namespace Go.Proofs.Ytkhkppehdgkboaa.Mk
open Go.RowKit Go.Proofs.Ytkhkppehdgkboaa.P Go.Proofs.YtkhkppehdgkboaaW.PrintWords Go.Proofs.YtkhkppehdgkboaaW.PrintLast Go.Proofs.YtkhkppehdgkboaaW.PrintMore
attribute [local go_sem] max2_int min2_int max_two min_two max_three min_three max_four min_four   -- for this text's walks alone
set_option linter.unusedVariables false
set_option linter.unusedSimpArgs false
set_option maxHeartbeats 4000000 in
set_option maxRecDepth 100000 in
theorem halves_outA (A0 : Option Addr) (c0 : Nat) (l0 : List ByteArray) (a1 : Int) (w : World) (hr0 : Kd.C Kd.string w A0 l0.length l0) (hc0 : l0.length ≤ c0) (hs : agoralaw08_short.f 300 l0 = some false)  :
    Calls Try.prog 8 #[.slice A0 l0.length c0, .int .i64 a1] w fun e w' => e = .returned (.bool true) ∧ Below w.heap.size w w' := by
  have HB := Aside0.mk (Below.refl w.heap.size w)
  have HR0 := Aside0.mk hr0
  have HC0 := Aside0.mk hc0
  have HS := Aside0.mk hs

  clear hr0 hc0 hs
  go_enter Try.func8, Try.ntmps8
  go_wp2_with (first
      | (go_at_call 9; (with_reducible refine (agoralaw08_small.calls 200 true _ small_ok).mono ?_); rintro e w4 ⟨rfl, hb⟩; have n0_ := Aside0.mk (below_step (by repeat (first | (with_reducible first | exact HB.out | apply below_alloc | apply pw_below_drewN | apply below_drew1) | exact HB.out)) hb); clear HB; have HB := n0_; clear n0_; (try clear hb))
      | (go_at_call 10; (with_reducible refine (agoralaw08_short.calls 300 _ _ l0 _ _ ?side1 HC0.out HS.out).mono ?_); (case side1 => exact Kd.C_below HR0.out HB.out); rintro e w' ⟨rfl, ⟨nd, rfl⟩⟩; have n0_ := Aside0.mk (pw_below_drewN HB.out nd); clear HB; have HB := n0_; clear n0_))
  go_ret
  exact ⟨rfl, by repeat (first | (with_reducible first | exact HB.out | apply below_alloc | apply pw_below_drewN | apply below_drew1) | exact HB.out)⟩
set_option maxHeartbeats 4000000 in
set_option maxRecDepth 100000 in
theorem halves_outB (A0 : Option Addr) (c0 : Nat) (l0 : List ByteArray) (a1 : Int) (w : World) (hr0 : Kd.C Kd.string w A0 l0.length l0) (hc0 : l0.length ≤ c0) (hs : agoralaw08_short.f 300 l0 = some true) (h1 : 64 < l0.length) :
    Calls Try.prog 8 #[.slice A0 l0.length c0, .int .i64 a1] w fun e w' => e = .returned (.bool true) ∧ Below w.heap.size w w' := by
  have HB := Aside0.mk (Below.refl w.heap.size w)
  have HR0 := Aside0.mk hr0
  have HC0 := Aside0.mk hc0
  have HS := Aside0.mk hs
  have c1b0 : decide ((l0.length : Int) > 64) = true := decide_eq_true (by omega)
  have c1b1 : decide (64 < (l0.length : Int)) = true := decide_eq_true (by omega)
  have c1b2 : decide (l0.length > 64) = true := decide_eq_true (by omega)
  have c1b3 : decide (64 < l0.length) = true := decide_eq_true (by omega)
  clear hr0 hc0 hs
  go_enter Try.func8, Try.ntmps8
  go_wp2_with (first
      | (go_at_call 9; (with_reducible refine (agoralaw08_small.calls 200 true _ small_ok).mono ?_); rintro e w4 ⟨rfl, hb⟩; have n0_ := Aside0.mk (below_step (by repeat (first | (with_reducible first | exact HB.out | apply below_alloc | apply pw_below_drewN | apply below_drew1) | exact HB.out)) hb); clear HB; have HB := n0_; clear n0_; (try clear hb))
      | (go_at_call 10; (with_reducible refine (agoralaw08_short.calls 300 _ _ l0 _ _ ?side1 HC0.out HS.out).mono ?_); (case side1 => exact Kd.C_below HR0.out HB.out); rintro e w' ⟨rfl, ⟨nd, rfl⟩⟩; have n0_ := Aside0.mk (pw_below_drewN HB.out nd); clear HB; have HB := n0_; clear n0_))
  go_ret
  exact ⟨rfl, by repeat (first | (with_reducible first | exact HB.out | apply below_alloc | apply pw_below_drewN | apply below_drew1) | exact HB.out)⟩
set_option maxHeartbeats 4000000 in
set_option maxRecDepth 100000 in
theorem halves_outC (A0 : Option Addr) (c0 : Nat) (l0 : List ByteArray) (a1 : Int) (w : World) (hr0 : Kd.C Kd.string w A0 l0.length l0) (hc0 : l0.length ≤ c0) (hs : agoralaw08_short.f 300 l0 = some true) (h1 : l0.length ≤ 64) (h2 : l0.length < 2) :
    Calls Try.prog 8 #[.slice A0 l0.length c0, .int .i64 a1] w fun e w' => e = .returned (.bool true) ∧ Below w.heap.size w w' := by
  have HB := Aside0.mk (Below.refl w.heap.size w)
  have HR0 := Aside0.mk hr0
  have HC0 := Aside0.mk hc0
  have HS := Aside0.mk hs
  have c1b0 : decide ((l0.length : Int) > 64) = false := decide_eq_false (by omega)
  have c1b1 : decide (64 < (l0.length : Int)) = false := decide_eq_false (by omega)
  have c1b2 : decide (l0.length > 64) = false := decide_eq_false (by omega)
  have c1b3 : decide (64 < l0.length) = false := decide_eq_false (by omega)
  have c2b0 : decide ((l0.length : Int) < 2) = true := decide_eq_true (by omega)
  have c2b1 : decide (2 > (l0.length : Int)) = true := decide_eq_true (by omega)
  have c2b2 : decide (l0.length < 2) = true := decide_eq_true (by omega)
  have c2b3 : decide (2 > l0.length) = true := decide_eq_true (by omega)
  clear hr0 hc0 hs
  go_enter Try.func8, Try.ntmps8
  go_wp2_with (first
      | (go_at_call 9; (with_reducible refine (agoralaw08_small.calls 200 true _ small_ok).mono ?_); rintro e w4 ⟨rfl, hb⟩; have n0_ := Aside0.mk (below_step (by repeat (first | (with_reducible first | exact HB.out | apply below_alloc | apply pw_below_drewN | apply below_drew1) | exact HB.out)) hb); clear HB; have HB := n0_; clear n0_; (try clear hb))
      | (go_at_call 10; (with_reducible refine (agoralaw08_short.calls 300 _ _ l0 _ _ ?side1 HC0.out HS.out).mono ?_); (case side1 => exact Kd.C_below HR0.out HB.out); rintro e w' ⟨rfl, ⟨nd, rfl⟩⟩; have n0_ := Aside0.mk (pw_below_drewN HB.out nd); clear HB; have HB := n0_; clear n0_))
  go_ret
  exact ⟨rfl, by repeat (first | (with_reducible first | exact HB.out | apply below_alloc | apply pw_below_drewN | apply below_drew1) | exact HB.out)⟩
set_option maxHeartbeats 4000000 in
set_option maxRecDepth 100000 in
theorem halves_outD (A0 : Option Addr) (c0 : Nat) (l0 : List ByteArray) (a1 : Int) (w : World) (hr0 : Kd.C Kd.string w A0 l0.length l0) (hc0 : l0.length ≤ c0) (hs : agoralaw08_short.f 300 l0 = some true) (h1 : l0.length ≤ 64) (h2 : 2 ≤ l0.length) (h3 : a1 < 0) :
    Calls Try.prog 8 #[.slice A0 l0.length c0, .int .i64 a1] w fun e w' => e = .returned (.bool true) ∧ Below w.heap.size w w' := by
  have HB := Aside0.mk (Below.refl w.heap.size w)
  have HR0 := Aside0.mk hr0
  have HC0 := Aside0.mk hc0
  have HS := Aside0.mk hs
  have c1b0 : decide ((l0.length : Int) > 64) = false := decide_eq_false (by omega)
  have c1b1 : decide (64 < (l0.length : Int)) = false := decide_eq_false (by omega)
  have c1b2 : decide (l0.length > 64) = false := decide_eq_false (by omega)
  have c1b3 : decide (64 < l0.length) = false := decide_eq_false (by omega)
  have c2b0 : decide ((l0.length : Int) < 2) = false := decide_eq_false (by omega)
  have c2b1 : decide (2 > (l0.length : Int)) = false := decide_eq_false (by omega)
  have c2b2 : decide (l0.length < 2) = false := decide_eq_false (by omega)
  have c2b3 : decide (2 > l0.length) = false := decide_eq_false (by omega)
  have c3b0 : decide (a1 < 0) = true := decide_eq_true (by omega)
  have c3b1 : decide (0 > a1) = true := decide_eq_true (by omega)
  clear hr0 hc0 hs
  go_enter Try.func8, Try.ntmps8
  go_wp2_with (first
      | (go_at_call 9; (with_reducible refine (agoralaw08_small.calls 200 true _ small_ok).mono ?_); rintro e w4 ⟨rfl, hb⟩; have n0_ := Aside0.mk (below_step (by repeat (first | (with_reducible first | exact HB.out | apply below_alloc | apply pw_below_drewN | apply below_drew1) | exact HB.out)) hb); clear HB; have HB := n0_; clear n0_; (try clear hb))
      | (go_at_call 10; (with_reducible refine (agoralaw08_short.calls 300 _ _ l0 _ _ ?side1 HC0.out HS.out).mono ?_); (case side1 => exact Kd.C_below HR0.out HB.out); rintro e w' ⟨rfl, ⟨nd, rfl⟩⟩; have n0_ := Aside0.mk (pw_below_drewN HB.out nd); clear HB; have HB := n0_; clear n0_))
  go_ret
  exact ⟨rfl, by repeat (first | (with_reducible first | exact HB.out | apply below_alloc | apply pw_below_drewN | apply below_drew1) | exact HB.out)⟩
set_option maxHeartbeats 4000000 in
set_option maxRecDepth 100000 in
theorem halves_outE (A0 : Option Addr) (c0 : Nat) (l0 : List ByteArray) (a1 : Int) (w : World) (hr0 : Kd.C Kd.string w A0 l0.length l0) (hc0 : l0.length ≤ c0) (hs : agoralaw08_short.f 300 l0 = some true) (h1 : l0.length ≤ 64) (h2 : 2 ≤ l0.length) (h3 : 0 ≤ a1) (h4 : (l0.length : Int) ≤ a1) :
    Calls Try.prog 8 #[.slice A0 l0.length c0, .int .i64 a1] w fun e w' => e = .returned (.bool true) ∧ Below w.heap.size w w' := by
  have HB := Aside0.mk (Below.refl w.heap.size w)
  have HR0 := Aside0.mk hr0
  have HC0 := Aside0.mk hc0
  have HS := Aside0.mk hs
  have c1b0 : decide ((l0.length : Int) > 64) = false := decide_eq_false (by omega)
  have c1b1 : decide (64 < (l0.length : Int)) = false := decide_eq_false (by omega)
  have c1b2 : decide (l0.length > 64) = false := decide_eq_false (by omega)
  have c1b3 : decide (64 < l0.length) = false := decide_eq_false (by omega)
  have c2b0 : decide ((l0.length : Int) < 2) = false := decide_eq_false (by omega)
  have c2b1 : decide (2 > (l0.length : Int)) = false := decide_eq_false (by omega)
  have c2b2 : decide (l0.length < 2) = false := decide_eq_false (by omega)
  have c2b3 : decide (2 > l0.length) = false := decide_eq_false (by omega)
  have c3b0 : decide (a1 < 0) = false := decide_eq_false (by omega)
  have c3b1 : decide (0 > a1) = false := decide_eq_false (by omega)
  have c4b0 : decide (a1 ≥ (l0.length : Int)) = true := decide_eq_true (by omega)
  have c4b1 : decide ((l0.length : Int) ≤ a1) = true := decide_eq_true (by omega)
  clear hr0 hc0 hs
  go_enter Try.func8, Try.ntmps8
  go_wp2_with (first
      | (go_at_call 9; (with_reducible refine (agoralaw08_small.calls 200 true _ small_ok).mono ?_); rintro e w4 ⟨rfl, hb⟩; have n0_ := Aside0.mk (below_step (by repeat (first | (with_reducible first | exact HB.out | apply below_alloc | apply pw_below_drewN | apply below_drew1) | exact HB.out)) hb); clear HB; have HB := n0_; clear n0_; (try clear hb))
      | (go_at_call 10; (with_reducible refine (agoralaw08_short.calls 300 _ _ l0 _ _ ?side1 HC0.out HS.out).mono ?_); (case side1 => exact Kd.C_below HR0.out HB.out); rintro e w' ⟨rfl, ⟨nd, rfl⟩⟩; have n0_ := Aside0.mk (pw_below_drewN HB.out nd); clear HB; have HB := n0_; clear n0_))
  go_ret
  exact ⟨rfl, by repeat (first | (with_reducible first | exact HB.out | apply below_alloc | apply pw_below_drewN | apply below_drew1) | exact HB.out)⟩
theorem append_g {P : Program} {ops : Array Oper} {rest : List Oper} {o : Oper} {a : Act} {Q : Exit → Act → World → Prop} {w0 W : World} (base : Nat) (hw : Region.wanted o (yielded ops a.tmps) = true) (s x : Operand) (t e : TypeId)
    (ho : o.op = .call { callee := .builtin .append, args := #[s, x], argTypes := #[t, t] }) (ht : P.underlying t = some (.slice e)) (hinfo : (P.info? e).map (fun i => (i.zero, i.size, i.bytes)) = some (some (.string ⟨#[]⟩), Kd.string.sz, 16))
    (v : Value) (xs : List ByteArray) (p : ByteArray) (hs : a.eval s = v) (hx : a.eval x = .slice (some ⟨W.heap.size, 0, none⟩) 1 1)
    (HO : Kd.R Kd.string e W base (fun _ => True) v xs) (HB : Below base w0 W) (hbase : base ≤ W.heap.size) (hl : (xs.length + 1) * 16 ≤ 140737488355328)
    (h : ∀ v1 w1, Kd.R Kd.string e w1 base (fun _ => True) v1 (xs ++ [p]) → Below base w0 w1 → wpList P ops Q rest (a.put o.dst v1) w1) :
    wpList P ops Q (o :: rest) a (W.alloc (.cells [Value.string p].toArray e)) := by
  have := Kd.R_append_step (Kc := wpList P ops Q rest) (Q := Q) Kd.string base hw s x t e (.string ⟨#[]⟩) 16 ho ht hinfo rfl (by decide) (by omega) v xs p [.string p] (fun _ => True) (fun _ => False) hs hx rfl (fun _ hk => hk.elim) (fun _ _ => trivial) HO HB hbase hl (fun v1 w1 h1 h2 _ _ => h v1 w1 h1 h2)
  rw [if_pos hw] at this
  rw [wpList, if_pos hw]
  exact .inl this
theorem spl_of (n j : Nat) (h1 : 2 ^ j < n) (h2 : n ≤ 2 ^ (j + 1)) : spl n = 2 ^ j := by
  have : Nat.log2 (n - 1) = j := (Nat.log2_eq_iff (by have := @Nat.one_le_two_pow j; omega)).2 ⟨by omega, by omega⟩
  unfold spl
  rw [this]
set_option maxHeartbeats 8000000 in
set_option maxRecDepth 100000 in
theorem halves_main (A0 : Option Addr) (c0 : Nat) (l0 : List ByteArray) (i : Nat) (w : World) (hr0 : Kd.C Kd.string w A0 l0.length l0) (hc0 : l0.length ≤ c0) (hs : agoralaw08_short.f 300 l0 = some true) (hd : Dom l0) (h1 : l0.length ≤ 64) (h2 : 2 ≤ l0.length) (hi : i < l0.length) :
    Calls Try.prog 8 #[.slice A0 l0.length c0, .int .i64 (i : Int)] w fun e w' => e = .returned (.bool true) ∧ Below w.heap.size w w' := by
  have HB := Aside0.mk (Below.refl w.heap.size w)
  have HR0 := Aside0.mk hr0
  have HC0 := Aside0.mk hc0
  have HS := Aside0.mk hs
  have c1b0 : decide ((l0.length : Int) > 64) = false := decide_eq_false (by omega)
  have c1b1 : decide (64 < (l0.length : Int)) = false := decide_eq_false (by omega)
  have c1b2 : decide (l0.length > 64) = false := decide_eq_false (by omega)
  have c1b3 : decide (64 < l0.length) = false := decide_eq_false (by omega)
  have c2b0 : decide ((l0.length : Int) < 2) = false := decide_eq_false (by omega)
  have c2b1 : decide (2 > (l0.length : Int)) = false := decide_eq_false (by omega)
  have c2b2 : decide (l0.length < 2) = false := decide_eq_false (by omega)
  have c2b3 : decide (2 > l0.length) = false := decide_eq_false (by omega)
  have c3b0 : decide ((i : Int) < 0) = false := decide_eq_false (by omega)
  have c3b1 : decide (0 > (i : Int)) = false := decide_eq_false (by omega)
  have c4b0 : decide ((i : Int) ≥ (l0.length : Int)) = false := decide_eq_false (by omega)
  have c4b1 : decide ((l0.length : Int) ≤ (i : Int)) = false := decide_eq_false (by omega)
  have c4b2 : decide (i ≥ l0.length) = false := decide_eq_false (by omega)
  have c4b3 : decide (l0.length ≤ i) = false := decide_eq_false (by omega)
  clear hr0 hs
  go_enter Try.func8, Try.ntmps8
  go_wp2_with (first
      | (go_at_call 9; (with_reducible refine (agoralaw08_small.calls 200 true _ small_ok).mono ?_); rintro e w4 ⟨rfl, hb⟩; have n0_ := Aside0.mk (below_step (by repeat (first | (with_reducible first | exact HB.out | apply below_alloc | apply pw_below_drewN | apply below_drew1) | exact HB.out)) hb); clear HB; have HB := n0_; clear n0_; (try clear hb))
      | (go_at_call 10; (with_reducible refine (agoralaw08_short.calls 300 _ _ l0 _ _ ?side1 HC0.out HS.out).mono ?_); (case side1 => exact Kd.C_below HR0.out HB.out); rintro e w' ⟨rfl, ⟨nd, rfl⟩⟩; have n0_ := Aside0.mk (pw_below_drewN HB.out nd); clear HB; have HB := n0_; clear n0_))
  go_loopg [6] 5 (fun kq v6 w' => ∃ (x6 : Int), v6 = .int .i64 x6 ∧ Aside0 (x6 = ((2 ^ kq : Nat) : Int) ∧ l0.length ≤ 2 ^ (kq + 1) ∧ kq ≤ 5) ∧ Aside0 (Below w.heap.size w w'))
  case atStart => exact ⟨32, by first | rfl | (simp; done), ⟨rfl, by omega, by omega⟩, ⟨by repeat (first | (with_reducible first | exact HB.out | apply below_alloc | apply pw_below_drewN | apply below_drew1) | exact HB.out)⟩⟩
  case round =>
    clear HB
    obtain ⟨x6, rfl, HX, HB⟩ := hrel
    by_cases c5 : x6 ≥ (l0.length : Int)
    · have c5b0 : decide (x6 ≥ (l0.length : Int)) = true := decide_eq_true c5
      have c5b1 : decide ((l0.length : Int) ≤ x6) = true := decide_eq_true c5
      cases gk with
      | zero => exact absurd HX.out.1 (by simp; omega)
      | succ k1 =>
      obtain ⟨y6, hy6⟩ : ∃ y : Int, y = ((2 ^ k1 : Nat) : Int) := ⟨_, rfl⟩
      have hq : Int.tdiv x6 2 = y6 := by rw [Int.tdiv_eq_ediv_of_nonneg (by omega), HX.out.1, hy6, Nat.pow_succ]; omega
      have hb1 : 2 ^ (k1 + 1) ≤ 2 ^ 5 := Nat.pow_le_pow_right (by decide) HX.out.2.2
      have hb2 : (l0.length : Int) ≤ 2 * y6 := by have := HX.out.1; rw [hy6]; rw [Nat.pow_succ] at this; omega
      have HY := Aside0.mk (⟨hy6, hb1, hb2⟩ : y6 = ((2 ^ k1 : Nat) : Int) ∧ 2 ^ (k1 + 1) ≤ 2 ^ 5 ∧ (l0.length : Int) ≤ 2 * y6)
      clear hy6 hb1 hb2 c5
      go_wp2
      go_roundg k1
      case measure => omega
      case rel =>
        refine ⟨wrap64 y6, by first | rfl | (simp; done), ⟨?_, ?_, by have := HX.out.2.2; omega⟩, ⟨by repeat (first | (with_reducible first | exact HB.out | apply below_alloc | apply pw_below_drewN | apply below_drew1) | exact HB.out)⟩⟩
        · have h := HY.out; rw [Nat.pow_succ] at h; rw [wrap64, h.1]; omega
        · have h := HY.out; rw [Nat.pow_succ]; omega
    · have c5b0 : decide (x6 ≥ (l0.length : Int)) = false := decide_eq_false c5
      have c5b1 : decide ((l0.length : Int) ≤ x6) = false := decide_eq_false c5
      obtain ⟨k, hk, hk1, hk2⟩ : ∃ k : Nat, x6 = (k : Int) ∧ k = spl l0.length ∧ k < l0.length := by
        have h := HX.out
        refine ⟨2 ^ gk, h.1, (spl_of _ gk (by omega) h.2.1).symm, by omega⟩
      subst hk
      clear HX c5
      have p1 := spl_pos l0.length
      rw [← hk1] at p1
      obtain ⟨i0, hi0, _, hsz0, _⟩ := info_parts info9
      obtain ⟨hcutT, hAT, hCT⟩ := print_take_of (P := Try.prog) Value.string (⟨#[]⟩ : ByteArray) 22 9 .i64 Try.underlying22 hi0 hsz0 A0 c0 l0 (k : Int) (by omega) (by omega) hc0
      obtain ⟨A1, hcutD, hAD, hCD⟩ := print_drop_of (P := Try.prog) Value.string (⟨#[]⟩ : ByteArray) 22 9 .i64 Try.underlying22 hi0 hsz0 A0 c0 l0 (k : Int) (by omega) (by omega) hc0
      rw [Int.toNat_natCast] at hcutT hAT hCT hcutD hAD hCD
      have HRt : Aside0 (Kd.C Kd.string w A0 (l0.take k).length (l0.take k)) := Aside0.mk (Kd.C_of_reads (h1 := fun _ => rfl) (hAT _ (Kd.reads_of_C HR0.out)))
      have HRd : Aside0 (Kd.C Kd.string w A1 (l0.drop k).length (l0.drop k)) := Aside0.mk (Kd.C_of_reads (h1 := fun _ => rfl) (hAD _ (Kd.reads_of_C HR0.out)))
      clear hAT hAD hi0 hsz0
      have hDt := hd.take k
      have hDd := hd.drop k
      have hlt : (l0.take k).length = k := by rw [List.length_take]; omega
      have hld : (l0.drop k).length = l0.length - k := List.length_drop
      have HRoot := fun (A : Option Addr) (c : Nat) (l : List ByteArray) (hd : Dom l) (hc : l.length ≤ c) => Aside0.mk (fun W (h : Kd.C Kd.string W A l.length l) => root_calls l.length A c l W (Nat.le_refl _) hd h hc)
      have IT := HRoot A0 c0 _ hDt hCT
      have ID := HRoot A1 (c0 - k) _ hDd hCD
      have IL := HRoot A0 c0 l0 hd hc0
      have HPath := fun (A : Option Addr) (c : Nat) (l : List ByteArray) (j : Nat) (hd : Dom l) (hj : j < l.length) (hc : l.length ≤ c) => Aside0.mk (fun W (h : Kd.C Kd.string W A l.length l) => path_in A c l j W hd hj h hc)
      have PL := HPath A0 c0 l0 i hd hi hc0
      have r1 := root_size _ hDt
      have r2 := root_size _ hDd
      have hsh : sum_Sha.f (((⟨#[1]⟩ : ByteArray) ++ rootB (l0.take k)) ++ rootB (l0.drop k)) = some (rootB l0) := by
        rw [rootB_more l0 h2, ← hk1, sum_Sha.f, if_pos (by rw [ByteArray.size_append, ByteArray.size_append, show (ByteArray.mk #[1]).size = 1 from rfl]; omega)]; rfl
      have c7b0 := eq_true (show 1 + (rootB (l0.take k)).size ≤ 9223372036854775807 by omega)
      have c7b1 : decide (1 + (rootB (l0.take k)).size ≤ 9223372036854775807) = true := decide_eq_true (by omega)
      have c7b2 : (9223372036854775807 < 1 + (rootB (l0.take k)).size) = False := eq_false (by omega)
      have c8b0 := eq_true (show ((⟨#[1]⟩ : ByteArray) ++ rootB (l0.take k)).size + (rootB (l0.drop k)).size ≤ 9223372036854775807 by rw [ByteArray.size_append, show (ByteArray.mk #[1]).size = 1 from rfl]; omega)
      have c8b2 : (9223372036854775807 < ((⟨#[1]⟩ : ByteArray) ++ rootB (l0.take k)).size + (rootB (l0.drop k)).size) = False := eq_false (by rw [ByteArray.size_append, show (ByteArray.mk #[1]).size = 1 from rfl]; omega)
      have c8b3 : (9223372036854775807 < (⟨#[1]⟩ : ByteArray).size + (rootB (l0.take k)).size + (rootB (l0.drop k)).size) = False := eq_false (by rw [show (ByteArray.mk #[1]).size = 1 from rfl]; omega)
      have c8b4 : (9223372036854775807 < 1 + (rootB (l0.take k)).size + (rootB (l0.drop k)).size) = False := eq_false (by omega)
      have hpl := pathB_length _ l0 i (Nat.le_refl _)
      have hpm := pathB_more l0 i h2
      rw [← hk1] at hpm
      have hqt := pathB_length _ (l0.take k) i (Nat.le_refl _)
      have hqd := pathB_length _ (l0.drop k) (i - k) (Nat.le_refl _)
      have PT : i < k → Aside0 _ := fun h => HPath A0 c0 (l0.take k) i hDt (by omega) hCT
      have PD : ¬ i < k → Aside0 _ := fun h => HPath A1 (c0 - k) (l0.drop k) (i - k) hDd (by omega) hCD
      clear HRoot HPath r1 r2
      generalize rootB (l0.take k) = rt at *
      generalize rootB (l0.drop k) = rd at *
      generalize rootB l0 = rl at *
      generalize l0.take k = lt at *
      generalize l0.drop k = ld at *
      have HM := Aside0.mk hpm
      have HLN := Aside0.mk (And.intro hlt hld)
      have HSH := Aside0.mk hsh
      clear hlt hld hk1 hpm hDt hDd hsh
      go_wp2
      have n0_ := Aside0.mk (below_drew1 HB.out)
      clear HB
      have HB := n0_
      clear n0_
      refine start_ (n := 10) (S := fun w' => True) (ds := []) #[false, false, false, false, false, false, false, false, false, false] (by kernel_rfl) rfl rfl trivial (fun hHeld => ?_); refine with_tab (T := rtab .any (opsOf Try.f8 7)) rfl (fun HT_ => ?_)
      generalize wr.drew = w7 at HB hHeld ⊢
      refine pure_ (i := 0) (N := some 47) (v := ?_) (a' := ?_) #[true, false, false, false, false, false, false, false, false, false] rfl rfl (any_of HT_.out (by kernel_rfl)) (fun _ _ _ h => h) (Or.inl ⟨by rfl, ?_⟩) ?_ ?_
      rotate_left
      · intro w'
        go_simp
        with_reducible rfl
      rotate_left
      · simp only [Act.put, List.setIfInBounds_toArray, List.set_cons_zero, List.set_cons_succ, i64_w, i32_w]
        rfl
      refine pure_ (i := 1) (N := some 48) (v := ?_) (a' := ?_) #[true, true, false, false, false, false, false, false, false, false] rfl rfl (any_of HT_.out (by kernel_rfl)) (fun _ _ _ h => h) (Or.inl ⟨by rfl, ?_⟩) ?_ ?_
      rotate_left
      · intro w'
        go_simp
        with_reducible rfl
      rotate_left
      · simp only [Act.put, List.setIfInBounds_toArray, List.set_cons_zero, List.set_cons_succ, i64_w, i32_w]
        rfl
      refine pure_ (i := 2) (N := some 49) (v := ?_) (a' := ?_) #[true, true, true, false, false, false, false, false, false, false] rfl rfl (any_of HT_.out (by kernel_rfl)) (fun _ _ _ h => h) (Or.inl ⟨by rfl, ?_⟩) ?_ ?_
      rotate_left
      · intro w'
        go_simp
        with_reducible rfl
      rotate_left
      · simp only [Act.put, List.setIfInBounds_toArray, List.set_cons_zero, List.set_cons_succ, i64_w, i32_w]
        rfl
      refine pure_ (i := 4) (N := some 51) (v := ?_) (a' := ?_) #[true, true, true, false, true, false, false, false, false, false] rfl rfl (any_of HT_.out (by kernel_rfl)) (fun _ _ _ h => h) (Or.inl ⟨by rfl, ?_⟩) ?_ ?_
      rotate_left
      · intro w'
        go_simp
        with_reducible rfl
      rotate_left
      · simp only [Act.put, List.setIfInBounds_toArray, List.set_cons_zero, List.set_cons_succ, i64_w, i32_w]
        rfl
      refine pure_ (i := 5) (N := some 52) (v := ?_) (a' := ?_) #[true, true, true, false, true, true, false, false, false, false] rfl rfl (any_of HT_.out (by kernel_rfl)) (fun _ _ _ h => h) (Or.inl ⟨by rfl, ?_⟩) ?_ ?_
      rotate_left
      · intro w'
        go_simp
        with_reducible rfl
      rotate_left
      · simp only [Act.put, List.setIfInBounds_toArray, List.set_cons_zero, List.set_cons_succ, i64_w, i32_w]
        rfl
      refine pure_ (i := 6) (N := some 53) (v := ?_) (a' := ?_) #[true, true, true, false, true, true, true, false, false, false] rfl rfl (any_of HT_.out (by kernel_rfl)) (fun _ _ _ h => h) (Or.inl ⟨by rfl, ?_⟩) ?_ ?_
      rotate_left
      · intro w'
        go_simp
        with_reducible rfl
      rotate_left
      · simp only [Act.put, List.setIfInBounds_toArray, List.set_cons_zero, List.set_cons_succ, i64_w, i32_w]
        rfl
      refine one_ (i := 3) (N := some 50) #[true, true, true, true, true, true, true, false, false, false] rfl rfl (one_of HT_.out (by kernel_rfl)) (by decide) (fun K hK => ?_)
      refine goes_ Try.func15 (by kernel_rfl) rfl #[.slice A0 lt.length c0] (by rfl) rfl rfl (by (try simp only [List.map_toArray, List.map_cons, List.map_nil]); first | done | rfl) ?_
      have hC_ := Kd.C_below HRt.out HB.out
      with_reducible refine (IT.out _ hC_).mono ?_
      rintro e w3 ⟨rfl, hb⟩
      refine ⟨_, rfl, ?_⟩
      have n0_ := Aside0.mk (below_step (by repeat (first | (with_reducible first | exact HB.out | apply below_alloc | apply pw_below_drewN | apply below_drew1) | exact HB.out)) hb)
      clear HB
      have HB := n0_
      clear n0_
      (try clear hb)
      clear hC_
      refine hK.out _ _ trivial (fun hHeld => ?_)
      clear hK K
      refine norm_ (a' := ?_) ?_ ?_
      rotate_left
      · show Act.put _ (some 50) _ = _
        simp only [Act.put, List.setIfInBounds_toArray, List.set_cons_zero, List.set_cons_succ, i64_w, i32_w]
        rfl
      refine one_ (i := 7) (N := some 54) #[true, true, true, true, true, true, true, true, false, false] rfl rfl (one_of HT_.out (by kernel_rfl)) (by decide) (fun K hK => ?_)
      refine goes_ Try.func15 (by kernel_rfl) rfl #[.slice A1 ld.length (c0 - k)] (by rfl) rfl rfl (by (try simp only [List.map_toArray, List.map_cons, List.map_nil]); first | done | rfl) ?_
      have hC_ := Kd.C_below HRd.out HB.out
      with_reducible refine (ID.out _ hC_).mono ?_
      rintro e w3 ⟨rfl, hb⟩
      refine ⟨_, rfl, ?_⟩
      have n0_ := Aside0.mk (below_step (by repeat (first | (with_reducible first | exact HB.out | apply below_alloc | apply pw_below_drewN | apply below_drew1) | exact HB.out)) hb)
      clear HB
      have HB := n0_
      clear n0_
      (try clear hb)
      clear hC_
      refine hK.out _ _ trivial (fun hHeld => ?_)
      clear hK K
      refine norm_ (a' := ?_) ?_ ?_
      rotate_left
      · show Act.put _ (some 54) _ = _
        simp only [Act.put, List.setIfInBounds_toArray, List.set_cons_zero, List.set_cons_succ, i64_w, i32_w]
        rfl
      refine pure_ (i := 8) (N := some 7) (v := ?_) (a' := ?_) #[true, true, true, true, true, true, true, true, true, false] rfl rfl (any_of HT_.out (by kernel_rfl)) (fun _ _ _ h => h) (Or.inl ⟨by rfl, ?_⟩) ?_ ?_
      rotate_left
      · intro w'
        go_simp
        with_reducible rfl
      rotate_left
      · simp only [Act.put, List.setIfInBounds_toArray, List.set_cons_zero, List.set_cons_succ, i64_w, i32_w]
        rfl
      refine pure_ (i := 9) (N := some 8) (v := ?_) (a' := ?_) #[true, true, true, true, true, true, true, true, true, true] rfl rfl (any_of HT_.out (by kernel_rfl)) (fun _ _ _ h => h) (Or.inl ⟨by rfl, ?_⟩) ?_ ?_
      rotate_left
      · intro w'
        go_simp
        with_reducible rfl
      rotate_left
      · simp only [Act.put, List.setIfInBounds_toArray, List.set_cons_zero, List.set_cons_succ, i64_w, i32_w]
        rfl
      refine done_ (done_of HT_.out (by kernel_rfl)) ?_
      by_cases hik : i < k
      · have c6b0 : decide ((i : Int) ≥ (k : Int)) = false := decide_eq_false (by omega)
        have c6b1 : decide ((k : Int) ≤ (i : Int)) = false := decide_eq_false (by omega)
        have c6b2 : decide (k ≤ i) = false := decide_eq_false (by omega)
        have PX := PT hik
        have HM := Aside0.mk (HM.out.trans (if_pos hik))
        have HSM : Aside0 (agoraref08_Same.f 1200 (pathB l0 i) (pathB lt i ++ [rd]) = some true) := ⟨by have := HLN.out; have e := HM.out; rw [e, same_at _ _ (by rw [List.length_append, List.length_singleton]; omega) 1200 (by rw [List.length_append, List.length_singleton]; omega), decide_eq_true rfl]⟩
        have HQL : Aside0 ((pathB lt i).length ≤ 100) := ⟨by have := HLN.out; omega⟩
        clear hqt hqd hpl HM HLN PT PD
        generalize pathB lt i = qs at *
        generalize pathB l0 i = ps at *
        obtain ⟨ys, hys⟩ : ∃ ys, ys = qs ++ [rd] := ⟨_, rfl⟩
        rw [← hys] at HSM
        have HYS := Aside0.mk hys
        clear hys
        go_wp2_with (first
          | (go_at_call 13; with_reducible refine (PL.out _ (Kd.C_below HR0.out HB.out)).mono ?_; rintro e w8 ⟨v9, rfl, hp, hb⟩; have n0_ := Aside0.mk (below_step (by repeat (first | (with_reducible first | exact HB.out | apply below_alloc | apply pw_below_drewN | apply below_drew1) | exact HB.out)) hb); clear HB; have HB := n0_; clear n0_; (try clear hb); have HB8 := HB; obtain ⟨A9, c9, hv9, hc9, hr9⟩ := Kd.R_reads hp; subst hv9; have HR9 := Aside0.mk hr9; have HC9 := Aside0.mk hc9; clear hp hr9 hc9)
          | (go_at_call 13; with_reducible refine (PX.out _ (Kd.C_below HRt.out HB.out)).mono ?_; rintro e w14 ⟨v14, rfl, hq, hb⟩; have HQ := Aside0.mk hq; have HQB := Aside0.mk hb; have n0_ := Aside0.mk (below_step (by repeat (first | (with_reducible first | exact HB.out | apply below_alloc | apply pw_below_drewN | apply below_drew1) | exact HB.out)) hb); clear HB; have HB := n0_; clear n0_; (try clear hb); clear hq)
          | (go_at_call 15; with_reducible refine (IL.out _ (Kd.C_below HR0.out HB.out)).mono ?_; rintro e w15 ⟨rfl, hb⟩; have n1_ := Aside0.mk (Kd.R_below HQ.out hb); have n2_ := Aside0.mk (HQB.out.trans (hb.mono HQB.out.size)); have n0_ := Aside0.mk (below_step (by repeat (first | (with_reducible first | exact HB.out | apply below_alloc | apply pw_below_drewN | apply below_drew1) | exact HB.out)) hb); clear HB; have HB := n0_; clear n0_; (try clear hb); clear HQ HQB; have HQ := n1_; have HQB := n2_; clear n1_ n2_)
          | (go_at_call 27; with_reducible refine (sum_Sha.calls _ _ _ HSH.out).mono ?_; rintro e w16 ⟨rfl, hb⟩; have n1_ := Aside0.mk (Kd.R_below HQ.out hb); have n2_ := Aside0.mk (HQB.out.trans (hb.mono HQB.out.size)); have n0_ := Aside0.mk (below_step (by repeat (first | (with_reducible first | exact HB.out | apply below_alloc | apply pw_below_drewN | apply below_drew1) | exact HB.out)) hb); clear HB; have HB := n0_; clear n0_; (try clear hb); clear HQ HQB; have HQ := n1_; have HQB := n2_; clear n1_ n2_)
          | ((with_reducible refine gate_builtin (b := .append) (xs := #[.tmp 101, .tmp 103]) rfl ?_); at_builtin; refine append_g (w0 := w8) w8.heap.size (by rfl) (.tmp 101) (.tmp 103) 22 9 rfl Try.underlying22 info9 v14 qs rd rfl rfl HQ.out HQB.out (below_size HQB.out) (by have := HQL.out; omega) ?_; intro v1 w17 ho hb; rw [← HYS.out] at ho; obtain ⟨A15, c15, hv, hc, hr⟩ := Kd.R_reads ho; subst hv; have HR15 := Aside0.mk hr; have HC15 := Aside0.mk hc; have n2_ := Aside0.mk hb; clear HQ HQB HB; have HQB := n2_; have HB := Aside0.mk (HB8.out.trans (hb.mono HB8.out.size)); clear n2_ ho hr hc hb)
          | (go_at_call 17; with_reducible refine (agoraref08_Same.calls 1200 A9 c9 _ A15 c15 _ true _ (Kd.C_below HR9.out HQB.out) HC9.out HR15.out HC15.out HSM.out).mono ?_; rintro e w' ⟨rfl, ⟨nd, rfl⟩⟩))
        go_ret
        exact ⟨rfl, by repeat (first | (with_reducible first | exact HB.out | apply below_alloc | apply pw_below_drewN | apply below_drew1) | exact HB.out)⟩
      · have c6b0 : decide ((i : Int) ≥ (k : Int)) = true := decide_eq_true (by omega)
        have c6b1 : decide ((k : Int) ≤ (i : Int)) = true := decide_eq_true (by omega)
        have c6b2 : decide (k ≤ i) = true := decide_eq_true (by omega)
        have PX := PD hik
        have HM := Aside0.mk (HM.out.trans (if_neg hik))
        have hw : wrap64 ((i : Int) - (k : Int)) = ((i - k : Nat) : Int) := by rw [wrap64]; omega
        rw [show ((i - k : Nat) : Int) = (i : Int) - (k : Int) by omega] at PX
        clear hw
        have HSM : Aside0 (agoraref08_Same.f 1200 (pathB l0 i) (pathB ld (i - k) ++ [rt]) = some true) := ⟨by have := HLN.out; have e := HM.out; rw [e, same_at _ _ (by rw [List.length_append, List.length_singleton]; omega) 1200 (by rw [List.length_append, List.length_singleton]; omega), decide_eq_true rfl]⟩
        have HQL : Aside0 ((pathB ld (i - k)).length ≤ 100) := ⟨by have := HLN.out; omega⟩
        clear hqt hqd hpl HM HLN PT PD
        generalize pathB ld (i - k) = qs at *
        generalize pathB l0 i = ps at *
        obtain ⟨ys, hys⟩ : ∃ ys, ys = qs ++ [rt] := ⟨_, rfl⟩
        rw [← hys] at HSM
        have HYS := Aside0.mk hys
        clear hys
        go_wp2_with (first
          | (go_at_call 13; with_reducible refine (PL.out _ (Kd.C_below HR0.out HB.out)).mono ?_; rintro e w8 ⟨v9, rfl, hp, hb⟩; have n0_ := Aside0.mk (below_step (by repeat (first | (with_reducible first | exact HB.out | apply below_alloc | apply pw_below_drewN | apply below_drew1) | exact HB.out)) hb); clear HB; have HB := n0_; clear n0_; (try clear hb); have HB8 := HB; obtain ⟨A9, c9, hv9, hc9, hr9⟩ := Kd.R_reads hp; subst hv9; have HR9 := Aside0.mk hr9; have HC9 := Aside0.mk hc9; clear hp hr9 hc9)
          | (go_at_call 13; with_reducible refine (PX.out _ (Kd.C_below HRd.out HB.out)).mono ?_; rintro e w14 ⟨v14, rfl, hq, hb⟩; have HQ := Aside0.mk hq; have HQB := Aside0.mk hb; have n0_ := Aside0.mk (below_step (by repeat (first | (with_reducible first | exact HB.out | apply below_alloc | apply pw_below_drewN | apply below_drew1) | exact HB.out)) hb); clear HB; have HB := n0_; clear n0_; (try clear hb); clear hq)
          | (go_at_call 15; with_reducible refine (IL.out _ (Kd.C_below HR0.out HB.out)).mono ?_; rintro e w15 ⟨rfl, hb⟩; have n1_ := Aside0.mk (Kd.R_below HQ.out hb); have n2_ := Aside0.mk (HQB.out.trans (hb.mono HQB.out.size)); have n0_ := Aside0.mk (below_step (by repeat (first | (with_reducible first | exact HB.out | apply below_alloc | apply pw_below_drewN | apply below_drew1) | exact HB.out)) hb); clear HB; have HB := n0_; clear n0_; (try clear hb); clear HQ HQB; have HQ := n1_; have HQB := n2_; clear n1_ n2_)
          | (go_at_call 27; with_reducible refine (sum_Sha.calls _ _ _ HSH.out).mono ?_; rintro e w16 ⟨rfl, hb⟩; have n1_ := Aside0.mk (Kd.R_below HQ.out hb); have n2_ := Aside0.mk (HQB.out.trans (hb.mono HQB.out.size)); have n0_ := Aside0.mk (below_step (by repeat (first | (with_reducible first | exact HB.out | apply below_alloc | apply pw_below_drewN | apply below_drew1) | exact HB.out)) hb); clear HB; have HB := n0_; clear n0_; (try clear hb); clear HQ HQB; have HQ := n1_; have HQB := n2_; clear n1_ n2_)
          | ((with_reducible refine gate_builtin (b := .append) (xs := #[.tmp 101, .tmp 103]) rfl ?_); at_builtin; refine append_g (w0 := w8) w8.heap.size (by rfl) (.tmp 101) (.tmp 103) 22 9 rfl Try.underlying22 info9 v14 qs rt rfl rfl HQ.out HQB.out (below_size HQB.out) (by have := HQL.out; omega) ?_; intro v1 w17 ho hb; rw [← HYS.out] at ho; obtain ⟨A15, c15, hv, hc, hr⟩ := Kd.R_reads ho; subst hv; have HR15 := Aside0.mk hr; have HC15 := Aside0.mk hc; have n2_ := Aside0.mk hb; clear HQ HQB HB; have HQB := n2_; have HB := Aside0.mk (HB8.out.trans (hb.mono HB8.out.size)); clear n2_ ho hr hc hb)
          | (go_at_call 17; with_reducible refine (agoraref08_Same.calls 1200 A9 c9 _ A15 c15 _ true _ (Kd.C_below HR9.out HQB.out) HC9.out HR15.out HC15.out HSM.out).mono ?_; rintro e w' ⟨rfl, ⟨nd, rfl⟩⟩))
        go_ret
        exact ⟨rfl, by repeat (first | (with_reducible first | exact HB.out | apply below_alloc | apply pw_below_drewN | apply below_drew1) | exact HB.out)⟩
end Go.Proofs.Ytkhkppehdgkboaa.Mk
namespace Go.Proofs.Ytkhkppehdgkboaa.P
open Go.RowKit Go.Proofs.YtkhkppehdgkboaaW.PrintWords
/-- the law's function, for the row: it returns true -/
def agoralaw08_MerkleHalves.f (_ : Nat) (_ : List ByteArray) (_ : Int) : Option Bool := some true
theorem agoralaw08_MerkleHalves.calls (k : Nat) (A0 : Option Addr) (c0 : Nat) (l0 : List ByteArray) (a1 : Int) (r : Bool) (w : World) (hr0 : Kd.C Kd.string w A0 l0.length l0) (hc0 : l0.length ≤ c0) (h : agoralaw08_MerkleHalves.f k l0 a1 = some r) :
    Calls Try.prog 8 #[.slice A0 l0.length c0, .int .i64 a1] w fun e w' => e = .returned (.bool r) ∧ Below w.heap.size w w' := by
  cases h
  have hs := Mk.short_at 300 l0 (by decide)
  cases hb : (decide (l0.length ≤ 100) && Mk.ok200 l0)
  · rw [hb] at hs
    exact Mk.halves_outA A0 c0 l0 a1 w hr0 hc0 hs
  rw [hb] at hs
  by_cases h1 : 64 < l0.length
  · exact Mk.halves_outB A0 c0 l0 a1 w hr0 hc0 hs h1
  by_cases h2 : l0.length < 2
  · exact Mk.halves_outC A0 c0 l0 a1 w hr0 hc0 hs (by omega) h2
  by_cases h3 : a1 < 0
  · exact Mk.halves_outD A0 c0 l0 a1 w hr0 hc0 hs (by omega) (by omega) h3
  by_cases h4 : (l0.length : Int) ≤ a1
  · exact Mk.halves_outE A0 c0 l0 a1 w hr0 hc0 hs (by omega) (by omega) (by omega) h4
  obtain ⟨i, rfl⟩ := Int.eq_ofNat_of_zero_le (show 0 ≤ a1 by omega)
  rw [Bool.and_eq_true, decide_eq_true_eq] at hb
  exact Mk.halves_main A0 c0 l0 i w hr0 hc0 hs (Mk.dom200 hb.1 (Mk.ok200_mem hb.2)) (by omega) (by omega) (by omega)
end Go.Proofs.Ytkhkppehdgkboaa.P
end MkHalves_
