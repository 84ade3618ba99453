/- Texts of this claim, merged: what the functions that the law reaches compute, and what that says. -/
import Derived.Test.YtdpocgimajhlbaaK5
import Derived.Test.YtdpocgimajhlbaaK15
import Derived.Test.YtdpocgimajhlbaaK16
section Hash_
namespace Go.Proofs.Ytdpocgimajhlbaa.P
open Go.RowKit Go.Proofs.YtdpocgimajhlbaaW.PrintWords Go.Proofs.YtdpocgimajhlbaaW.PrintLast Go.Proofs.YtdpocgimajhlbaaW.PrintMore
set_option linter.unusedVariables false
/-- sign.hash, for the print -/
def sign_hash.f (l0 : List ByteArray) : Option Int := if l0.length ≤ 1000 ∧ (catB l0).size ≤ 1099511627776 then sum_Num.f 20 (Sch.shaB (catB l0)) else none
set_option maxHeartbeats 4000000 in
set_option maxRecDepth 100000 in
theorem sign_hash.calls (A0 : Option Addr) (c0 : Nat) (l0 : List ByteArray) (r : Int) (w : World) (hr0 : Kd.C Kd.string w A0 l0.length l0) (hc0 : l0.length ≤ c0) (h : sign_hash.f l0 = some r) :
    Calls Try.prog 43 #[.slice A0 l0.length c0] w fun e w' => e = .returned (.int .i64 r) ∧ Below w.heap.size w w' := by
  unfold sign_hash.f at h
  split at h
  · rename_i hh
    have H := Lib.hid h
    have HR := Lib.hid hr0
    clear h hr0
    go_enter Try.func43, Try.ntmps43
    go_wp2_with fail
    refine (join_calls A0 c0 l0 _ HR.out hc0 hh.1 hh.2).mono ?_
    rintro e w1 ⟨rfl, hb1⟩
    have HB1 := Lib.hid hb1
    clear hb1
    go_wp2_with fail
    refine (sum_Sha.calls (catB l0) _ _ (if_pos hh.2)).mono ?_
    rintro e w2 ⟨rfl, hb2⟩
    have HB2 := Lib.hid (HB1.out.trans (hb2.mono HB1.out.size))
    clear hb2 HB1
    go_wp2_with fail
    refine (sum_Num.calls 20 _ r _ H.out).mono ?_
    rintro e w3 ⟨rfl, ⟨nd, rfl⟩⟩
    go_wp2_with fail
    go_ret
    exact ⟨rfl, pw_below_drewN HB2.out nd⟩
  · cases h
end Go.Proofs.Ytdpocgimajhlbaa.P
end Hash_
section P6_
namespace Go.Proofs.Ytdpocgimajhlbaa.P
open Go.RowKit Go.Proofs.YtdpocgimajhlbaaW.PrintWords Go.Proofs.YtdpocgimajhlbaaW.PrintLast Go.Proofs.YtdpocgimajhlbaaW.PrintMore
attribute [local go_sem] max2_int min2_int max_two min_two max_three min_three max_four min_four   -- for this text's walks alone
set_option linter.unusedVariables false
set_option linter.unusedSimpArgs false
def sign_secret.f (l0 : List ByteArray) : Option (Int) := (sign_hash.f l0).bind fun t118 => (some (wrap64 (1 + (Int.tmod t118 2305843009213693949))))
set_option maxHeartbeats 8000000 in
set_option maxRecDepth 100000 in
theorem sign_secret.calls (A0 : Option Addr) (c0 : Nat) (l0 : List ByteArray) (r : Int) (w : World) (hr0 : Kd.C Kd.string w A0 l0.length l0) (hc0 : l0.length ≤ c0) (h : sign_secret.f l0 = some r) :
    Calls Try.prog 28 #[.slice A0 l0.length c0] w fun e w' => e = .returned (.int .i64 r) ∧ Below w.heap.size w w' := by
  have HR0 := Aside0.mk hr0
  have HC0 := Aside0.mk hc0
  clear hr0 hc0
  have HB := Aside0.mk (Below.refl w.heap.size w)
  have H : ((sign_hash.f l0).bind fun t118 => (some (wrap64 (1 + (Int.tmod t118 2305843009213693949))))) = some r := h
  clear h
  replace H := Option.bind_eq_some_iff.mp H
  obtain ⟨t118, A20, H⟩ := H
  replace H : (some (wrap64 (1 + (Int.tmod t118 2305843009213693949)))) = some r := H
  have A2 := Aside0.mk A20
  clear A20
  obtain rfl := Option.some.inj H
  go_enter Try.func28, Try.ntmps28
  go_wp2_with (first | ((with_reducible refine gate_callee (f := 43) rfl ?_); refine goesL_ (some 4) rfl rfl Try.func43 (by kernel_rfl) rfl #[.slice A0 l0.length c0] rfl (by (try simp only [List.map_toArray, List.map_cons, List.map_nil]); first | done | rfl | (simp only [List.length_drop, List.length_take]; rfl)) ?_; (with_reducible refine (sign_hash.calls _ _ l0 t118 _ ?side1 ?side2 A2.out).mono ?_); (case side1 => repeat (first | exact HR0.out | (with_reducible refine Kd.C_alloc ?_ _) | (with_reducible refine Kd.C_drewN ?_ _) | (with_reducible refine Kd.C_drew ?_))); (case side2 => exact HC0.out); rintro e w3 ⟨rfl, hb⟩; refine ⟨_, rfl, ?_⟩; have n0_ := Aside0.mk (below_step (by repeat (first | (with_reducible first | exact HB.out | apply below_alloc | apply pw_below_drewN | apply below_drew1) | exact HB.out)) hb); clear HB; have HB := n0_; clear n0_; (try clear hb); (try clear hb2); (try clear hk); (try clear hi)))
  go_ret
  exact ⟨by first | rfl | (simp [errW_none, errW_some] <;> rfl) | (simp [*, errW_none, errW_some] <;> rfl), by repeat (first | (with_reducible first | exact HB.out | apply below_alloc | apply pw_below_drewN | apply below_drew1) | exact HB.out)⟩
end Go.Proofs.Ytdpocgimajhlbaa.P
end P6_
