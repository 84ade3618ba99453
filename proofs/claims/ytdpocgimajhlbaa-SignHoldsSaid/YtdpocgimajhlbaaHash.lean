/- sign.hash: the number of the digest of all parts, one behind the other. -/
import Derived.Test.YtdpocgimajhlbaaP4
import Derived.Test.YtdpocgimajhlbaaSha
import Derived.Test.YtdpocgimajhlbaaJoin
namespace Go.Proofs.Ytdpocgimajhlbaa.P
open Go.RowKit Go.Proofs.YtdpocgimajhlbaaW.PrintWords Go.Proofs.YtdpocgimajhlbaaW.PrintLast Go.Proofs.YtdpocgimajhlbaaW.PrintMore
set_option linter.unusedVariables false
/-- sign.hash, for the print -/
def sign_hash.f (l0 : List ByteArray) : Option Int := if l0.length ≤ 1000 ∧ (catB l0).size ≤ 1099511627776 then sum_Num.f 20 (Sch.shaB (catB l0)) else none
set_option maxHeartbeats 4000000 in
set_option maxRecDepth 100000 in
theorem sign_hash.calls (A0 : Option Addr) (c0 : Nat) (l0 : List ByteArray) (r : Int) (w : World) (hr0 : Kd.C Kd.string w A0 l0.length l0) (hc0 : l0.length ≤ c0) (h : sign_hash.f l0 = some r) :
    Calls Try.prog 43 #[.slice A0 l0.length c0] w fun e w' => e = .returned (.int .i64 r) ∧ Below w.heap.size w w' := by
  unfold sign_hash.f at h
  split at h
  · rename_i hh
    have H := Lib.hid h
    have HR := Lib.hid hr0
    clear h hr0
    go_enter Try.func43, Try.ntmps43
    go_wp2_with fail
    refine (join_calls A0 c0 l0 _ HR.out hc0 hh.1 hh.2).mono ?_
    rintro e w1 ⟨rfl, hb1⟩
    have HB1 := Lib.hid hb1
    clear hb1
    go_wp2_with fail
    refine (sum_Sha.calls (catB l0) _ _ (if_pos hh.2)).mono ?_
    rintro e w2 ⟨rfl, hb2⟩
    have HB2 := Lib.hid (HB1.out.trans (hb2.mono HB1.out.size))
    clear hb2 HB1
    go_wp2_with fail
    refine (sum_Num.calls 20 _ r _ H.out).mono ?_
    rintro e w3 ⟨rfl, ⟨nd, rfl⟩⟩
    go_wp2_with fail
    go_ret
    exact ⟨rfl, pw_below_drewN HB2.out nd⟩
  · cases h
end Go.Proofs.Ytdpocgimajhlbaa.P
