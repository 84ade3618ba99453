/- small() of chapter 05 holds. -/
import Derived.Test.YtdpocgimajhlbaaP9
import Derived.Test.YtdpocgimajhlbaaSgn
namespace Go.Proofs.Ytdpocgimajhlbaa.Sgn
open Go.RowKit Go.Proofs.Ytdpocgimajhlbaa.P Go.Proofs.YtdpocgimajhlbaaW.PrintWords Go.Proofs.YtdpocgimajhlbaaW.PrintLast
theorem small_ok : agoralaw05_small.f 200 = some true := by decide +kernel
theorem smallR (k : Nat) (hk : 200 ≤ k) : agoralaw05_small.f k = some true := at_rounds agoralaw05_small.mono hk small_ok
end Go.Proofs.Ytdpocgimajhlbaa.Sgn
