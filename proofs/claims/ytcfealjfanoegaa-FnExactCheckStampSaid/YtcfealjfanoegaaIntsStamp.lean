/- The lists of numbers of Stamp, by the program and by the reference. No condition. -/
import Derived.Test.YtcfealjfanoegaaRows
import Derived.Test.YtcfealjfanoegaaBase
namespace Go.Proofs.Ytcfealjfanoegaa
open Go.RowKit

set_option maxHeartbeats 400000 in
theorem implStampInts_any (a0 a1 a2 a3 a4 : Int) (w : World) :
    Calls Try.prog 111 #[.agg #[iv a0, iv a1, iv a2, iv a3, iv a4]] w (RetOwn 3 1 5 ([103, a0, a1, a2, a3].map (Value.int .i64)) w) := by
  go_enter Try.func111, Try.ntmps111
  go_wp2
  go_ret
  exact retOwn_lit (w := w) (o := .cells #[iv a0, iv a1, iv a2, iv a3, iv a4] 73) (e := 3) (size := 1) (n := 5) #[iv 103, iv a0, iv a1, iv a2, iv a3] (by decide) rfl

set_option maxHeartbeats 400000 in
theorem specStampInts_any (a0 a1 a2 a3 a4 : Int) (w : World) :
    Calls Try.prog 109 #[.agg #[iv a0, iv a1, iv a2, iv a3, iv a4]] w (RetOwn 3 1 5 ([103, a0, a1, a2, a3].map (Value.int .i64)) w) := by
  go_enter Try.func109, Try.ntmps109
  go_wp2
  go_ret
  exact retOwn_lit (w := w) (o := .cells #[iv a0, iv a1, iv a2, iv a3, iv a4] 73) (e := 3) (size := 1) (n := 5) #[iv 103, iv a0, iv a1, iv a2, iv a3] (by decide) rfl

end Go.Proofs.Ytcfealjfanoegaa
