/- The lists of numbers of Mandate, by the program and by the reference. No condition. -/
import Derived.Test.YtcfealjfanoegaaRows
import Derived.Test.YtcfealjfanoegaaBase
namespace Go.Proofs.Ytcfealjfanoegaa
open Go.RowKit

set_option maxHeartbeats 400000 in
theorem implMandateInts_any (a0 a1 a2 a3 a4 a5 : Int) (w : World) :
    Calls Try.prog 134 #[.agg #[iv a0, iv a1, iv a2, iv a3, iv a4, iv a5]] w (RetOwn 3 1 6 ([105, a0, a1, a2, a3, a4].map (Value.int .i64)) w) := by
  go_enter Try.func134, Try.ntmps134
  go_wp2
  go_ret
  exact retOwn_lit (w := w) (o := .cells #[iv a0, iv a1, iv a2, iv a3, iv a4, iv a5] 109) (e := 3) (size := 1) (n := 6) #[iv 105, iv a0, iv a1, iv a2, iv a3, iv a4] (by decide) rfl

set_option maxHeartbeats 400000 in
theorem specMandateInts_any (a0 a1 a2 a3 a4 a5 : Int) (w : World) :
    Calls Try.prog 129 #[.agg #[iv a0, iv a1, iv a2, iv a3, iv a4, iv a5]] w (RetOwn 3 1 6 ([105, a0, a1, a2, a3, a4].map (Value.int .i64)) w) := by
  go_enter Try.func129, Try.ntmps129
  go_wp2
  go_ret
  exact retOwn_lit (w := w) (o := .cells #[iv a0, iv a1, iv a2, iv a3, iv a4, iv a5] 109) (e := 3) (size := 1) (n := 6) #[iv 105, iv a0, iv a1, iv a2, iv a3, iv a4] (by decide) rfl

end Go.Proofs.Ytcfealjfanoegaa
