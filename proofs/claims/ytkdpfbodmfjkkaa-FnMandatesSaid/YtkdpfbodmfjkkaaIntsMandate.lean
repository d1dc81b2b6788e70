/- The lists of numbers of Mandate, by the program and by the reference. No condition. -/
import Derived.Test.YtkdpfbodmfjkkaaRows
import Derived.Test.YtkdpfbodmfjkkaaBase
namespace Go.Proofs.Ytkdpfbodmfjkkaa
open Go.RowKit

set_option maxHeartbeats 400000 in
theorem implMandateInts_any (a0 a1 a2 a3 a4 a5 : Int) (w : World) :
    Calls Try.prog 151 #[.agg #[iv a0, iv a1, iv a2, iv a3, iv a4, iv a5]] w (RetOwn 3 1 6 ([105, a0, a1, a2, a3, a4].map (Value.int .i64)) w) := by
  go_enter Try.func151, Try.ntmps151
  go_wp2
  go_ret
  exact retOwn_lit (w := w) (o := .cells #[iv a0, iv a1, iv a2, iv a3, iv a4, iv a5] 135) (e := 3) (size := 1) (n := 6) #[iv 105, iv a0, iv a1, iv a2, iv a3, iv a4] (by decide) rfl

set_option maxHeartbeats 400000 in
theorem specMandateInts_any (a0 a1 a2 a3 a4 a5 : Int) (w : World) :
    Calls Try.prog 190 #[.agg #[iv a0, iv a1, iv a2, iv a3, iv a4, iv a5]] w (RetOwn 3 1 6 ([105, a0, a1, a2, a3, a4].map (Value.int .i64)) w) := by
  go_enter Try.func190, Try.ntmps190
  go_wp2
  go_ret
  exact retOwn_lit (w := w) (o := .cells #[iv a0, iv a1, iv a2, iv a3, iv a4, iv a5] 135) (e := 3) (size := 1) (n := 6) #[iv 105, iv a0, iv a1, iv a2, iv a3, iv a4] (by decide) rfl

end Go.Proofs.Ytkdpfbodmfjkkaa
