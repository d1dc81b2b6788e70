/- The lists of numbers of Stamp, by the program and by the reference. No condition. -/
import Derived.Test.YtkdpfbodmfjkkaaRows
import Derived.Test.YtkdpfbodmfjkkaaBase
namespace Go.Proofs.Ytkdpfbodmfjkkaa
open Go.RowKit

set_option maxHeartbeats 400000 in
theorem implStampInts_any (a0 a1 a2 a3 a4 : Int) (w : World) :
    Calls Try.prog 132 #[.agg #[iv a0, iv a1, iv a2, iv a3, iv a4]] w (RetOwn 3 1 5 ([103, a0, a1, a2, a3].map (Value.int .i64)) w) := by
  go_enter Try.func132, Try.ntmps132
  go_wp2
  go_ret
  exact retOwn_lit (w := w) (o := .cells #[iv a0, iv a1, iv a2, iv a3, iv a4] 101) (e := 3) (size := 1) (n := 5) #[iv 103, iv a0, iv a1, iv a2, iv a3] (by decide) rfl

set_option maxHeartbeats 400000 in
theorem specStampInts_any (a0 a1 a2 a3 a4 : Int) (w : World) :
    Calls Try.prog 135 #[.agg #[iv a0, iv a1, iv a2, iv a3, iv a4]] w (RetOwn 3 1 5 ([103, a0, a1, a2, a3].map (Value.int .i64)) w) := by
  go_enter Try.func135, Try.ntmps135
  go_wp2
  go_ret
  exact retOwn_lit (w := w) (o := .cells #[iv a0, iv a1, iv a2, iv a3, iv a4] 101) (e := 3) (size := 1) (n := 5) #[iv 103, iv a0, iv a1, iv a2, iv a3] (by decide) rfl

end Go.Proofs.Ytkdpfbodmfjkkaa
