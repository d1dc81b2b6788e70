/- The lists of numbers of Status, by the program and by the reference. No condition. -/
import Derived.Test.YtkdpfbodmfjkkaaRows
import Derived.Test.YtkdpfbodmfjkkaaBase
namespace Go.Proofs.Ytkdpfbodmfjkkaa
open Go.RowKit

set_option maxHeartbeats 400000 in
theorem implStatusInts_any (a0 a1 a2 a3 a4 : Int) (w : World) :
    Calls Try.prog 126 #[.agg #[iv a0, iv a1, iv a2, iv a3, iv a4]] w (RetOwn 3 1 5 ([102, a0, a1, a2, a3].map (Value.int .i64)) w) := by
  go_enter Try.func126, Try.ntmps126
  go_wp2
  go_ret
  exact retOwn_lit (w := w) (o := .cells #[iv a0, iv a1, iv a2, iv a3, iv a4] 89) (e := 3) (size := 1) (n := 5) #[iv 102, iv a0, iv a1, iv a2, iv a3] (by decide) rfl

set_option maxHeartbeats 400000 in
theorem specStatusInts_any (a0 a1 a2 a3 a4 : Int) (w : World) :
    Calls Try.prog 196 #[.agg #[iv a0, iv a1, iv a2, iv a3, iv a4]] w (RetOwn 3 1 5 ([102, a0, a1, a2, a3].map (Value.int .i64)) w) := by
  go_enter Try.func196, Try.ntmps196
  go_wp2
  go_ret
  exact retOwn_lit (w := w) (o := .cells #[iv a0, iv a1, iv a2, iv a3, iv a4] 89) (e := 3) (size := 1) (n := 5) #[iv 102, iv a0, iv a1, iv a2, iv a3] (by decide) rfl

end Go.Proofs.Ytkdpfbodmfjkkaa
