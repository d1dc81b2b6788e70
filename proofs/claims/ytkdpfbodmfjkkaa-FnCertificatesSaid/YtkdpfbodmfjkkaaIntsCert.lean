/- The lists of numbers of Cert, by the program and by the reference. No condition. -/
import Derived.Test.YtkdpfbodmfjkkaaRows
import Derived.Test.YtkdpfbodmfjkkaaBase
namespace Go.Proofs.Ytkdpfbodmfjkkaa
open Go.RowKit

set_option maxHeartbeats 400000 in
theorem implCertInts_any (a0 a1 a2 a3 a4 a5 a6 : Int) (w : World) :
    Calls Try.prog 120 #[.agg #[iv a0, iv a1, iv a2, iv a3, iv a4, iv a5, iv a6]] w (RetOwn 3 1 7 ([101, a0, a1, a2, a3, a4, a5].map (Value.int .i64)) w) := by
  go_enter Try.func120, Try.ntmps120
  go_wp2
  go_ret
  exact retOwn_lit (w := w) (o := .cells #[iv a0, iv a1, iv a2, iv a3, iv a4, iv a5, iv a6] 74) (e := 3) (size := 1) (n := 7) #[iv 101, iv a0, iv a1, iv a2, iv a3, iv a4, iv a5] (by decide) rfl

set_option maxHeartbeats 400000 in
theorem specCertInts_any (a0 a1 a2 a3 a4 a5 a6 : Int) (w : World) :
    Calls Try.prog 122 #[.agg #[iv a0, iv a1, iv a2, iv a3, iv a4, iv a5, iv a6]] w (RetOwn 3 1 7 ([101, a0, a1, a2, a3, a4, a5].map (Value.int .i64)) w) := by
  go_enter Try.func122, Try.ntmps122
  go_wp2
  go_ret
  exact retOwn_lit (w := w) (o := .cells #[iv a0, iv a1, iv a2, iv a3, iv a4, iv a5, iv a6] 74) (e := 3) (size := 1) (n := 7) #[iv 101, iv a0, iv a1, iv a2, iv a3, iv a4, iv a5] (by decide) rfl

end Go.Proofs.Ytkdpfbodmfjkkaa
