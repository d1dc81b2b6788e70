/- The lists of numbers of Status, by the program and by the reference. No condition. -/
import Derived.Test.YtjacbpmkdlngaaaRows
import Derived.Test.YtjacbpmkdlngaaaBase
namespace Go.Proofs.Ytjacbpmkdlngaaa
open Go.RowKit

set_option maxHeartbeats 400000 in
theorem implStatusInts_any (a0 a1 a2 a3 a4 : Int) (w : World) :
    Calls Try.prog 65 #[.agg #[iv a0, iv a1, iv a2, iv a3, iv a4]] w (RetOwn 3 1 5 ([102, a0, a1, a2, a3].map (Value.int .i64)) w) := by
  go_enter Try.func65, Try.ntmps65
  go_wp2
  go_ret
  exact retOwn_lit (w := w) (o := .cells #[iv a0, iv a1, iv a2, iv a3, iv a4] 35) (e := 3) (size := 1) (n := 5) #[iv 102, iv a0, iv a1, iv a2, iv a3] (by decide) rfl

set_option maxHeartbeats 400000 in
theorem specStatusInts_any (a0 a1 a2 a3 a4 : Int) (w : World) :
    Calls Try.prog 63 #[.agg #[iv a0, iv a1, iv a2, iv a3, iv a4]] w (RetOwn 3 1 5 ([102, a0, a1, a2, a3].map (Value.int .i64)) w) := by
  go_enter Try.func63, Try.ntmps63
  go_wp2
  go_ret
  exact retOwn_lit (w := w) (o := .cells #[iv a0, iv a1, iv a2, iv a3, iv a4] 35) (e := 3) (size := 1) (n := 5) #[iv 102, iv a0, iv a1, iv a2, iv a3] (by decide) rfl

end Go.Proofs.Ytjacbpmkdlngaaa
