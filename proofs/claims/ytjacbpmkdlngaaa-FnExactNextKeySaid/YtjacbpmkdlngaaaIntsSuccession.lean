/- The lists of numbers of Succession, by the program and by the reference. No condition. -/
import Derived.Test.YtjacbpmkdlngaaaRows
import Derived.Test.YtjacbpmkdlngaaaBase
namespace Go.Proofs.Ytjacbpmkdlngaaa
open Go.RowKit

set_option maxHeartbeats 400000 in
theorem implSuccessionInts_any (a0 a1 a2 a3 : Int) (w : World) :
    Calls Try.prog 78 #[.agg #[iv a0, iv a1, iv a2, iv a3]] w (RetOwn 3 1 4 ([106, a0, a1, a2].map (Value.int .i64)) w) := by
  go_enter Try.func78, Try.ntmps78
  go_wp2
  go_ret
  exact retOwn_lit (w := w) (o := .cells #[iv a0, iv a1, iv a2, iv a3] 47) (e := 3) (size := 1) (n := 4) #[iv 106, iv a0, iv a1, iv a2] (by decide) rfl

set_option maxHeartbeats 400000 in
theorem specSuccessionInts_any (a0 a1 a2 a3 : Int) (w : World) :
    Calls Try.prog 77 #[.agg #[iv a0, iv a1, iv a2, iv a3]] w (RetOwn 3 1 4 ([106, a0, a1, a2].map (Value.int .i64)) w) := by
  go_enter Try.func77, Try.ntmps77
  go_wp2
  go_ret
  exact retOwn_lit (w := w) (o := .cells #[iv a0, iv a1, iv a2, iv a3] 47) (e := 3) (size := 1) (n := 4) #[iv 106, iv a0, iv a1, iv a2] (by decide) rfl

end Go.Proofs.Ytjacbpmkdlngaaa
