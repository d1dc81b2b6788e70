/- The lists of numbers of Mandate, by the program and by the reference. No condition. -/
import Derived.Test.YtjacbpmkdlngaaaRows
import Derived.Test.YtjacbpmkdlngaaaBase
namespace Go.Proofs.Ytjacbpmkdlngaaa
open Go.RowKit

set_option maxHeartbeats 400000 in
theorem implMandateInts_any (a0 a1 a2 a3 a4 a5 : Int) (w : World) :
    Calls Try.prog 75 #[.agg #[iv a0, iv a1, iv a2, iv a3, iv a4, iv a5]] w (RetOwn 3 1 6 ([105, a0, a1, a2, a3, a4].map (Value.int .i64)) w) := by
  go_enter Try.func75, Try.ntmps75
  go_wp2
  go_ret
  exact retOwn_lit (w := w) (o := .cells #[iv a0, iv a1, iv a2, iv a3, iv a4, iv a5] 53) (e := 3) (size := 1) (n := 6) #[iv 105, iv a0, iv a1, iv a2, iv a3, iv a4] (by decide) rfl

set_option maxHeartbeats 400000 in
theorem specMandateInts_any (a0 a1 a2 a3 a4 a5 : Int) (w : World) :
    Calls Try.prog 72 #[.agg #[iv a0, iv a1, iv a2, iv a3, iv a4, iv a5]] w (RetOwn 3 1 6 ([105, a0, a1, a2, a3, a4].map (Value.int .i64)) w) := by
  go_enter Try.func72, Try.ntmps72
  go_wp2
  go_ret
  exact retOwn_lit (w := w) (o := .cells #[iv a0, iv a1, iv a2, iv a3, iv a4, iv a5] 53) (e := 3) (size := 1) (n := 6) #[iv 105, iv a0, iv a1, iv a2, iv a3, iv a4] (by decide) rfl

end Go.Proofs.Ytjacbpmkdlngaaa
