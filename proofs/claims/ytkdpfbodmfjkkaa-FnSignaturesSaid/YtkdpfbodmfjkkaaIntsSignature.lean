/- The lists of numbers of Signature, by the program and by the reference. No condition. -/
import Derived.Test.YtkdpfbodmfjkkaaRows
import Derived.Test.YtkdpfbodmfjkkaaBase
namespace Go.Proofs.Ytkdpfbodmfjkkaa
open Go.RowKit

set_option maxHeartbeats 400000 in
theorem implSignatureInts_any (a0 a1 a2 a3 a4 a5 a6 a7 a8 : Int) (w : World) :
    Calls Try.prog 140 #[.agg #[iv a0, iv a1, iv a2, iv a3, iv a4, iv a5, iv a6, iv a7, iv a8]] w (RetOwn 3 1 9 ([104, a0, a1, a2, a3, a4, a5, a6, a7].map (Value.int .i64)) w) := by
  go_enter Try.func140, Try.ntmps140
  go_wp2
  go_ret
  exact retOwn_lit (w := w) (o := .cells #[iv a0, iv a1, iv a2, iv a3, iv a4, iv a5, iv a6, iv a7, iv a8] 117) (e := 3) (size := 1) (n := 9) #[iv 104, iv a0, iv a1, iv a2, iv a3, iv a4, iv a5, iv a6, iv a7] (by decide) rfl

set_option maxHeartbeats 400000 in
theorem specSignatureInts_any (a0 a1 a2 a3 a4 a5 a6 a7 a8 : Int) (w : World) :
    Calls Try.prog 160 #[.agg #[iv a0, iv a1, iv a2, iv a3, iv a4, iv a5, iv a6, iv a7, iv a8]] w (RetOwn 3 1 9 ([104, a0, a1, a2, a3, a4, a5, a6, a7].map (Value.int .i64)) w) := by
  go_enter Try.func160, Try.ntmps160
  go_wp2
  go_ret
  exact retOwn_lit (w := w) (o := .cells #[iv a0, iv a1, iv a2, iv a3, iv a4, iv a5, iv a6, iv a7, iv a8] 117) (e := 3) (size := 1) (n := 9) #[iv 104, iv a0, iv a1, iv a2, iv a3, iv a4, iv a5, iv a6, iv a7] (by decide) rfl

end Go.Proofs.Ytkdpfbodmfjkkaa
