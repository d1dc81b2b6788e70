/- The laws' helpers on Span and slices of them: they copy, compare, count and mark. -/
import Derived.Test.YtjdbaeoedfkegaaRows
import Derived.Test.YtjdbaeoedfkegaaBase
namespace Go.Proofs.Ytjdbaeoedfkegaa
open Go.RowKit

theorem Try.infoSpan : (Try.prog.info? 37).map (fun i => (i.zero, i.size, i.bytes)) = some (some (.agg #[iv 0, iv 0]), 2, 16) := by kernel_rfl




set_option maxHeartbeats 1000000 in
theorem eqSpan_any (a0 a1 : Int) (w : World) :
    Calls Try.prog 24 #[.agg #[iv a0, iv a1], .agg #[iv a0, iv a1]] w (Ret (.bool true) w) := by
  go_enter Try.func24, Try.ntmps24
  go_wp2
  repeat' (go_quiet (fail); go_wp2)
  go_ret
  exact ⟨rfl, by repeat (first | exact Below.refl _ _ | refine below_drewN ?_ _ | refine Below.drew ?_ | refine Below.alloc ?_ (by simp; try omega) _)⟩


end Go.Proofs.Ytjdbaeoedfkegaa
