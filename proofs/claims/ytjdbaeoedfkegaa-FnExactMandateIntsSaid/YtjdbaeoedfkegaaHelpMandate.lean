/- The laws' helpers on Mandate and slices of them: they copy, compare, count and mark. -/
import Derived.Test.YtjdbaeoedfkegaaRows
import Derived.Test.YtjdbaeoedfkegaaBase
namespace Go.Proofs.Ytjdbaeoedfkegaa
open Go.RowKit

theorem Try.infoMandate : (Try.prog.info? 46).map (fun i => (i.zero, i.size, i.bytes)) = some (some (.agg #[iv 0, iv 0, iv 0, iv 0, iv 0, iv 0]), 6, 48) := by kernel_rfl

set_option maxHeartbeats 400000 in
theorem toMandate_any (a0 a1 a2 a3 a4 a5 : Int) (w : World) :
    Calls Try.prog 26 #[.agg #[iv a0, iv a1, iv a2, iv a3, iv a4, iv a5]] w (Ret (.agg #[iv a0, iv a1, iv a2, iv a3, iv a4, iv a5]) w) := by
  go_enter Try.func26, Try.ntmps26
  go_wp2
  refine bodyPost_ret (v := .agg #[iv a0, iv a1, iv a2, iv a3, iv a4, iv a5]) (by simp [results, Try.results26, go_sem]) rfl ⟨rfl, ?_⟩
  exact (((Below.refl _ _).alloc (Nat.le_refl _) _).alloc (by simp) _).alloc (by simp; omega) _





end Go.Proofs.Ytjdbaeoedfkegaa
