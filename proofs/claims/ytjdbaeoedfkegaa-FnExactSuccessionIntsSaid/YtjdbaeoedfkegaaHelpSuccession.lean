/- The laws' helpers on Succession and slices of them: they copy, compare, count and mark. -/
import Derived.Test.YtjdbaeoedfkegaaRows
import Derived.Test.YtjdbaeoedfkegaaBase
namespace Go.Proofs.Ytjdbaeoedfkegaa
open Go.RowKit

theorem Try.infoSuccession : (Try.prog.info? 54).map (fun i => (i.zero, i.size, i.bytes)) = some (some (.agg #[iv 0, iv 0, iv 0, iv 0]), 4, 32) := by kernel_rfl

set_option maxHeartbeats 400000 in
theorem toSuccession_any (a0 a1 a2 a3 : Int) (w : World) :
    Calls Try.prog 31 #[.agg #[iv a0, iv a1, iv a2, iv a3]] w (Ret (.agg #[iv a0, iv a1, iv a2, iv a3]) w) := by
  go_enter Try.func31, Try.ntmps31
  go_wp2
  refine bodyPost_ret (v := .agg #[iv a0, iv a1, iv a2, iv a3]) (by simp [results, Try.results31, go_sem]) rfl ⟨rfl, ?_⟩
  exact (((Below.refl _ _).alloc (Nat.le_refl _) _).alloc (by simp) _).alloc (by simp; omega) _





end Go.Proofs.Ytjdbaeoedfkegaa
