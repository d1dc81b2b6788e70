/- The laws' helpers on Stamp and slices of them: they copy, compare, count and mark. -/
import Derived.Test.YtgplnokohchepaaRows
import Derived.Test.YtgplnokohchepaaBase
namespace Go.Proofs.Ytgplnokohchepaa
open Go.RowKit

theorem Try.infoStamp : (Try.prog.info? 59).map (fun i => (i.zero, i.size, i.bytes)) = some (some (.agg #[iv 0, iv 0, iv 0, iv 0, iv 0]), 5, 40) := by kernel_rfl

set_option maxHeartbeats 400000 in
theorem toStamp_any (a0 a1 a2 a3 a4 : Int) (w : World) :
    Calls Try.prog 44 #[.agg #[iv a0, iv a1, iv a2, iv a3, iv a4]] w (Ret (.agg #[iv a0, iv a1, iv a2, iv a3, iv a4]) w) := by
  go_enter Try.func44, Try.ntmps44
  go_wp2
  refine bodyPost_ret (v := .agg #[iv a0, iv a1, iv a2, iv a3, iv a4]) (by simp [results, Try.results44, go_sem]) rfl ⟨rfl, ?_⟩
  exact (((Below.refl _ _).alloc (Nat.le_refl _) _).alloc (by simp) _).alloc (by simp; omega) _





end Go.Proofs.Ytgplnokohchepaa
