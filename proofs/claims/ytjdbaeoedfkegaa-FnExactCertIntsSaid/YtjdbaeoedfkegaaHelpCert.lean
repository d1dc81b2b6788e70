/- The laws' helpers on Cert and slices of them: they copy, compare, count and mark. -/
import Derived.Test.YtjdbaeoedfkegaaRows
import Derived.Test.YtjdbaeoedfkegaaBase
namespace Go.Proofs.Ytjdbaeoedfkegaa
open Go.RowKit

theorem Try.infoCert : (Try.prog.info? 39).map (fun i => (i.zero, i.size, i.bytes)) = some (some (.agg #[iv 0, iv 0, iv 0, iv 0, iv 0, iv 0, iv 0]), 7, 56) := by kernel_rfl

set_option maxHeartbeats 400000 in
theorem toCert_any (a0 a1 a2 a3 a4 a5 a6 : Int) (w : World) :
    Calls Try.prog 22 #[.agg #[iv a0, iv a1, iv a2, iv a3, iv a4, iv a5, iv a6]] w (Ret (.agg #[iv a0, iv a1, iv a2, iv a3, iv a4, iv a5, iv a6]) w) := by
  go_enter Try.func22, Try.ntmps22
  go_wp2
  refine bodyPost_ret (v := .agg #[iv a0, iv a1, iv a2, iv a3, iv a4, iv a5, iv a6]) (by simp [results, Try.results22, go_sem]) rfl ⟨rfl, ?_⟩
  exact (((Below.refl _ _).alloc (Nat.le_refl _) _).alloc (by simp) _).alloc (by simp; omega) _





end Go.Proofs.Ytjdbaeoedfkegaa
