/- The laws' helpers on Mandate and slices of them: they copy, compare, count and mark. -/
import Derived.Test.YtjacbpmkdlngaaaRows
import Derived.Test.YtjacbpmkdlngaaaBase
namespace Go.Proofs.Ytjacbpmkdlngaaa
open Go.RowKit

theorem Try.infoMandate : (Try.prog.info? 53).map (fun i => (i.zero, i.size, i.bytes)) = some (some (.agg #[iv 0, iv 0, iv 0, iv 0, iv 0, iv 0]), 6, 48) := by kernel_rfl

set_option maxHeartbeats 400000 in
theorem toMandate_any (a0 a1 a2 a3 a4 a5 : Int) (w : World) :
    Calls Try.prog 32 #[.agg #[iv a0, iv a1, iv a2, iv a3, iv a4, iv a5]] w (Ret (.agg #[iv a0, iv a1, iv a2, iv a3, iv a4, iv a5]) w) := by
  go_enter Try.func32, Try.ntmps32
  go_wp2
  refine bodyPost_ret (v := .agg #[iv a0, iv a1, iv a2, iv a3, iv a4, iv a5]) (by simp [results, Try.results32, go_sem]) rfl ⟨rfl, ?_⟩
  exact (((Below.refl _ _).alloc (Nat.le_refl _) _).alloc (by simp) _).alloc (by simp; omega) _



set_option maxHeartbeats 1000000 in
theorem eqMandate_any (a0 a1 a2 a3 a4 a5 : Int) (w : World) :
    Calls Try.prog 45 #[.agg #[iv a0, iv a1, iv a2, iv a3, iv a4, iv a5], .agg #[iv a0, iv a1, iv a2, iv a3, iv a4, iv a5]] w (Ret (.bool true) w) := by
  go_enter Try.func45, Try.ntmps45
  go_wp2
  repeat' (go_quiet (fail); go_wp2)
  go_ret
  exact ⟨rfl, by repeat (first | exact Below.refl _ _ | refine below_drewN ?_ _ | refine Below.drew ?_ | refine Below.alloc ?_ (by simp; try omega) _)⟩


end Go.Proofs.Ytjacbpmkdlngaaa
