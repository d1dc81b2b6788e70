/- The laws' helpers on Status and slices of them: they copy, compare, count and mark. -/
import Derived.Test.YtjacbpmkdlngaaaRows
import Derived.Test.YtjacbpmkdlngaaaBase
namespace Go.Proofs.Ytjacbpmkdlngaaa
open Go.RowKit

theorem Try.infoStatus : (Try.prog.info? 35).map (fun i => (i.zero, i.size, i.bytes)) = some (some (.agg #[iv 0, iv 0, iv 0, iv 0, iv 0]), 5, 40) := by kernel_rfl

set_option maxHeartbeats 400000 in
theorem toStatus_any (a0 a1 a2 a3 a4 : Int) (w : World) :
    Calls Try.prog 23 #[.agg #[iv a0, iv a1, iv a2, iv a3, iv a4]] w (Ret (.agg #[iv a0, iv a1, iv a2, iv a3, iv a4]) w) := by
  go_enter Try.func23, Try.ntmps23
  go_wp2
  refine bodyPost_ret (v := .agg #[iv a0, iv a1, iv a2, iv a3, iv a4]) (by simp [results, Try.results23, go_sem]) rfl ⟨rfl, ?_⟩
  exact (((Below.refl _ _).alloc (Nat.le_refl _) _).alloc (by simp) _).alloc (by simp; omega) _



set_option maxHeartbeats 1000000 in
theorem eqStatus_any (a0 a1 a2 a3 a4 : Int) (w : World) :
    Calls Try.prog 39 #[.agg #[iv a0, iv a1, iv a2, iv a3, iv a4], .agg #[iv a0, iv a1, iv a2, iv a3, iv a4]] w (Ret (.bool true) w) := by
  go_enter Try.func39, Try.ntmps39
  go_wp2
  repeat' (go_quiet (fail); go_wp2)
  go_ret
  exact ⟨rfl, by repeat (first | exact Below.refl _ _ | refine below_drewN ?_ _ | refine Below.drew ?_ | refine Below.alloc ?_ (by simp; try omega) _)⟩


end Go.Proofs.Ytjacbpmkdlngaaa
