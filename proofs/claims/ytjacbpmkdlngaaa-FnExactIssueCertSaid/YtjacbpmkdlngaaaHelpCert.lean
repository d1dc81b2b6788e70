/- The laws' helpers on Cert and slices of them: they copy, compare, count and mark. -/
import Derived.Test.YtjacbpmkdlngaaaRows
import Derived.Test.YtjacbpmkdlngaaaBase
namespace Go.Proofs.Ytjacbpmkdlngaaa
open Go.RowKit

theorem Try.infoCert : (Try.prog.info? 65).map (fun i => (i.zero, i.size, i.bytes)) = some (some (.agg #[iv 0, iv 0, iv 0, iv 0, iv 0, iv 0, iv 0]), 7, 56) := by kernel_rfl

set_option maxHeartbeats 400000 in
theorem toCert_any (a0 a1 a2 a3 a4 a5 a6 : Int) (w : World) :
    Calls Try.prog 41 #[.agg #[iv a0, iv a1, iv a2, iv a3, iv a4, iv a5, iv a6]] w (Ret (.agg #[iv a0, iv a1, iv a2, iv a3, iv a4, iv a5, iv a6]) w) := by
  go_enter Try.func41, Try.ntmps41
  go_wp2
  refine bodyPost_ret (v := .agg #[iv a0, iv a1, iv a2, iv a3, iv a4, iv a5, iv a6]) (by simp [results, Try.results41, go_sem]) rfl ⟨rfl, ?_⟩
  exact (((Below.refl _ _).alloc (Nat.le_refl _) _).alloc (by simp) _).alloc (by simp; omega) _



set_option maxHeartbeats 1000000 in
theorem eqCert_any (a0 a1 a2 a3 a4 a5 a6 : Int) (w : World) :
    Calls Try.prog 48 #[.agg #[iv a0, iv a1, iv a2, iv a3, iv a4, iv a5, iv a6], .agg #[iv a0, iv a1, iv a2, iv a3, iv a4, iv a5, iv a6]] w (Ret (.bool true) w) := by
  go_enter Try.func48, Try.ntmps48
  go_wp2
  repeat' (go_quiet (fail); go_wp2)
  go_ret
  exact ⟨rfl, by repeat (first | exact Below.refl _ _ | refine below_drewN ?_ _ | refine Below.drew ?_ | refine Below.alloc ?_ (by simp; try omega) _)⟩


end Go.Proofs.Ytjacbpmkdlngaaa
