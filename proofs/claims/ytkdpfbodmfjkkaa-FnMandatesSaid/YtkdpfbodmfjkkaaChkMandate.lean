/- The program's and the reference's tests IsX return what the plain tests below say, whatever the fields. -/
import Derived.Test.YtkdpfbodmfjkkaaRows
import Derived.Test.YtkdpfbodmfjkkaaPlain
namespace Go.Proofs.Ytkdpfbodmfjkkaa
open Go.RowKit


set_option maxHeartbeats 2000000 in
theorem implIsMandate_any (a0 a1 a2 a3 a4 a5 : Int) (w : World) :
    Calls Try.prog 150 #[.agg #[iv a0, iv a1, iv a2, iv a3, iv a4, iv a5]] w (Ret (.bool (mandateB a0 a1 a2 a3 a4 a5)) w) := by
  go_enter Try.func150, Try.ntmps150
  go_wp2
  all_goals
    go_ret
    exact ⟨ret_bool (by rw [Bool.eq_iff_iff, mandateB_iff]; first | (simp only [decide_eq_true_eq]; omega) | (simp only [Bool.false_eq_true, false_iff]; omega) | (simp; omega)), by repeat (first | exact Below.refl _ _ | refine below_drewN ?_ _ | refine Below.drew ?_ | refine Below.alloc ?_ (by simp <;> omega) _)⟩

set_option maxHeartbeats 2000000 in
theorem specIsMandate_any (a0 a1 a2 a3 a4 a5 : Int) (w : World) :
    Calls Try.prog 189 #[.agg #[iv a0, iv a1, iv a2, iv a3, iv a4, iv a5]] w (Ret (.bool (mandateB a0 a1 a2 a3 a4 a5)) w) := by
  go_enter Try.func189, Try.ntmps189
  go_wp2
  all_goals
    go_ret
    exact ⟨ret_bool (by rw [Bool.eq_iff_iff, mandateB_iff]; first | (simp only [decide_eq_true_eq]; omega) | (simp only [Bool.false_eq_true, false_iff]; omega) | (simp; omega)), by repeat (first | exact Below.refl _ _ | refine below_drewN ?_ _ | refine Below.drew ?_ | refine Below.alloc ?_ (by simp <;> omega) _)⟩
end Go.Proofs.Ytkdpfbodmfjkkaa
