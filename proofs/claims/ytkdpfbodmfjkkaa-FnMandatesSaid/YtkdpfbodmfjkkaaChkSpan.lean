/- The program's and the reference's tests IsX return what the plain tests below say, whatever the fields. -/
import Derived.Test.YtkdpfbodmfjkkaaRows
import Derived.Test.YtkdpfbodmfjkkaaPlain
namespace Go.Proofs.Ytkdpfbodmfjkkaa
open Go.RowKit


set_option maxHeartbeats 2000000 in
theorem implIsSpan_any (a0 a1 : Int) (w : World) :
    Calls Try.prog 31 #[.agg #[iv a0, iv a1]] w (Ret (.bool (spanB a0 a1)) w) := by
  go_enter Try.func31, Try.ntmps31
  go_wp2
  all_goals
    go_ret
    exact ⟨ret_bool (by rw [Bool.eq_iff_iff, spanB_iff]; first | (simp only [decide_eq_true_eq]; omega) | (simp only [Bool.false_eq_true, false_iff]; omega) | (simp; omega)), by repeat (first | exact Below.refl _ _ | refine below_drewN ?_ _ | refine Below.drew ?_ | refine Below.alloc ?_ (by simp <;> omega) _)⟩

set_option maxHeartbeats 2000000 in
theorem specIsSpan_any (a0 a1 : Int) (w : World) :
    Calls Try.prog 146 #[.agg #[iv a0, iv a1]] w (Ret (.bool (spanB a0 a1)) w) := by
  go_enter Try.func146, Try.ntmps146
  go_wp2
  all_goals
    go_ret
    exact ⟨ret_bool (by rw [Bool.eq_iff_iff, spanB_iff]; first | (simp only [decide_eq_true_eq]; omega) | (simp only [Bool.false_eq_true, false_iff]; omega) | (simp; omega)), by repeat (first | exact Below.refl _ _ | refine below_drewN ?_ _ | refine Below.drew ?_ | refine Below.alloc ?_ (by simp <;> omega) _)⟩
end Go.Proofs.Ytkdpfbodmfjkkaa
