/- The program's and the reference's tests IsX return what the plain tests below say, whatever the fields. -/
import Derived.Test.YtkdpfbodmfjkkaaRows
import Derived.Test.YtkdpfbodmfjkkaaPlain
namespace Go.Proofs.Ytkdpfbodmfjkkaa
open Go.RowKit


set_option maxHeartbeats 2000000 in
theorem implIsSignature_any (a0 a1 a2 a3 a4 a5 a6 a7 a8 : Int) (w : World) :
    Calls Try.prog 139 #[.agg #[iv a0, iv a1, iv a2, iv a3, iv a4, iv a5, iv a6, iv a7, iv a8]] w (Ret (.bool (signatureB a0 a1 a2 a3 a4 a5 a6 a7 a8)) w) := by
  go_enter Try.func139, Try.ntmps139
  go_wp2
  all_goals
    go_ret
    exact ⟨ret_bool (by rw [Bool.eq_iff_iff, signatureB_iff]; first | (simp only [decide_eq_true_eq]; omega) | (simp only [Bool.false_eq_true, false_iff]; omega) | (simp; omega)), by repeat (first | exact Below.refl _ _ | refine below_drewN ?_ _ | refine Below.drew ?_ | refine Below.alloc ?_ (by simp <;> omega) _)⟩

set_option maxHeartbeats 2000000 in
theorem specIsSignature_any (a0 a1 a2 a3 a4 a5 a6 a7 a8 : Int) (w : World) :
    Calls Try.prog 171 #[.agg #[iv a0, iv a1, iv a2, iv a3, iv a4, iv a5, iv a6, iv a7, iv a8]] w (Ret (.bool (signatureB a0 a1 a2 a3 a4 a5 a6 a7 a8)) w) := by
  go_enter Try.func171, Try.ntmps171
  go_wp2
  all_goals
    go_ret
    exact ⟨ret_bool (by rw [Bool.eq_iff_iff, signatureB_iff]; first | (simp only [decide_eq_true_eq]; omega) | (simp only [Bool.false_eq_true, false_iff]; omega) | (simp; omega)), by repeat (first | exact Below.refl _ _ | refine below_drewN ?_ _ | refine Below.drew ?_ | refine Below.alloc ?_ (by simp <;> omega) _)⟩
end Go.Proofs.Ytkdpfbodmfjkkaa
