/- The program's and the reference's tests IsX return what the plain tests below say, whatever the fields. -/
import Derived.Test.YtkdpfbodmfjkkaaRows
import Derived.Test.YtkdpfbodmfjkkaaPlain
namespace Go.Proofs.Ytkdpfbodmfjkkaa
open Go.RowKit


set_option maxHeartbeats 400000 in
theorem implCertSpan_any (a0 a1 a2 a3 a4 a5 a6 : Int) (w : World) :
    Calls Try.prog 52 #[.agg #[iv a0, iv a1, iv a2, iv a3, iv a4, iv a5, iv a6]] w (Ret (.agg #[iv a3, iv a4]) w) := by
  go_enter Try.func52, Try.ntmps52
  go_wp2
  refine bodyPost_ret (v := .agg #[iv a3, iv a4]) (by simp [results, Try.results52, go_sem]) rfl ⟨rfl, ?_⟩
  repeat (first | exact Below.refl _ _ | refine below_drewN ?_ _ | refine Below.drew ?_ | refine Below.alloc ?_ (by simp <;> omega) _)

set_option maxHeartbeats 400000 in
theorem specCertSpan_any (a0 a1 a2 a3 a4 a5 a6 : Int) (w : World) :
    Calls Try.prog 168 #[.agg #[iv a0, iv a1, iv a2, iv a3, iv a4, iv a5, iv a6]] w (Ret (.agg #[iv a3, iv a4]) w) := by
  go_enter Try.func168, Try.ntmps168
  go_wp2
  refine bodyPost_ret (v := .agg #[iv a3, iv a4]) (by simp [results, Try.results168, go_sem]) rfl ⟨rfl, ?_⟩
  repeat (first | exact Below.refl _ _ | refine below_drewN ?_ _ | refine Below.drew ?_ | refine Below.alloc ?_ (by simp <;> omega) _)

set_option maxHeartbeats 2000000 in
theorem implIsCert_any (a0 a1 a2 a3 a4 a5 a6 : Int) (w : World) :
    Calls Try.prog 51 #[.agg #[iv a0, iv a1, iv a2, iv a3, iv a4, iv a5, iv a6]] w (Ret (.bool (certB a0 a1 a2 a3 a4 a5 a6)) w) := by
  go_enter Try.func51, Try.ntmps51
  go_wp2_with (first | (go_at_call 52; refine (implCertSpan_any _ _ _ _ _ _ _ _).mono ?_; rintro e w1 ⟨rfl, hb1⟩) | go_in)
  all_goals
    go_ret
    exact ⟨ret_bool (by rw [Bool.eq_iff_iff, certB_iff]; first | (simp only [decide_eq_true_eq]; omega) | (simp only [Bool.false_eq_true, false_iff]; omega) | (simp; omega)), by first | exact below_step (below_alloc _ _) (below_step hb1 (below_alloc _ _)) | exact below_alloc _ _⟩

set_option maxHeartbeats 2000000 in
theorem specIsCert_any (a0 a1 a2 a3 a4 a5 a6 : Int) (w : World) :
    Calls Try.prog 121 #[.agg #[iv a0, iv a1, iv a2, iv a3, iv a4, iv a5, iv a6]] w (Ret (.bool (certB a0 a1 a2 a3 a4 a5 a6)) w) := by
  go_enter Try.func121, Try.ntmps121
  go_wp2_with (first | (go_at_call 168; refine (specCertSpan_any _ _ _ _ _ _ _ _).mono ?_; rintro e w1 ⟨rfl, hb1⟩) | go_in)
  all_goals
    go_ret
    exact ⟨ret_bool (by rw [Bool.eq_iff_iff, certB_iff]; first | (simp only [decide_eq_true_eq]; omega) | (simp only [Bool.false_eq_true, false_iff]; omega) | (simp; omega)), by first | exact below_step (below_alloc _ _) (below_step hb1 (below_alloc _ _)) | exact below_alloc _ _⟩
end Go.Proofs.Ytkdpfbodmfjkkaa
