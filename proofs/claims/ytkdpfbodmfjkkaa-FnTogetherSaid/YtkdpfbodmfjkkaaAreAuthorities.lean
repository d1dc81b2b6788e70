/- AreAuthorities of the program and of the reference return what the plain function says. No condition. -/
import Derived.Test.YtkdpfbodmfjkkaaRows
import Derived.Test.YtkdpfbodmfjkkaaPlain
namespace Go.Proofs.Ytkdpfbodmfjkkaa
open Go.RowKit

set_option maxHeartbeats 400000 in
theorem implIn_any (n lo hi : Int) (w : World) :
    Calls Try.prog 106 #[iv n, iv lo, iv hi] w fun e w' => e = .returned (.bool (inR n lo hi)) ∧ w' = w := by
  go_enter Try.func106, Try.ntmps106
  go_wp2
  all_goals
    go_ret
    exact ⟨ret_bool (by rw [Bool.eq_iff_iff, inR_iff]; first | (simp only [decide_eq_true_eq]; omega) | (simp only [Bool.false_eq_true, false_iff]; omega) | (simp; omega)), rfl⟩


set_option maxHeartbeats 400000 in
theorem specIn_any (n lo hi : Int) (w : World) :
    Calls Try.prog 157 #[iv n, iv lo, iv hi] w fun e w' => e = .returned (.bool (inR n lo hi)) ∧ w' = w := by
  go_enter Try.func157, Try.ntmps157
  go_wp2
  all_goals
    go_ret
    exact ⟨ret_bool (by rw [Bool.eq_iff_iff, inR_iff]; first | (simp only [decide_eq_true_eq]; omega) | (simp only [Bool.false_eq_true, false_iff]; omega) | (simp; omega)), rfl⟩


end Go.Proofs.Ytkdpfbodmfjkkaa
