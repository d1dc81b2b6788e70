/- AreAuthorities of the program and of the reference return what the plain function says. No condition. -/
import Derived.Test.YtcfealjfanoegaaRows
import Derived.Test.YtcfealjfanoegaaPlain
namespace Go.Proofs.Ytcfealjfanoegaa
open Go.RowKit

set_option maxHeartbeats 400000 in
theorem implIn_any (n lo hi : Int) (w : World) :
    Calls Try.prog 136 #[iv n, iv lo, iv hi] w fun e w' => e = .returned (.bool (inR n lo hi)) ∧ w' = w := by
  go_enter Try.func136, Try.ntmps136
  go_wp2
  all_goals
    go_ret
    exact ⟨ret_bool (by rw [Bool.eq_iff_iff, inR_iff]; first | (simp only [decide_eq_true_eq]; omega) | (simp only [Bool.false_eq_true, false_iff]; omega) | (simp; omega)), rfl⟩


set_option maxHeartbeats 400000 in
theorem specIn_any (n lo hi : Int) (w : World) :
    Calls Try.prog 87 #[iv n, iv lo, iv hi] w fun e w' => e = .returned (.bool (inR n lo hi)) ∧ w' = w := by
  go_enter Try.func87, Try.ntmps87
  go_wp2
  all_goals
    go_ret
    exact ⟨ret_bool (by rw [Bool.eq_iff_iff, inR_iff]; first | (simp only [decide_eq_true_eq]; omega) | (simp only [Bool.false_eq_true, false_iff]; omega) | (simp; omega)), rfl⟩


end Go.Proofs.Ytcfealjfanoegaa
