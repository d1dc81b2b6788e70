/- isTime and l4Time say whether 0 <= t <= 10000. No condition. -/
import Derived.Test.YtkdpfbodmfjkkaaRows
import Derived.Test.YtkdpfbodmfjkkaaPlain
namespace Go.Proofs.Ytkdpfbodmfjkkaa
open Go.RowKit

set_option maxHeartbeats 400000 in
theorem implisTime_any (t : Int) (w : World) : Calls Try.prog 107 #[iv t] w (Ret (.bool (timeB t)) w) := by
  by_cases h0 : 0 ≤ t
  · by_cases h1 : t ≤ 10000
    · have HT := hid (timeB_iff.2 ⟨h0, h1⟩)
      go_enter Try.func107, Try.ntmps107
      go_wp2_with (go_in)
      go_ret
      exact ⟨ret_bool HT.out.symm, Below.refl _ _⟩
    · have HT : Hid (timeB t = false) := hid (by cases h : timeB t; rfl; exact absurd (timeB_iff.1 h).2 h1)
      go_enter Try.func107, Try.ntmps107
      go_wp2_with (go_in)
      go_ret
      exact ⟨ret_bool HT.out.symm, Below.refl _ _⟩
  · have HT : Hid (timeB t = false) := hid (by cases h : timeB t; rfl; exact absurd (timeB_iff.1 h).1 h0)
    go_enter Try.func107, Try.ntmps107
    go_wp2_with (go_in)
    go_ret
    exact ⟨ret_bool HT.out.symm, Below.refl _ _⟩
set_option maxHeartbeats 400000 in
theorem specl4Time_any (t : Int) (w : World) : Calls Try.prog 134 #[iv t] w (Ret (.bool (timeB t)) w) := by
  by_cases h0 : 0 ≤ t
  · by_cases h1 : t ≤ 10000
    · have HT := hid (timeB_iff.2 ⟨h0, h1⟩)
      go_enter Try.func134, Try.ntmps134
      go_wp2_with (go_in)
      go_ret
      exact ⟨ret_bool HT.out.symm, Below.refl _ _⟩
    · have HT : Hid (timeB t = false) := hid (by cases h : timeB t; rfl; exact absurd (timeB_iff.1 h).2 h1)
      go_enter Try.func134, Try.ntmps134
      go_wp2_with (go_in)
      go_ret
      exact ⟨ret_bool HT.out.symm, Below.refl _ _⟩
  · have HT : Hid (timeB t = false) := hid (by cases h : timeB t; rfl; exact absurd (timeB_iff.1 h).1 h0)
    go_enter Try.func134, Try.ntmps134
    go_wp2_with (go_in)
    go_ret
    exact ⟨ret_bool HT.out.symm, Below.refl _ _⟩
end Go.Proofs.Ytkdpfbodmfjkkaa
