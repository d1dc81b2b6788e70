/- The laws' reading of marks in a slice of Span. No condition beyond sizes. -/
import Derived.Test.YtcfealjfanoegaaRows
import Derived.Test.YtcfealjfanoegaaBase
namespace Go.Proofs.Ytcfealjfanoegaa
open Go.RowKit

set_option maxHeartbeats 1000000 in
theorem heldSpanS_any {E lo hi n : Nat} {v : Value} (w : World) (k0 : Int) (h0 : 0 ≤ k0) (h1 : k0 ≤ 4611686018427387904) (hn : n ≤ 1099511627776) (hv : Own w E 2 v lo hi n ((marks k0 (n * 2)).map (Value.int .i64))) :
    Calls Try.prog 30 #[v, iv k0] w fun e w' => e = .returned (iv (k0 + (n * 2 : Nat))) ∧ w = w' := by
  obtain ⟨how, hhi⟩ := hv
  obtain ⟨A, c, rfl⟩ := ownsRow_form how
  have HW := hid how
  clear how hhi
  go_enter Try.func30, Try.ntmps30
  go_wp2
  go_loop [1, 5] (fun m i => ∃ k : Nat, ∃ M : Int, k ≤ n ∧ i = .int .i64 k ∧ m = .int .i64 M ∧ 0 ≤ M ∧ M ≤ 5000000000000000000 ∧ Hid (M = k0 + (k * 2 : Nat))) (fun _ i => n - (intOf i).toNat)
  case atStart => exact ⟨0, k0, Nat.zero_le _, rfl, rfl, h0, by omega, hid (by simp)⟩
  case round =>
    obtain ⟨k, M, hk, rfl, rfl, hM0, hM1, HM⟩ := hrel
    by_cases hlt : k < n
    · obtain ⟨g, rfl⟩ := ownsRow_some HW.out (by omega)
      have c0 := (HW.out.cellAt (k * 2) (by omega)).trans (marks_at k0 (M := M) (by omega) (by have := HM.out; omega))
      have c1 := (HW.out.cellAt (k * 2 + 1) (by omega)).trans (marks_at k0 (M := M + 1) (by omega) (by have := HM.out; omega))
      clear HW
      go_wp2
      go_round
      case rel => exact ⟨k + 1, _, by omega, by go_num, rfl, by omega, by have := HM.out; omega, hid (by have := HM.out; omega)⟩
      case measure => simp [intOf]; omega
    · obtain rfl : k = n := by omega
      clear HW
      go_wp2
      go_ret
      exact ⟨ret_int HM.out, rfl⟩
end Go.Proofs.Ytcfealjfanoegaa
