/- The laws' marking of a slice of ints: the array is marked, nothing else is written. -/
import Derived.Test.YtjdbaeoedfkegaaRows
import Derived.Test.YtjdbaeoedfkegaaBase
import Derived.Test.YtjdbaeoedfkegaaApart
namespace Go.Proofs.Ytjdbaeoedfkegaa
open Go.RowKit

set_option maxHeartbeats 400000 in
theorem markIntS_apart {E lo hi : Nat} {n : Nat} {xs : List Value} {v : Value} (w : World) (k0 : Int) (h0 : 0 ≤ k0) (h1 : k0 ≤ 4611686018427387904) (hn : n ≤ 1099511627776)
    (hv : Own w E 1 v lo hi n xs) :
    Calls Try.prog 34 #[v, iv k0] w fun e w' => e = .returned (iv (k0 + n)) ∧ Own w' E 1 v lo hi n ((marks k0 n).map (Value.int .i64)) ∧ Below lo w w' ∧ Apart hi w w' := by
  obtain ⟨how, hhi⟩ := hv
  obtain ⟨A, c, rfl⟩ := ownsRow_form how
  have HW := hid how
  have HH := hid hhi
  clear how hhi
  go_enter Try.func34, Try.ntmps34
  go_wp2
  go_loopw [1, 5] (fun m i wr => ∃ k : Nat, k ≤ n ∧ i = .int .i64 k ∧ m = .int .i64 (k0 + k) ∧ wr.ownsRow lo E 1 (.slice A n c) n ((marks k0 k).map (Value.int .i64) ++ xs.drop k) ∧ Below lo w wr ∧ Apart hi w wr) (fun _ i _ => n - (intOf i).toNat)
  case atStart => exact ⟨0, Nat.zero_le _, rfl, by simp, by simpa [marks] using HW.out, Below.refl _ _, Apart.refl _ _⟩
  case round =>
    obtain ⟨k, hk, rfl, rfl, how, hb, hap⟩ := hrel
    by_cases hlt : k < n
    · obtain ⟨g, rfl⟩ := ownsRow_some how (by omega)
      have hlo := ((how.lt g rfl)).1
      have hgh := HH.out g rfl
      obtain ⟨u, hu⟩ := ownsRow_cell how (j := k) (by omega)
      have hz := how.frozenAt k
      obtain ⟨how2, _⟩ := how.stored k (iv (k0 + k))
      have HW2 := hid how2
      have HA2 := hid (hap.setCell (p := ⟨g, k, none⟩) hgh (iv (k0 + k)))
      have HL := hid HW.out.1
      clear how how2 HW hap
      go_wp2
      go_roundw
      case rel => exact ⟨k + 1, by omega, by go_num, by go_num, by rw [← marks_step k0 k xs (by have := HL.out; omega)]; exact HW2.out, hb.setCell hlo _, HA2.out⟩
      case measure => simp [intOf]; omega
    · obtain rfl : k = n := by omega
      have how3 : wr.ownsRow lo E 1 (.slice A k c) k ((marks k0 k).map (Value.int .i64)) := by
        have h := how
        rwa [List.drop_eq_nil_of_le (by rw [HW.out.1]; omega), List.append_nil] at h
      have HW3 := hid how3
      have HA3 := hid hap
      clear how how3 HW hap
      go_wp2
      go_ret
      exact ⟨rfl, ⟨HW3.out, HH.out⟩, hb, HA3.out⟩
end Go.Proofs.Ytjdbaeoedfkegaa
