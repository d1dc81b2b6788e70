/- The laws' marking of a slice of Span: the array is marked, nothing else is written. -/
import Derived.Test.YtcfealjfanoegaaRows
import Derived.Test.YtcfealjfanoegaaBase
import Derived.Test.YtcfealjfanoegaaApart
namespace Go.Proofs.Ytcfealjfanoegaa
open Go.RowKit


set_option maxHeartbeats 1000000 in
theorem markSpanS_apart {E lo hi : Nat} {n : Nat} {xs : List Value} {v : Value} (w : World) (k0 : Int) (h0 : 0 ≤ k0) (h1 : k0 ≤ 4611686018427387904) (hn : n ≤ 1099511627776)
    (hv : Own w E 2 v lo hi n xs) :
    Calls Try.prog 29 #[v, iv k0] w fun e w' => e = .returned (iv (k0 + (n * 2 : Nat))) ∧ Own w' E 2 v lo hi n ((marks k0 (n * 2)).map (Value.int .i64)) ∧ Below lo w w' ∧ Apart hi w w' := by
  obtain ⟨how, hhi⟩ := hv
  obtain ⟨A, c, rfl⟩ := ownsRow_form how
  have HW := hid how
  have HH := hid hhi
  clear how hhi
  go_enter Try.func29, Try.ntmps29
  go_wp2
  go_loopw [1, 5] (fun m i wr => ∃ k : Nat, ∃ xs, ∃ M : Int, k ≤ n ∧ i = .int .i64 k ∧ m = .int .i64 M ∧ 0 ≤ M ∧ M ≤ 5000000000000000000 ∧ Hid (M = k0 + (k * 2 : Nat)) ∧ Upd xs ((marks k0 (n * 2)).map (Value.int .i64)) (k * 2) ∧ wr.ownsRow lo E 2 (.slice A n c) n xs ∧ Below lo w wr ∧ Apart hi w wr) (fun _ i _ => n - (intOf i).toNat)
  case atStart => exact ⟨0, _, k0, Nat.zero_le _, rfl, rfl, h0, by omega, hid (by simp), by rw [Nat.zero_mul]; exact Upd.zero (by rw [HW.out.1, List.length_map, marks_length]), HW.out, Below.refl _ _, Apart.refl _ _⟩
  case round =>
    obtain ⟨k, xs, M, hk, rfl, rfl, hM0, hM1, HM, hup, how, hb, hap⟩ := hrel
    by_cases hlt : k < n
    · obtain ⟨g, rfl⟩ := ownsRow_some how (by omega)
      have hlo := ((how.lt g rfl)).1
      have hgh := HH.out g rfl
      obtain ⟨u0, hu0⟩ := ownsRow_cell how (j := k * 2) (by omega)
      obtain ⟨u1, hu1⟩ := ownsRow_cell how (j := k * 2 + 1) (by omega)
      have z0 := how.frozenAt (k * 2)
      have z1 := how.frozenAt (k * 2 + 1)
      have HW1 := hid ((how.stored (k * 2) (iv (M))).1.stored (k * 2 + 1) (iv (M + 1))).1
      have HU1 := hid ((hup.step (u := iv (M)) (marks_at k0 (by omega) (by have := HM.out; omega))).step (u := iv (M + 1)) (marks_at k0 (by omega) (by have := HM.out; omega)))
      have HB1 := hid ((hb.setCell (p := ⟨g, k * 2, none⟩) hlo (iv (M))).setCell (p := ⟨g, k * 2 + 1, none⟩) hlo (iv (M + 1)))
      have HA1 := hid ((hap.setCell (p := ⟨g, k * 2, none⟩) hgh (iv (M))).setCell (p := ⟨g, k * 2 + 1, none⟩) hgh (iv (M + 1)))
      clear how HW hup hb hap
      go_wp2
      go_roundw
      case rel => exact ⟨k + 1, _, _, by omega, by go_num, rfl, by omega, by have := HM.out; omega, hid (by have := HM.out; omega), by rw [Nat.succ_mul]; exact HU1.out, HW1.out, HB1.out, HA1.out⟩
      case measure => simp [intOf]; omega
    · obtain rfl : k = n := by omega
      obtain rfl : xs = (marks k0 (k * 2)).map (Value.int .i64) := hup.done (by rw [List.length_map, marks_length]; exact Nat.le_refl _)
      have HW3 := hid how
      clear how hup HW
      go_wp2
      go_ret
      exact ⟨ret_int HM.out, ⟨HW3.out, HH.out⟩, hb, hap⟩
end Go.Proofs.Ytcfealjfanoegaa
