/- The laws' helpers on slices of ints: they compare, mark, read marks, count and copy. -/
import Derived.Test.YtcfealjfanoegaaRows
import Derived.Test.YtcfealjfanoegaaBase
namespace Go.Proofs.Ytcfealjfanoegaa
open Go.RowKit

theorem Try.infoInt : (Try.prog.info? 3).map (fun i => (i.zero, i.size, i.bytes)) = some (some (.int .i64 0), 1, 8) := by kernel_rfl

set_option maxHeartbeats 400000 in
theorem eqIntS_any {B : Nat} {zs : List Int} {u v : Value} (w : World) (hu : Si B w u zs) (hv : Si B w v zs) (hB : B ≤ w.heap.size) :
    Calls Try.prog 43 #[u, v] w (Ret (.bool true) w) := by
  obtain ⟨A, c, rfl, hc1, hc2, -, hA⟩ := hu
  obtain ⟨A', c', rfl, hd1, hd2, -, hA'⟩ := hv
  have HA := hid hA
  have HA' := hid hA'
  clear hA hA'
  go_enter Try.func43, Try.ntmps43
  go_wp2
  go_loopw [5] (fun i wr => ∃ k : Nat, k ≤ zs.length ∧ i = .int .i64 k ∧ Below w.heap.size w wr) (fun i _ => zs.length - (intOf i).toNat)
  case atStart => exact ⟨0, Nat.zero_le _, rfl, Below.refl _ _⟩
  case round =>
    obtain ⟨k, hk, rfl, hb⟩ := hrel
    by_cases hlt : k < zs.length
    · obtain ⟨b, off, rfl, hbB, hcc⟩ := HA.out (by omega)
      obtain ⟨b', off', rfl, hbB', hcc'⟩ := HA'.out (by omega)
      have c0 := cell_at hb hbB hB (hcc k hlt)
      have d0 := cell_at hb hbB' hB (hcc' k hlt)
      have hi0 : (0 : Int) ≤ (k : Int) := Int.natCast_nonneg _
      have hi1 : (k : Int) < (zs.length : Int) := by omega
      clear HA HA' hcc hcc'
      go_wp2
      go_quiet (fail)
      go_wp2
      go_roundw
      case rel => exact ⟨k + 1, by omega, by go_num, below_drewN hb _⟩
      case measure => simp [intOf]; omega
    · go_wp2
      go_ret
      exact ⟨rfl, hb⟩

set_option maxHeartbeats 400000 in
theorem szIntS_ok {A : Option Addr} {n c : Nat} (left : Int) (w : World) (h0 : 0 ≤ left) (h1 : left ≤ 1048576) (hn : (n : Int) ≤ left) :
    Calls Try.prog 116 #[.slice A n c, iv left] w fun e w' => e = .returned (iv (left - n)) ∧ w = w' := by
  go_enter Try.func116, Try.ntmps116
  go_wp2
  go_ret
  exact ⟨rfl, rfl⟩
set_option maxHeartbeats 400000 in
theorem szIntS_no {A : Option Addr} {n c : Nat} (left : Int) (w : World) (h0 : 0 ≤ left) (h1 : left ≤ 1048576) (hn : left < (n : Int)) (hn2 : (n : Int) ≤ 9223372036854775807) :
    Calls Try.prog 116 #[.slice A n c, iv left] w fun e w' => e = .returned (iv (-1)) ∧ w = w' := by
  go_enter Try.func116, Try.ntmps116
  go_wp2
  go_ret
  exact ⟨rfl, rfl⟩

set_option maxHeartbeats 400000 in
theorem markIntS_any {E lo hi : Nat} {n : Nat} {xs : List Value} {v : Value} (w : World) (k0 : Int) (h0 : 0 ≤ k0) (h1 : k0 ≤ 4611686018427387904) (hn : n ≤ 1099511627776)
    (hv : Own w E 1 v lo hi n xs) :
    Calls Try.prog 44 #[v, iv k0] w fun e w' => e = .returned (iv (k0 + n)) ∧ Own w' E 1 v lo hi n ((marks k0 n).map (Value.int .i64)) ∧ Below lo w w' := by
  obtain ⟨how, hhi⟩ := hv
  obtain ⟨A, c, rfl⟩ := ownsRow_form how
  have HW := hid how
  have HH := hid hhi
  clear how hhi
  go_enter Try.func44, Try.ntmps44
  go_wp2
  go_loopw [1, 5] (fun m i wr => ∃ k : Nat, k ≤ n ∧ i = .int .i64 k ∧ m = .int .i64 (k0 + k) ∧ wr.ownsRow lo E 1 (.slice A n c) n ((marks k0 k).map (Value.int .i64) ++ xs.drop k) ∧ Below lo w wr) (fun _ i _ => n - (intOf i).toNat)
  case atStart => exact ⟨0, Nat.zero_le _, rfl, by simp, by simpa [marks] using HW.out, Below.refl _ _⟩
  case round =>
    obtain ⟨k, hk, rfl, rfl, how, hb⟩ := hrel
    by_cases hlt : k < n
    · obtain ⟨g, rfl⟩ := ownsRow_some how (by omega)
      have hlo := ((how.lt g rfl)).1
      obtain ⟨u, hu⟩ := ownsRow_cell how (j := k) (by omega)
      have hz := how.frozenAt k
      obtain ⟨how2, _⟩ := how.stored k (iv (k0 + k))
      have HW2 := hid how2
      have HL := hid HW.out.1
      clear how how2 HW
      go_wp2
      go_roundw
      case rel => exact ⟨k + 1, by omega, by go_num, by go_num, by rw [← marks_step k0 k xs (by have := HL.out; omega)]; exact HW2.out, hb.setCell hlo _⟩
      case measure => simp [intOf]; omega
    · obtain rfl : k = n := by omega
      have how3 : wr.ownsRow lo E 1 (.slice A k c) k ((marks k0 k).map (Value.int .i64)) := by
        have h := how
        rwa [List.drop_eq_nil_of_le (by rw [HW.out.1]; omega), List.append_nil] at h
      have HW3 := hid how3
      clear how how3 HW
      go_wp2
      go_ret
      exact ⟨rfl, ⟨HW3.out, HH.out⟩, hb⟩

set_option maxHeartbeats 400000 in
theorem heldIntS_any {B n : Nat} {v : Value} (w : World) (k0 : Int) (h0 : 0 ≤ k0) (h1 : k0 ≤ 4611686018427387904) (hn : n ≤ 1099511627776) (hv : Si B w v (marks k0 n)) :
    Calls Try.prog 45 #[v, iv k0] w fun e w' => e = .returned (iv (k0 + n)) ∧ w = w' := by
  obtain ⟨A, c, rfl, hc1, hc2, -, hA⟩ := hv
  have HA := hid hA
  clear hA
  rw [marks_length] at *
  go_enter Try.func45, Try.ntmps45
  go_wp2
  go_loop [1, 5] (fun m i => ∃ k : Nat, k ≤ n ∧ i = .int .i64 k ∧ m = .int .i64 (k0 + k)) (fun _ i => n - (intOf i).toNat)
  case atStart => exact ⟨0, Nat.zero_le _, rfl, by simp⟩
  case round =>
    obtain ⟨k, hk, rfl, rfl⟩ := hrel
    by_cases hlt : k < n
    · obtain ⟨b, off, rfl, hbB, hcc⟩ := HA.out (by omega)
      have c0 := hcc k hlt
      rw [marks_get k0 hlt] at c0
      clear HA hcc
      go_wp2
      go_round
      case rel => exact ⟨k + 1, by omega, by go_num, by go_num⟩
      case measure => simp [intOf]; omega
    · obtain rfl : k = n := by omega
      go_wp2
      go_ret
      exact ⟨rfl, rfl⟩

set_option maxHeartbeats 400000 in
theorem toIntS_any {B : Nat} {zs : List Int} {v : Value} (w : World) (hv : Si B w v zs) (hB : B ≤ w.heap.size) (hn : zs.length ≤ 1048576) :
    Calls Try.prog 120 #[v] w (RetOwn 3 1 zs.length (zs.map (Value.int .i64)) w) := by
  obtain ⟨A, c, rfl, hc1, hc2, -, hA⟩ := hv
  have HA := hid hA
  clear hA
  have hmk := run_make_fresh (P := Try.prog) 61 3 Try.underlying61 Try.infoInt zs.length (by omega) (by omega)
  go_enter Try.func120, Try.ntmps120
  go_wp2
  have HU := hid (World.ownsRow_lit (base := w.heap.size) (e := 3) (size := 1) w (fresh #[Value.int IntKind.i64 0] zs.length) zs.length (Nat.le_refl _) (by unfold maxLen; omega) (by rw [size_fresh]; omega))
  go_loopw [4] (fun i wr => ∃ k : Nat, ∃ xs, k ≤ zs.length ∧ i = .int .i64 k ∧ Upd xs (zs.map (Value.int .i64)) k ∧ wr.ownsRow w.heap.size 3 1 (.slice (some ⟨w.heap.size, 0, none⟩) zs.length zs.length) zs.length xs ∧ Below w.heap.size w wr) (fun i _ => zs.length - (intOf i).toNat)
  case atStart => exact ⟨0, _, Nat.zero_le _, rfl, Upd.zero (by rw [Array.length_toList, size_fresh]; simp), HU.out, (Below.refl _ _).alloc (Nat.le_refl _) _⟩
  case round =>
    obtain ⟨k, xs, hk, rfl, hup, how, hb⟩ := hrel
    by_cases hlt : k < zs.length
    · obtain ⟨b, off, rfl, hbB, hcc⟩ := HA.out (by omega)
      have c0 := cell_at hb hbB hB (hcc k hlt)
      obtain ⟨u, hu⟩ := ownsRow_cell how (j := k) (by omega)
      have hz := how.frozenAt k
      have HU1 := hid (hup.step (u := .int .i64 (nth zs k)) (by rw [List.getElem?_map, nth_get hlt]; rfl))
      have HW1 := hid (how.stored k (.int .i64 (nth zs k))).1
      clear HA HU hcc how hup
      go_wp2
      go_roundw
      case rel => exact ⟨k + 1, _, by omega, by go_num, HU1.out, HW1.out, hb.setCell (Nat.le_refl _) _⟩
      case measure => simp [intOf]; omega
    · obtain rfl : xs = zs.map (Value.int .i64) := hup.done (by rw [List.length_map]; omega)
      have HW1 := hid how
      clear how hup HU
      go_wp2
      go_ret
      exact ⟨_, rfl, Own.of HW1.out, hb⟩
end Go.Proofs.Ytcfealjfanoegaa
