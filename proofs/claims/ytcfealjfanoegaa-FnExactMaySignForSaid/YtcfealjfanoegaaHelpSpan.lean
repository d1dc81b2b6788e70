/- The laws' helpers on Span and slices of them: they copy, compare, count and mark. -/
import Derived.Test.YtcfealjfanoegaaRows
import Derived.Test.YtcfealjfanoegaaBase
namespace Go.Proofs.Ytcfealjfanoegaa
open Go.RowKit

theorem Try.infoSpan : (Try.prog.info? 55).map (fun i => (i.zero, i.size, i.bytes)) = some (some (.agg #[iv 0, iv 0]), 2, 16) := by kernel_rfl

set_option maxHeartbeats 400000 in
theorem toSpan_any (a0 a1 : Int) (w : World) :
    Calls Try.prog 58 #[.agg #[iv a0, iv a1]] w (Ret (.agg #[iv a0, iv a1]) w) := by
  go_enter Try.func58, Try.ntmps58
  go_wp2
  refine bodyPost_ret (v := .agg #[iv a0, iv a1]) (by simp [results, Try.results58, go_sem]) rfl ⟨rfl, ?_⟩
  exact (((Below.refl _ _).alloc (Nat.le_refl _) _).alloc (by simp) _).alloc (by simp; omega) _

set_option maxHeartbeats 1000000 in
theorem toSpanS_any {B : Nat} {ks : List (List Int)} {v : Value} (w : World) (hv : Sl B w 2 v ks) (hs : ∀ r ∈ ks, r.length = 2) (hB : B ≤ w.heap.size) (hn : ks.length ≤ 1048576) :
    Calls Try.prog 38 #[v] w (RetOwn 55 2 ks.length (flat ks) w) := by
  obtain ⟨A, c, rfl, hc1, hc2, -, hA⟩ := hv
  have HA := hid hA
  have HS := hid hs
  clear hA hs
  have hmk := run_make_fresh (P := Try.prog) 32 55 Try.underlying32 Try.infoSpan ks.length (by omega) (by omega)
  go_enter Try.func38, Try.ntmps38
  go_wp2
  have HU := hid (World.ownsRow_lit (base := w.heap.size) (e := 55) (size := 2) w (fresh #[iv 0, iv 0] (ks.length * 2)) ks.length (Nat.le_refl _) (by unfold maxLen; omega) (by rw [size_fresh]))
  go_loopw [4] (fun i wr => ∃ k : Nat, ∃ xs, k ≤ ks.length ∧ i = .int .i64 k ∧ Upd xs (flat ks) (k * 2) ∧ wr.ownsRow w.heap.size 55 2 (.slice (some ⟨w.heap.size, 0, none⟩) ks.length ks.length) ks.length xs ∧ Below w.heap.size w wr) (fun i _ => ks.length - (intOf i).toNat)
  case atStart => exact ⟨0, _, Nat.zero_le _, rfl, by rw [Nat.zero_mul]; exact Upd.zero (by rw [Array.length_toList, size_fresh, flat_length HS.out]), HU.out, (Below.refl _ _).alloc (Nat.le_refl _) _⟩
  case round =>
    obtain ⟨k, xs, hk, rfl, hup, how, hb⟩ := hrel
    by_cases hlt : k < ks.length
    · obtain ⟨b, off, rfl, hbB, hcc⟩ := HA.out (by omega)
      have c0 := cell_at hb hbB hB (hcc k 0 hlt (by omega))
      have c1 := cell_at hb hbB hB (hcc k 1 hlt (by omega))
      rw [Nat.add_zero] at c0
      clear HA HU hcc
      have HUP := hid hup
      have HOW := hid how
      have HBL := hid hb
      clear hup how hb
      go_wp2_with fail
      refine (toSpan_any _ _ _).mono ?_
      rintro e w1 ⟨rfl, hb1⟩
      have how1 := ownsRow_below HOW.out hb1 (fun g hg => (HOW.out.lt g hg).2)
      obtain ⟨u0, hu0⟩ := ownsRow_cell how1 (j := k * 2) (by omega)
      obtain ⟨u1, hu1⟩ := ownsRow_cell how1 (j := k * 2 + 1) (by omega)
      have z0 := how1.frozenAt (k * 2)
      have z1 := how1.frozenAt (k * 2 + 1)
      have hl := (how1.lt _ rfl).1
      have HW := hid ((how1.stored (k * 2) (iv (fld ks k 0))).1.stored (k * 2 + 1) (iv (fld ks k 1))).1
      have HUP1 := hid ((HUP.out.step (flat_get HS.out k 0 hlt (by omega))).step (flat_get HS.out k 1 hlt (by omega)))
      have HBL1 := hid (((HBL.out.trans (hb1.mono HBL.out.size)).setCell (p := ⟨w.heap.size, k * 2, none⟩) hl (iv (fld ks k 0))).setCell (p := ⟨w.heap.size, k * 2 + 1, none⟩) hl (iv (fld ks k 1)))
      clear how1 hb1 c0 c1 HUP HBL HOW
      go_wp2
      go_roundw
      case rel => exact ⟨k + 1, _, by omega, by go_num, by rw [Nat.succ_mul]; exact HUP1.out, HW.out, HBL1.out⟩
      case measure => simp [intOf]; omega
    · obtain rfl : xs = flat ks := hup.done (by rw [flat_length HS.out]; exact Nat.mul_le_mul_right _ (by omega))
      have HW1 := hid how
      clear how hup HU
      go_wp2
      go_ret
      exact ⟨_, rfl, Own.of HW1.out, hb⟩

set_option maxHeartbeats 400000 in
theorem szSpanS_ok {A : Option Addr} {n c : Nat} (left : Int) (w : World) (h0 : 0 ≤ left) (h1 : left ≤ 1048576) (hn : (n : Int) ≤ left) :
    Calls Try.prog 36 #[.slice A n c, iv left] w fun e w' => e = .returned (iv (left - n)) ∧ w = w' := by
  go_enter Try.func36, Try.ntmps36
  go_wp2
  go_ret
  exact ⟨rfl, rfl⟩
set_option maxHeartbeats 400000 in
theorem szSpanS_no {A : Option Addr} {n c : Nat} (left : Int) (w : World) (h0 : 0 ≤ left) (h1 : left ≤ 1048576) (hn : left < (n : Int)) (hn2 : (n : Int) ≤ 9223372036854775807) :
    Calls Try.prog 36 #[.slice A n c, iv left] w fun e w' => e = .returned (iv (-1)) ∧ w = w' := by
  go_enter Try.func36, Try.ntmps36
  go_wp2
  go_ret
  exact ⟨rfl, rfl⟩

set_option maxHeartbeats 1000000 in
theorem eqSpan_any (a0 a1 : Int) (w : World) :
    Calls Try.prog 40 #[.agg #[iv a0, iv a1], .agg #[iv a0, iv a1]] w (Ret (.bool true) w) := by
  go_enter Try.func40, Try.ntmps40
  go_wp2
  repeat' (go_quiet (fail); go_wp2)
  go_ret
  exact ⟨rfl, by repeat (first | exact Below.refl _ _ | refine below_drewN ?_ _ | refine Below.drew ?_ | refine Below.alloc ?_ (by simp; try omega) _)⟩

set_option maxHeartbeats 1000000 in
theorem eqSpanS_any {B : Nat} {ks : List (List Int)} {u v : Value} (w : World) (hu : Sl B w 2 u ks) (hv : Sl B w 2 v ks) (hB : B ≤ w.heap.size) :
    Calls Try.prog 24 #[u, v] w (Ret (.bool true) w) := by
  obtain ⟨A, c, rfl, hc1, hc2, -, hA⟩ := hu
  obtain ⟨A', c', rfl, hd1, hd2, -, hA'⟩ := hv
  have HA := hid hA
  have HA' := hid hA'
  clear hA hA'
  go_enter Try.func24, Try.ntmps24
  go_wp2
  go_loopw [5] (fun i wr => ∃ k : Nat, k ≤ ks.length ∧ i = .int .i64 k ∧ Below w.heap.size w wr) (fun i _ => ks.length - (intOf i).toNat)
  case atStart => exact ⟨0, Nat.zero_le _, rfl, Below.refl _ _⟩
  case round =>
    obtain ⟨k, hk, rfl, hb⟩ := hrel
    by_cases hlt : k < ks.length
    · obtain ⟨b, off, rfl, hbB, hcc⟩ := HA.out (by omega)
      obtain ⟨b', off', rfl, hbB', hcc'⟩ := HA'.out (by omega)
      have HS : Hid (∀ w' : World, Below w.heap.size w w' → (w'.cell? ⟨b, off + k * 2, none⟩ = some (iv (fld ks k 0)) ∧ w'.cell? ⟨b', off' + k * 2, none⟩ = some (iv (fld ks k 0)) ∧ w'.cell? ⟨b, off + k * 2 + 1, none⟩ = some (iv (fld ks k 1)) ∧ w'.cell? ⟨b', off' + k * 2 + 1, none⟩ = some (iv (fld ks k 1)) ∧ Below w.heap.size w w')) := hid fun w' hx => ⟨cell_at hx hbB hB (hcc k 0 hlt (by omega)), cell_at hx hbB' hB (hcc' k 0 hlt (by omega)), cell_at hx hbB hB (hcc k 1 hlt (by omega)), cell_at hx hbB' hB (hcc' k 1 hlt (by omega)), hx⟩
      obtain ⟨c0, d0, c1, d1, -⟩ := HS.out wr hb
      have hi0 : (0 : Int) ≤ (k : Int) := Int.natCast_nonneg _
      have hi1 : (k : Int) < (ks.length : Int) := by omega
      clear HA HA' hcc hcc'
      go_wp2_with fail
      go_region_held3 (fun w' => w'.cell? ⟨b, off + k * 2, none⟩ = some (iv (fld ks k 0)) ∧ w'.cell? ⟨b', off' + k * 2, none⟩ = some (iv (fld ks k 0)) ∧ w'.cell? ⟨b, off + k * 2 + 1, none⟩ = some (iv (fld ks k 1)) ∧ w'.cell? ⟨b', off' + k * 2 + 1, none⟩ = some (iv (fld ks k 1)) ∧ Below w.heap.size w w') (first | exact HS.out _ hb.drew | go_keep | (go_split_ands; exact HS.out _ (below_step (by assumption) hb1)))
        (first | (go_at_call 40; refine (eqSpan_any _ _ _).mono ?_; rintro e w1 ⟨rfl, hb1⟩))
      go_wp2
      go_roundw
      case rel => exact ⟨k + 1, by omega, by go_num, below_step hb.drew hb1⟩
      case measure => simp [intOf]; omega
    · have HB := hid hb
      clear hb
      go_wp2
      go_ret
      exact ⟨rfl, HB.out⟩

set_option maxHeartbeats 1000000 in
theorem markSpanS_any {E lo hi : Nat} {n : Nat} {xs : List Value} {v : Value} (w : World) (k0 : Int) (h0 : 0 ≤ k0) (h1 : k0 ≤ 4611686018427387904) (hn : n ≤ 1099511627776)
    (hv : Own w E 2 v lo hi n xs) :
    Calls Try.prog 29 #[v, iv k0] w fun e w' => e = .returned (iv (k0 + (n * 2 : Nat))) ∧ Own w' E 2 v lo hi n ((marks k0 (n * 2)).map (Value.int .i64)) ∧ Below lo w w' := by
  obtain ⟨how, hhi⟩ := hv
  obtain ⟨A, c, rfl⟩ := ownsRow_form how
  have HW := hid how
  have HH := hid hhi
  clear how hhi
  go_enter Try.func29, Try.ntmps29
  go_wp2
  go_loopw [1, 5] (fun m i wr => ∃ k : Nat, ∃ xs, ∃ M : Int, k ≤ n ∧ i = .int .i64 k ∧ m = .int .i64 M ∧ 0 ≤ M ∧ M ≤ 5000000000000000000 ∧ Hid (M = k0 + (k * 2 : Nat)) ∧ Upd xs ((marks k0 (n * 2)).map (Value.int .i64)) (k * 2) ∧ wr.ownsRow lo E 2 (.slice A n c) n xs ∧ Below lo w wr) (fun _ i _ => n - (intOf i).toNat)
  case atStart => exact ⟨0, _, k0, Nat.zero_le _, rfl, rfl, h0, by omega, hid (by simp), by rw [Nat.zero_mul]; exact Upd.zero (by rw [HW.out.1, List.length_map, marks_length]), HW.out, Below.refl _ _⟩
  case round =>
    obtain ⟨k, xs, M, hk, rfl, rfl, hM0, hM1, HM, hup, how, hb⟩ := hrel
    by_cases hlt : k < n
    · obtain ⟨g, rfl⟩ := ownsRow_some how (by omega)
      have hlo := ((how.lt g rfl)).1
      obtain ⟨u0, hu0⟩ := ownsRow_cell how (j := k * 2) (by omega)
      obtain ⟨u1, hu1⟩ := ownsRow_cell how (j := k * 2 + 1) (by omega)
      have z0 := how.frozenAt (k * 2)
      have z1 := how.frozenAt (k * 2 + 1)
      have HW1 := hid ((how.stored (k * 2) (iv (M))).1.stored (k * 2 + 1) (iv (M + 1))).1
      have HU1 := hid ((hup.step (u := iv (M)) (marks_at k0 (by omega) (by have := HM.out; omega))).step (u := iv (M + 1)) (marks_at k0 (by omega) (by have := HM.out; omega)))
      have HB1 := hid ((hb.setCell (p := ⟨g, k * 2, none⟩) hlo (iv (M))).setCell (p := ⟨g, k * 2 + 1, none⟩) hlo (iv (M + 1)))
      clear how HW hup hb
      go_wp2
      go_roundw
      case rel => exact ⟨k + 1, _, _, by omega, by go_num, rfl, by omega, by have := HM.out; omega, hid (by have := HM.out; omega), by rw [Nat.succ_mul]; exact HU1.out, HW1.out, HB1.out⟩
      case measure => simp [intOf]; omega
    · obtain rfl : k = n := by omega
      obtain rfl : xs = (marks k0 (k * 2)).map (Value.int .i64) := hup.done (by rw [List.length_map, marks_length]; exact Nat.le_refl _)
      have HW3 := hid how
      clear how hup HW
      go_wp2
      go_ret
      exact ⟨ret_int HM.out, ⟨HW3.out, HH.out⟩, hb⟩
end Go.Proofs.Ytcfealjfanoegaa
