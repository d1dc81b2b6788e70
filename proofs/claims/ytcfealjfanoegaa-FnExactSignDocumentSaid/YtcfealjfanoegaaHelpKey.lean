/- The laws' helpers on Key and slices of them: they copy, compare, count and mark. -/
import Derived.Test.YtcfealjfanoegaaRows
import Derived.Test.YtcfealjfanoegaaBase
namespace Go.Proofs.Ytcfealjfanoegaa
open Go.RowKit

theorem Try.infoKey : (Try.prog.info? 113).map (fun i => (i.zero, i.size, i.bytes)) = some (some (.agg #[iv 0, iv 0, iv 0, iv 0, iv 0]), 5, 40) := by kernel_rfl

set_option maxHeartbeats 400000 in
theorem toKey_any (a0 a1 a2 a3 a4 : Int) (w : World) :
    Calls Try.prog 79 #[.agg #[iv a0, iv a1, iv a2, iv a3, iv a4]] w (Ret (.agg #[iv a0, iv a1, iv a2, iv a3, iv a4]) w) := by
  go_enter Try.func79, Try.ntmps79
  go_wp2
  refine bodyPost_ret (v := .agg #[iv a0, iv a1, iv a2, iv a3, iv a4]) (by simp [results, Try.results79, go_sem]) rfl ⟨rfl, ?_⟩
  exact (((Below.refl _ _).alloc (Nat.le_refl _) _).alloc (by simp) _).alloc (by simp; omega) _

set_option maxHeartbeats 1000000 in
theorem toKeyS_any {B : Nat} {ks : List (List Int)} {v : Value} (w : World) (hv : Sl B w 5 v ks) (hs : ∀ r ∈ ks, r.length = 5) (hB : B ≤ w.heap.size) (hn : ks.length ≤ 1048576) :
    Calls Try.prog 21 #[v] w (RetOwn 113 5 ks.length (flat ks) w) := by
  obtain ⟨A, c, rfl, hc1, hc2, -, hA⟩ := hv
  have HA := hid hA
  have HS := hid hs
  clear hA hs
  have hmk := run_make_fresh (P := Try.prog) 34 113 Try.underlying34 Try.infoKey ks.length (by omega) (by omega)
  go_enter Try.func21, Try.ntmps21
  go_wp2
  have HU := hid (World.ownsRow_lit (base := w.heap.size) (e := 113) (size := 5) w (fresh #[iv 0, iv 0, iv 0, iv 0, iv 0] (ks.length * 5)) ks.length (Nat.le_refl _) (by unfold maxLen; omega) (by rw [size_fresh]))
  go_loopw [4] (fun i wr => ∃ k : Nat, ∃ xs, k ≤ ks.length ∧ i = .int .i64 k ∧ Upd xs (flat ks) (k * 5) ∧ wr.ownsRow w.heap.size 113 5 (.slice (some ⟨w.heap.size, 0, none⟩) ks.length ks.length) ks.length xs ∧ Below w.heap.size w wr) (fun i _ => ks.length - (intOf i).toNat)
  case atStart => exact ⟨0, _, Nat.zero_le _, rfl, by rw [Nat.zero_mul]; exact Upd.zero (by rw [Array.length_toList, size_fresh, flat_length HS.out]), HU.out, (Below.refl _ _).alloc (Nat.le_refl _) _⟩
  case round =>
    obtain ⟨k, xs, hk, rfl, hup, how, hb⟩ := hrel
    by_cases hlt : k < ks.length
    · obtain ⟨b, off, rfl, hbB, hcc⟩ := HA.out (by omega)
      have c0 := cell_at hb hbB hB (hcc k 0 hlt (by omega))
      have c1 := cell_at hb hbB hB (hcc k 1 hlt (by omega))
      have c2 := cell_at hb hbB hB (hcc k 2 hlt (by omega))
      have c3 := cell_at hb hbB hB (hcc k 3 hlt (by omega))
      have c4 := cell_at hb hbB hB (hcc k 4 hlt (by omega))
      rw [Nat.add_zero] at c0
      clear HA HU hcc
      have HUP := hid hup
      have HOW := hid how
      have HBL := hid hb
      clear hup how hb
      go_wp2_with fail
      refine (toKey_any _ _ _ _ _ _).mono ?_
      rintro e w1 ⟨rfl, hb1⟩
      have how1 := ownsRow_below HOW.out hb1 (fun g hg => (HOW.out.lt g hg).2)
      obtain ⟨u0, hu0⟩ := ownsRow_cell how1 (j := k * 5) (by omega)
      obtain ⟨u1, hu1⟩ := ownsRow_cell how1 (j := k * 5 + 1) (by omega)
      obtain ⟨u2, hu2⟩ := ownsRow_cell how1 (j := k * 5 + 2) (by omega)
      obtain ⟨u3, hu3⟩ := ownsRow_cell how1 (j := k * 5 + 3) (by omega)
      obtain ⟨u4, hu4⟩ := ownsRow_cell how1 (j := k * 5 + 4) (by omega)
      have z0 := how1.frozenAt (k * 5)
      have z1 := how1.frozenAt (k * 5 + 1)
      have z2 := how1.frozenAt (k * 5 + 2)
      have z3 := how1.frozenAt (k * 5 + 3)
      have z4 := how1.frozenAt (k * 5 + 4)
      have hl := (how1.lt _ rfl).1
      have HW := hid (((((how1.stored (k * 5) (iv (fld ks k 0))).1.stored (k * 5 + 1) (iv (fld ks k 1))).1.stored (k * 5 + 2) (iv (fld ks k 2))).1.stored (k * 5 + 3) (iv (fld ks k 3))).1.stored (k * 5 + 4) (iv (fld ks k 4))).1
      have HUP1 := hid (((((HUP.out.step (flat_get HS.out k 0 hlt (by omega))).step (flat_get HS.out k 1 hlt (by omega))).step (flat_get HS.out k 2 hlt (by omega))).step (flat_get HS.out k 3 hlt (by omega))).step (flat_get HS.out k 4 hlt (by omega)))
      have HBL1 := hid ((((((HBL.out.trans (hb1.mono HBL.out.size)).setCell (p := ⟨w.heap.size, k * 5, none⟩) hl (iv (fld ks k 0))).setCell (p := ⟨w.heap.size, k * 5 + 1, none⟩) hl (iv (fld ks k 1))).setCell (p := ⟨w.heap.size, k * 5 + 2, none⟩) hl (iv (fld ks k 2))).setCell (p := ⟨w.heap.size, k * 5 + 3, none⟩) hl (iv (fld ks k 3))).setCell (p := ⟨w.heap.size, k * 5 + 4, none⟩) hl (iv (fld ks k 4)))
      clear how1 hb1 c0 c1 c2 c3 c4 HUP HBL HOW
      go_wp2
      go_roundw
      case rel => exact ⟨k + 1, _, by omega, by go_num, by rw [Nat.succ_mul]; exact HUP1.out, HW.out, HBL1.out⟩
      case measure => simp [intOf]; omega
    · obtain rfl : xs = flat ks := hup.done (by rw [flat_length HS.out]; exact Nat.mul_le_mul_right _ (by omega))
      have HW1 := hid how
      clear how hup HU
      go_wp2
      go_ret
      exact ⟨_, rfl, Own.of HW1.out, hb⟩

set_option maxHeartbeats 400000 in
theorem szKeyS_ok {A : Option Addr} {n c : Nat} (left : Int) (w : World) (h0 : 0 ≤ left) (h1 : left ≤ 1048576) (hn : (n : Int) ≤ left) :
    Calls Try.prog 18 #[.slice A n c, iv left] w fun e w' => e = .returned (iv (left - n)) ∧ w = w' := by
  go_enter Try.func18, Try.ntmps18
  go_wp2
  go_ret
  exact ⟨rfl, rfl⟩
set_option maxHeartbeats 400000 in
theorem szKeyS_no {A : Option Addr} {n c : Nat} (left : Int) (w : World) (h0 : 0 ≤ left) (h1 : left ≤ 1048576) (hn : left < (n : Int)) (hn2 : (n : Int) ≤ 9223372036854775807) :
    Calls Try.prog 18 #[.slice A n c, iv left] w fun e w' => e = .returned (iv (-1)) ∧ w = w' := by
  go_enter Try.func18, Try.ntmps18
  go_wp2
  go_ret
  exact ⟨rfl, rfl⟩

set_option maxHeartbeats 1000000 in
theorem eqKey_any (a0 a1 a2 a3 a4 : Int) (w : World) :
    Calls Try.prog 83 #[.agg #[iv a0, iv a1, iv a2, iv a3, iv a4], .agg #[iv a0, iv a1, iv a2, iv a3, iv a4]] w (Ret (.bool true) w) := by
  go_enter Try.func83, Try.ntmps83
  go_wp2
  repeat' (go_quiet (fail); go_wp2)
  go_ret
  exact ⟨rfl, by repeat (first | exact Below.refl _ _ | refine below_drewN ?_ _ | refine Below.drew ?_ | refine Below.alloc ?_ (by simp; try omega) _)⟩

set_option maxHeartbeats 1000000 in
theorem eqKeyS_any {B : Nat} {ks : List (List Int)} {u v : Value} (w : World) (hu : Sl B w 5 u ks) (hv : Sl B w 5 v ks) (hB : B ≤ w.heap.size) :
    Calls Try.prog 25 #[u, v] w (Ret (.bool true) w) := by
  obtain ⟨A, c, rfl, hc1, hc2, -, hA⟩ := hu
  obtain ⟨A', c', rfl, hd1, hd2, -, hA'⟩ := hv
  have HA := hid hA
  have HA' := hid hA'
  clear hA hA'
  go_enter Try.func25, Try.ntmps25
  go_wp2
  go_loopw [5] (fun i wr => ∃ k : Nat, k ≤ ks.length ∧ i = .int .i64 k ∧ Below w.heap.size w wr) (fun i _ => ks.length - (intOf i).toNat)
  case atStart => exact ⟨0, Nat.zero_le _, rfl, Below.refl _ _⟩
  case round =>
    obtain ⟨k, hk, rfl, hb⟩ := hrel
    by_cases hlt : k < ks.length
    · obtain ⟨b, off, rfl, hbB, hcc⟩ := HA.out (by omega)
      obtain ⟨b', off', rfl, hbB', hcc'⟩ := HA'.out (by omega)
      have HS : Hid (∀ w' : World, Below w.heap.size w w' → (w'.cell? ⟨b, off + k * 5, none⟩ = some (iv (fld ks k 0)) ∧ w'.cell? ⟨b', off' + k * 5, none⟩ = some (iv (fld ks k 0)) ∧ w'.cell? ⟨b, off + k * 5 + 1, none⟩ = some (iv (fld ks k 1)) ∧ w'.cell? ⟨b', off' + k * 5 + 1, none⟩ = some (iv (fld ks k 1)) ∧ w'.cell? ⟨b, off + k * 5 + 2, none⟩ = some (iv (fld ks k 2)) ∧ w'.cell? ⟨b', off' + k * 5 + 2, none⟩ = some (iv (fld ks k 2)) ∧ w'.cell? ⟨b, off + k * 5 + 3, none⟩ = some (iv (fld ks k 3)) ∧ w'.cell? ⟨b', off' + k * 5 + 3, none⟩ = some (iv (fld ks k 3)) ∧ w'.cell? ⟨b, off + k * 5 + 4, none⟩ = some (iv (fld ks k 4)) ∧ w'.cell? ⟨b', off' + k * 5 + 4, none⟩ = some (iv (fld ks k 4)) ∧ Below w.heap.size w w')) := hid fun w' hx => ⟨cell_at hx hbB hB (hcc k 0 hlt (by omega)), cell_at hx hbB' hB (hcc' k 0 hlt (by omega)), cell_at hx hbB hB (hcc k 1 hlt (by omega)), cell_at hx hbB' hB (hcc' k 1 hlt (by omega)), cell_at hx hbB hB (hcc k 2 hlt (by omega)), cell_at hx hbB' hB (hcc' k 2 hlt (by omega)), cell_at hx hbB hB (hcc k 3 hlt (by omega)), cell_at hx hbB' hB (hcc' k 3 hlt (by omega)), cell_at hx hbB hB (hcc k 4 hlt (by omega)), cell_at hx hbB' hB (hcc' k 4 hlt (by omega)), hx⟩
      obtain ⟨c0, d0, c1, d1, c2, d2, c3, d3, c4, d4, -⟩ := HS.out wr hb
      have hi0 : (0 : Int) ≤ (k : Int) := Int.natCast_nonneg _
      have hi1 : (k : Int) < (ks.length : Int) := by omega
      clear HA HA' hcc hcc'
      go_wp2_with fail
      go_region_held3 (fun w' => w'.cell? ⟨b, off + k * 5, none⟩ = some (iv (fld ks k 0)) ∧ w'.cell? ⟨b', off' + k * 5, none⟩ = some (iv (fld ks k 0)) ∧ w'.cell? ⟨b, off + k * 5 + 1, none⟩ = some (iv (fld ks k 1)) ∧ w'.cell? ⟨b', off' + k * 5 + 1, none⟩ = some (iv (fld ks k 1)) ∧ w'.cell? ⟨b, off + k * 5 + 2, none⟩ = some (iv (fld ks k 2)) ∧ w'.cell? ⟨b', off' + k * 5 + 2, none⟩ = some (iv (fld ks k 2)) ∧ w'.cell? ⟨b, off + k * 5 + 3, none⟩ = some (iv (fld ks k 3)) ∧ w'.cell? ⟨b', off' + k * 5 + 3, none⟩ = some (iv (fld ks k 3)) ∧ w'.cell? ⟨b, off + k * 5 + 4, none⟩ = some (iv (fld ks k 4)) ∧ w'.cell? ⟨b', off' + k * 5 + 4, none⟩ = some (iv (fld ks k 4)) ∧ Below w.heap.size w w') (first | exact HS.out _ hb.drew | go_keep | (go_split_ands; exact HS.out _ (below_step (by assumption) hb1)))
        (first | (go_at_call 83; refine (eqKey_any _ _ _ _ _ _).mono ?_; rintro e w1 ⟨rfl, hb1⟩))
      go_wp2
      go_roundw
      case rel => exact ⟨k + 1, by omega, by go_num, below_step hb.drew hb1⟩
      case measure => simp [intOf]; omega
    · have HB := hid hb
      clear hb
      go_wp2
      go_ret
      exact ⟨rfl, HB.out⟩

set_option maxHeartbeats 1000000 in
theorem markKeyS_any {E lo hi : Nat} {n : Nat} {xs : List Value} {v : Value} (w : World) (k0 : Int) (h0 : 0 ≤ k0) (h1 : k0 ≤ 4611686018427387904) (hn : n ≤ 1099511627776)
    (hv : Own w E 5 v lo hi n xs) :
    Calls Try.prog 27 #[v, iv k0] w fun e w' => e = .returned (iv (k0 + (n * 5 : Nat))) ∧ Own w' E 5 v lo hi n ((marks k0 (n * 5)).map (Value.int .i64)) ∧ Below lo w w' := by
  obtain ⟨how, hhi⟩ := hv
  obtain ⟨A, c, rfl⟩ := ownsRow_form how
  have HW := hid how
  have HH := hid hhi
  clear how hhi
  go_enter Try.func27, Try.ntmps27
  go_wp2
  go_loopw [1, 5] (fun m i wr => ∃ k : Nat, ∃ xs, ∃ M : Int, k ≤ n ∧ i = .int .i64 k ∧ m = .int .i64 M ∧ 0 ≤ M ∧ M ≤ 5000000000000000000 ∧ Hid (M = k0 + (k * 5 : Nat)) ∧ Upd xs ((marks k0 (n * 5)).map (Value.int .i64)) (k * 5) ∧ wr.ownsRow lo E 5 (.slice A n c) n xs ∧ Below lo w wr) (fun _ i _ => n - (intOf i).toNat)
  case atStart => exact ⟨0, _, k0, Nat.zero_le _, rfl, rfl, h0, by omega, hid (by simp), by rw [Nat.zero_mul]; exact Upd.zero (by rw [HW.out.1, List.length_map, marks_length]), HW.out, Below.refl _ _⟩
  case round =>
    obtain ⟨k, xs, M, hk, rfl, rfl, hM0, hM1, HM, hup, how, hb⟩ := hrel
    by_cases hlt : k < n
    · obtain ⟨g, rfl⟩ := ownsRow_some how (by omega)
      have hlo := ((how.lt g rfl)).1
      obtain ⟨u0, hu0⟩ := ownsRow_cell how (j := k * 5) (by omega)
      obtain ⟨u1, hu1⟩ := ownsRow_cell how (j := k * 5 + 1) (by omega)
      obtain ⟨u2, hu2⟩ := ownsRow_cell how (j := k * 5 + 2) (by omega)
      obtain ⟨u3, hu3⟩ := ownsRow_cell how (j := k * 5 + 3) (by omega)
      obtain ⟨u4, hu4⟩ := ownsRow_cell how (j := k * 5 + 4) (by omega)
      have z0 := how.frozenAt (k * 5)
      have z1 := how.frozenAt (k * 5 + 1)
      have z2 := how.frozenAt (k * 5 + 2)
      have z3 := how.frozenAt (k * 5 + 3)
      have z4 := how.frozenAt (k * 5 + 4)
      have HW1 := hid (((((how.stored (k * 5) (iv (M))).1.stored (k * 5 + 1) (iv (M + 1))).1.stored (k * 5 + 2) (iv (M + 1 + 1))).1.stored (k * 5 + 3) (iv (M + 1 + 1 + 1))).1.stored (k * 5 + 4) (iv (M + 1 + 1 + 1 + 1))).1
      have HU1 := hid (((((hup.step (u := iv (M)) (marks_at k0 (by omega) (by have := HM.out; omega))).step (u := iv (M + 1)) (marks_at k0 (by omega) (by have := HM.out; omega))).step (u := iv (M + 1 + 1)) (marks_at k0 (by omega) (by have := HM.out; omega))).step (u := iv (M + 1 + 1 + 1)) (marks_at k0 (by omega) (by have := HM.out; omega))).step (u := iv (M + 1 + 1 + 1 + 1)) (marks_at k0 (by omega) (by have := HM.out; omega)))
      have HB1 := hid (((((hb.setCell (p := ⟨g, k * 5, none⟩) hlo (iv (M))).setCell (p := ⟨g, k * 5 + 1, none⟩) hlo (iv (M + 1))).setCell (p := ⟨g, k * 5 + 2, none⟩) hlo (iv (M + 1 + 1))).setCell (p := ⟨g, k * 5 + 3, none⟩) hlo (iv (M + 1 + 1 + 1))).setCell (p := ⟨g, k * 5 + 4, none⟩) hlo (iv (M + 1 + 1 + 1 + 1)))
      clear how HW hup hb
      go_wp2
      go_roundw
      case rel => exact ⟨k + 1, _, _, by omega, by go_num, rfl, by omega, by have := HM.out; omega, hid (by have := HM.out; omega), by rw [Nat.succ_mul]; exact HU1.out, HW1.out, HB1.out⟩
      case measure => simp [intOf]; omega
    · obtain rfl : k = n := by omega
      obtain rfl : xs = (marks k0 (k * 5)).map (Value.int .i64) := hup.done (by rw [List.length_map, marks_length]; exact Nat.le_refl _)
      have HW3 := hid how
      clear how hup HW
      go_wp2
      go_ret
      exact ⟨ret_int HM.out, ⟨HW3.out, HH.out⟩, hb⟩
end Go.Proofs.Ytcfealjfanoegaa
