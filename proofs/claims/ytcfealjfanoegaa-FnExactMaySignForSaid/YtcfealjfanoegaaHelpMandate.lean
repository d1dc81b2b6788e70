/- The laws' helpers on Mandate and slices of them: they copy, compare, count and mark. -/
import Derived.Test.YtcfealjfanoegaaRows
import Derived.Test.YtcfealjfanoegaaBase
namespace Go.Proofs.Ytcfealjfanoegaa
open Go.RowKit

theorem Try.infoMandate : (Try.prog.info? 109).map (fun i => (i.zero, i.size, i.bytes)) = some (some (.agg #[iv 0, iv 0, iv 0, iv 0, iv 0, iv 0]), 6, 48) := by kernel_rfl

set_option maxHeartbeats 400000 in
theorem toMandate_any (a0 a1 a2 a3 a4 a5 : Int) (w : World) :
    Calls Try.prog 80 #[.agg #[iv a0, iv a1, iv a2, iv a3, iv a4, iv a5]] w (Ret (.agg #[iv a0, iv a1, iv a2, iv a3, iv a4, iv a5]) w) := by
  go_enter Try.func80, Try.ntmps80
  go_wp2
  refine bodyPost_ret (v := .agg #[iv a0, iv a1, iv a2, iv a3, iv a4, iv a5]) (by simp [results, Try.results80, go_sem]) rfl ⟨rfl, ?_⟩
  exact (((Below.refl _ _).alloc (Nat.le_refl _) _).alloc (by simp) _).alloc (by simp; omega) _

set_option maxHeartbeats 1000000 in
theorem toMandateS_any {B : Nat} {ks : List (List Int)} {v : Value} (w : World) (hv : Sl B w 6 v ks) (hs : ∀ r ∈ ks, r.length = 6) (hB : B ≤ w.heap.size) (hn : ks.length ≤ 1048576) :
    Calls Try.prog 22 #[v] w (RetOwn 109 6 ks.length (flat ks) w) := by
  obtain ⟨A, c, rfl, hc1, hc2, -, hA⟩ := hv
  have HA := hid hA
  have HS := hid hs
  clear hA hs
  have hmk := run_make_fresh (P := Try.prog) 36 109 Try.underlying36 Try.infoMandate ks.length (by omega) (by omega)
  go_enter Try.func22, Try.ntmps22
  go_wp2
  have HU := hid (World.ownsRow_lit (base := w.heap.size) (e := 109) (size := 6) w (fresh #[iv 0, iv 0, iv 0, iv 0, iv 0, iv 0] (ks.length * 6)) ks.length (Nat.le_refl _) (by unfold maxLen; omega) (by rw [size_fresh]))
  go_loopw [4] (fun i wr => ∃ k : Nat, ∃ xs, k ≤ ks.length ∧ i = .int .i64 k ∧ Upd xs (flat ks) (k * 6) ∧ wr.ownsRow w.heap.size 109 6 (.slice (some ⟨w.heap.size, 0, none⟩) ks.length ks.length) ks.length xs ∧ Below w.heap.size w wr) (fun i _ => ks.length - (intOf i).toNat)
  case atStart => exact ⟨0, _, Nat.zero_le _, rfl, by rw [Nat.zero_mul]; exact Upd.zero (by rw [Array.length_toList, size_fresh, flat_length HS.out]), HU.out, (Below.refl _ _).alloc (Nat.le_refl _) _⟩
  case round =>
    obtain ⟨k, xs, hk, rfl, hup, how, hb⟩ := hrel
    by_cases hlt : k < ks.length
    · obtain ⟨b, off, rfl, hbB, hcc⟩ := HA.out (by omega)
      have c0 := cell_at hb hbB hB (hcc k 0 hlt (by omega))
      have c1 := cell_at hb hbB hB (hcc k 1 hlt (by omega))
      have c2 := cell_at hb hbB hB (hcc k 2 hlt (by omega))
      have c3 := cell_at hb hbB hB (hcc k 3 hlt (by omega))
      have c4 := cell_at hb hbB hB (hcc k 4 hlt (by omega))
      have c5 := cell_at hb hbB hB (hcc k 5 hlt (by omega))
      rw [Nat.add_zero] at c0
      clear HA HU hcc
      have HUP := hid hup
      have HOW := hid how
      have HBL := hid hb
      clear hup how hb
      go_wp2_with fail
      refine (toMandate_any _ _ _ _ _ _ _).mono ?_
      rintro e w1 ⟨rfl, hb1⟩
      have how1 := ownsRow_below HOW.out hb1 (fun g hg => (HOW.out.lt g hg).2)
      obtain ⟨u0, hu0⟩ := ownsRow_cell how1 (j := k * 6) (by omega)
      obtain ⟨u1, hu1⟩ := ownsRow_cell how1 (j := k * 6 + 1) (by omega)
      obtain ⟨u2, hu2⟩ := ownsRow_cell how1 (j := k * 6 + 2) (by omega)
      obtain ⟨u3, hu3⟩ := ownsRow_cell how1 (j := k * 6 + 3) (by omega)
      obtain ⟨u4, hu4⟩ := ownsRow_cell how1 (j := k * 6 + 4) (by omega)
      obtain ⟨u5, hu5⟩ := ownsRow_cell how1 (j := k * 6 + 5) (by omega)
      have z0 := how1.frozenAt (k * 6)
      have z1 := how1.frozenAt (k * 6 + 1)
      have z2 := how1.frozenAt (k * 6 + 2)
      have z3 := how1.frozenAt (k * 6 + 3)
      have z4 := how1.frozenAt (k * 6 + 4)
      have z5 := how1.frozenAt (k * 6 + 5)
      have hl := (how1.lt _ rfl).1
      have HW := hid ((((((how1.stored (k * 6) (iv (fld ks k 0))).1.stored (k * 6 + 1) (iv (fld ks k 1))).1.stored (k * 6 + 2) (iv (fld ks k 2))).1.stored (k * 6 + 3) (iv (fld ks k 3))).1.stored (k * 6 + 4) (iv (fld ks k 4))).1.stored (k * 6 + 5) (iv (fld ks k 5))).1
      have HUP1 := hid ((((((HUP.out.step (flat_get HS.out k 0 hlt (by omega))).step (flat_get HS.out k 1 hlt (by omega))).step (flat_get HS.out k 2 hlt (by omega))).step (flat_get HS.out k 3 hlt (by omega))).step (flat_get HS.out k 4 hlt (by omega))).step (flat_get HS.out k 5 hlt (by omega)))
      have HBL1 := hid (((((((HBL.out.trans (hb1.mono HBL.out.size)).setCell (p := ⟨w.heap.size, k * 6, none⟩) hl (iv (fld ks k 0))).setCell (p := ⟨w.heap.size, k * 6 + 1, none⟩) hl (iv (fld ks k 1))).setCell (p := ⟨w.heap.size, k * 6 + 2, none⟩) hl (iv (fld ks k 2))).setCell (p := ⟨w.heap.size, k * 6 + 3, none⟩) hl (iv (fld ks k 3))).setCell (p := ⟨w.heap.size, k * 6 + 4, none⟩) hl (iv (fld ks k 4))).setCell (p := ⟨w.heap.size, k * 6 + 5, none⟩) hl (iv (fld ks k 5)))
      clear how1 hb1 c0 c1 c2 c3 c4 c5 HUP HBL HOW
      go_wp2
      go_roundw
      case rel => exact ⟨k + 1, _, by omega, by go_num, by rw [Nat.succ_mul]; exact HUP1.out, HW.out, HBL1.out⟩
      case measure => simp [intOf]; omega
    · obtain rfl : xs = flat ks := hup.done (by rw [flat_length HS.out]; exact Nat.mul_le_mul_right _ (by omega))
      have HW1 := hid how
      clear how hup HU
      go_wp2
      go_ret
      exact ⟨_, rfl, Own.of HW1.out, hb⟩

set_option maxHeartbeats 400000 in
theorem szMandateS_ok {A : Option Addr} {n c : Nat} (left : Int) (w : World) (h0 : 0 ≤ left) (h1 : left ≤ 1048576) (hn : (n : Int) ≤ left) :
    Calls Try.prog 19 #[.slice A n c, iv left] w fun e w' => e = .returned (iv (left - n)) ∧ w = w' := by
  go_enter Try.func19, Try.ntmps19
  go_wp2
  go_ret
  exact ⟨rfl, rfl⟩
set_option maxHeartbeats 400000 in
theorem szMandateS_no {A : Option Addr} {n c : Nat} (left : Int) (w : World) (h0 : 0 ≤ left) (h1 : left ≤ 1048576) (hn : left < (n : Int)) (hn2 : (n : Int) ≤ 9223372036854775807) :
    Calls Try.prog 19 #[.slice A n c, iv left] w fun e w' => e = .returned (iv (-1)) ∧ w = w' := by
  go_enter Try.func19, Try.ntmps19
  go_wp2
  go_ret
  exact ⟨rfl, rfl⟩

set_option maxHeartbeats 1000000 in
theorem eqMandate_any (a0 a1 a2 a3 a4 a5 : Int) (w : World) :
    Calls Try.prog 84 #[.agg #[iv a0, iv a1, iv a2, iv a3, iv a4, iv a5], .agg #[iv a0, iv a1, iv a2, iv a3, iv a4, iv a5]] w (Ret (.bool true) w) := by
  go_enter Try.func84, Try.ntmps84
  go_wp2
  repeat' (go_quiet (fail); go_wp2)
  go_ret
  exact ⟨rfl, by repeat (first | exact Below.refl _ _ | refine below_drewN ?_ _ | refine Below.drew ?_ | refine Below.alloc ?_ (by simp; try omega) _)⟩

set_option maxHeartbeats 1000000 in
theorem eqMandateS_any {B : Nat} {ks : List (List Int)} {u v : Value} (w : World) (hu : Sl B w 6 u ks) (hv : Sl B w 6 v ks) (hB : B ≤ w.heap.size) :
    Calls Try.prog 26 #[u, v] w (Ret (.bool true) w) := by
  obtain ⟨A, c, rfl, hc1, hc2, -, hA⟩ := hu
  obtain ⟨A', c', rfl, hd1, hd2, -, hA'⟩ := hv
  have HA := hid hA
  have HA' := hid hA'
  clear hA hA'
  go_enter Try.func26, Try.ntmps26
  go_wp2
  go_loopw [5] (fun i wr => ∃ k : Nat, k ≤ ks.length ∧ i = .int .i64 k ∧ Below w.heap.size w wr) (fun i _ => ks.length - (intOf i).toNat)
  case atStart => exact ⟨0, Nat.zero_le _, rfl, Below.refl _ _⟩
  case round =>
    obtain ⟨k, hk, rfl, hb⟩ := hrel
    by_cases hlt : k < ks.length
    · obtain ⟨b, off, rfl, hbB, hcc⟩ := HA.out (by omega)
      obtain ⟨b', off', rfl, hbB', hcc'⟩ := HA'.out (by omega)
      have HS : Hid (∀ w' : World, Below w.heap.size w w' → (w'.cell? ⟨b, off + k * 6, none⟩ = some (iv (fld ks k 0)) ∧ w'.cell? ⟨b', off' + k * 6, none⟩ = some (iv (fld ks k 0)) ∧ w'.cell? ⟨b, off + k * 6 + 1, none⟩ = some (iv (fld ks k 1)) ∧ w'.cell? ⟨b', off' + k * 6 + 1, none⟩ = some (iv (fld ks k 1)) ∧ w'.cell? ⟨b, off + k * 6 + 2, none⟩ = some (iv (fld ks k 2)) ∧ w'.cell? ⟨b', off' + k * 6 + 2, none⟩ = some (iv (fld ks k 2)) ∧ w'.cell? ⟨b, off + k * 6 + 3, none⟩ = some (iv (fld ks k 3)) ∧ w'.cell? ⟨b', off' + k * 6 + 3, none⟩ = some (iv (fld ks k 3)) ∧ w'.cell? ⟨b, off + k * 6 + 4, none⟩ = some (iv (fld ks k 4)) ∧ w'.cell? ⟨b', off' + k * 6 + 4, none⟩ = some (iv (fld ks k 4)) ∧ w'.cell? ⟨b, off + k * 6 + 5, none⟩ = some (iv (fld ks k 5)) ∧ w'.cell? ⟨b', off' + k * 6 + 5, none⟩ = some (iv (fld ks k 5)) ∧ Below w.heap.size w w')) := hid fun w' hx => ⟨cell_at hx hbB hB (hcc k 0 hlt (by omega)), cell_at hx hbB' hB (hcc' k 0 hlt (by omega)), cell_at hx hbB hB (hcc k 1 hlt (by omega)), cell_at hx hbB' hB (hcc' k 1 hlt (by omega)), cell_at hx hbB hB (hcc k 2 hlt (by omega)), cell_at hx hbB' hB (hcc' k 2 hlt (by omega)), cell_at hx hbB hB (hcc k 3 hlt (by omega)), cell_at hx hbB' hB (hcc' k 3 hlt (by omega)), cell_at hx hbB hB (hcc k 4 hlt (by omega)), cell_at hx hbB' hB (hcc' k 4 hlt (by omega)), cell_at hx hbB hB (hcc k 5 hlt (by omega)), cell_at hx hbB' hB (hcc' k 5 hlt (by omega)), hx⟩
      obtain ⟨c0, d0, c1, d1, c2, d2, c3, d3, c4, d4, c5, d5, -⟩ := HS.out wr hb
      have hi0 : (0 : Int) ≤ (k : Int) := Int.natCast_nonneg _
      have hi1 : (k : Int) < (ks.length : Int) := by omega
      clear HA HA' hcc hcc'
      go_wp2_with fail
      go_region_held3 (fun w' => w'.cell? ⟨b, off + k * 6, none⟩ = some (iv (fld ks k 0)) ∧ w'.cell? ⟨b', off' + k * 6, none⟩ = some (iv (fld ks k 0)) ∧ w'.cell? ⟨b, off + k * 6 + 1, none⟩ = some (iv (fld ks k 1)) ∧ w'.cell? ⟨b', off' + k * 6 + 1, none⟩ = some (iv (fld ks k 1)) ∧ w'.cell? ⟨b, off + k * 6 + 2, none⟩ = some (iv (fld ks k 2)) ∧ w'.cell? ⟨b', off' + k * 6 + 2, none⟩ = some (iv (fld ks k 2)) ∧ w'.cell? ⟨b, off + k * 6 + 3, none⟩ = some (iv (fld ks k 3)) ∧ w'.cell? ⟨b', off' + k * 6 + 3, none⟩ = some (iv (fld ks k 3)) ∧ w'.cell? ⟨b, off + k * 6 + 4, none⟩ = some (iv (fld ks k 4)) ∧ w'.cell? ⟨b', off' + k * 6 + 4, none⟩ = some (iv (fld ks k 4)) ∧ w'.cell? ⟨b, off + k * 6 + 5, none⟩ = some (iv (fld ks k 5)) ∧ w'.cell? ⟨b', off' + k * 6 + 5, none⟩ = some (iv (fld ks k 5)) ∧ Below w.heap.size w w') (first | exact HS.out _ hb.drew | go_keep | (go_split_ands; exact HS.out _ (below_step (by assumption) hb1)))
        (first | (go_at_call 84; refine (eqMandate_any _ _ _ _ _ _ _).mono ?_; rintro e w1 ⟨rfl, hb1⟩))
      go_wp2
      go_roundw
      case rel => exact ⟨k + 1, by omega, by go_num, below_step hb.drew hb1⟩
      case measure => simp [intOf]; omega
    · have HB := hid hb
      clear hb
      go_wp2
      go_ret
      exact ⟨rfl, HB.out⟩

set_option maxHeartbeats 1000000 in
theorem markMandateS_any {E lo hi : Nat} {n : Nat} {xs : List Value} {v : Value} (w : World) (k0 : Int) (h0 : 0 ≤ k0) (h1 : k0 ≤ 4611686018427387904) (hn : n ≤ 1099511627776)
    (hv : Own w E 6 v lo hi n xs) :
    Calls Try.prog 28 #[v, iv k0] w fun e w' => e = .returned (iv (k0 + (n * 6 : Nat))) ∧ Own w' E 6 v lo hi n ((marks k0 (n * 6)).map (Value.int .i64)) ∧ Below lo w w' := by
  obtain ⟨how, hhi⟩ := hv
  obtain ⟨A, c, rfl⟩ := ownsRow_form how
  have HW := hid how
  have HH := hid hhi
  clear how hhi
  go_enter Try.func28, Try.ntmps28
  go_wp2
  go_loopw [1, 5] (fun m i wr => ∃ k : Nat, ∃ xs, ∃ M : Int, k ≤ n ∧ i = .int .i64 k ∧ m = .int .i64 M ∧ 0 ≤ M ∧ M ≤ 5000000000000000000 ∧ Hid (M = k0 + (k * 6 : Nat)) ∧ Upd xs ((marks k0 (n * 6)).map (Value.int .i64)) (k * 6) ∧ wr.ownsRow lo E 6 (.slice A n c) n xs ∧ Below lo w wr) (fun _ i _ => n - (intOf i).toNat)
  case atStart => exact ⟨0, _, k0, Nat.zero_le _, rfl, rfl, h0, by omega, hid (by simp), by rw [Nat.zero_mul]; exact Upd.zero (by rw [HW.out.1, List.length_map, marks_length]), HW.out, Below.refl _ _⟩
  case round =>
    obtain ⟨k, xs, M, hk, rfl, rfl, hM0, hM1, HM, hup, how, hb⟩ := hrel
    by_cases hlt : k < n
    · obtain ⟨g, rfl⟩ := ownsRow_some how (by omega)
      have hlo := ((how.lt g rfl)).1
      obtain ⟨u0, hu0⟩ := ownsRow_cell how (j := k * 6) (by omega)
      obtain ⟨u1, hu1⟩ := ownsRow_cell how (j := k * 6 + 1) (by omega)
      obtain ⟨u2, hu2⟩ := ownsRow_cell how (j := k * 6 + 2) (by omega)
      obtain ⟨u3, hu3⟩ := ownsRow_cell how (j := k * 6 + 3) (by omega)
      obtain ⟨u4, hu4⟩ := ownsRow_cell how (j := k * 6 + 4) (by omega)
      obtain ⟨u5, hu5⟩ := ownsRow_cell how (j := k * 6 + 5) (by omega)
      have z0 := how.frozenAt (k * 6)
      have z1 := how.frozenAt (k * 6 + 1)
      have z2 := how.frozenAt (k * 6 + 2)
      have z3 := how.frozenAt (k * 6 + 3)
      have z4 := how.frozenAt (k * 6 + 4)
      have z5 := how.frozenAt (k * 6 + 5)
      have HW1 := hid ((((((how.stored (k * 6) (iv (M))).1.stored (k * 6 + 1) (iv (M + 1))).1.stored (k * 6 + 2) (iv (M + 1 + 1))).1.stored (k * 6 + 3) (iv (M + 1 + 1 + 1))).1.stored (k * 6 + 4) (iv (M + 1 + 1 + 1 + 1))).1.stored (k * 6 + 5) (iv (M + 1 + 1 + 1 + 1 + 1))).1
      have HU1 := hid ((((((hup.step (u := iv (M)) (marks_at k0 (by omega) (by have := HM.out; omega))).step (u := iv (M + 1)) (marks_at k0 (by omega) (by have := HM.out; omega))).step (u := iv (M + 1 + 1)) (marks_at k0 (by omega) (by have := HM.out; omega))).step (u := iv (M + 1 + 1 + 1)) (marks_at k0 (by omega) (by have := HM.out; omega))).step (u := iv (M + 1 + 1 + 1 + 1)) (marks_at k0 (by omega) (by have := HM.out; omega))).step (u := iv (M + 1 + 1 + 1 + 1 + 1)) (marks_at k0 (by omega) (by have := HM.out; omega)))
      have HB1 := hid ((((((hb.setCell (p := ⟨g, k * 6, none⟩) hlo (iv (M))).setCell (p := ⟨g, k * 6 + 1, none⟩) hlo (iv (M + 1))).setCell (p := ⟨g, k * 6 + 2, none⟩) hlo (iv (M + 1 + 1))).setCell (p := ⟨g, k * 6 + 3, none⟩) hlo (iv (M + 1 + 1 + 1))).setCell (p := ⟨g, k * 6 + 4, none⟩) hlo (iv (M + 1 + 1 + 1 + 1))).setCell (p := ⟨g, k * 6 + 5, none⟩) hlo (iv (M + 1 + 1 + 1 + 1 + 1)))
      clear how HW hup hb
      go_wp2
      go_roundw
      case rel => exact ⟨k + 1, _, _, by omega, by go_num, rfl, by omega, by have := HM.out; omega, hid (by have := HM.out; omega), by rw [Nat.succ_mul]; exact HU1.out, HW1.out, HB1.out⟩
      case measure => simp [intOf]; omega
    · obtain rfl : k = n := by omega
      obtain rfl : xs = (marks k0 (k * 6)).map (Value.int .i64) := hup.done (by rw [List.length_map, marks_length]; exact Nat.le_refl _)
      have HW3 := hid how
      clear how hup HW
      go_wp2
      go_ret
      exact ⟨ret_int HM.out, ⟨HW3.out, HH.out⟩, hb⟩
end Go.Proofs.Ytcfealjfanoegaa
