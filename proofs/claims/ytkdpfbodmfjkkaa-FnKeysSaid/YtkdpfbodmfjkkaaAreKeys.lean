/- AreKeys of the program and of the reference return what the plain function says. No condition. -/
import Derived.Test.YtkdpfbodmfjkkaaRows
import Derived.Test.YtkdpfbodmfjkkaaPlain
import Derived.Test.YtkdpfbodmfjkkaaChkKey
namespace Go.Proofs.Ytkdpfbodmfjkkaa
open Go.RowKit

set_option maxRecDepth 8000 in
set_option maxHeartbeats 4000000 in
theorem implAreKeys_any {B : Nat} {ks : List (List Int)} {v : Value} (w : World) (h : Sl B w 5 v ks) (hB : B ≤ w.heap.size) :
    Calls Try.prog 45 #[v] w (Ret (.bool (areB (goodKey ks) ks.length 12)) w) := by
  obtain ⟨A, c, rfl, hc1, hc2, -, hcell⟩ := h
  have HC := hid hcell
  clear hcell
  go_enter Try.func45, Try.ntmps45
  go_wp2
  go_loopw [7] (fun i wr => ∃ k : Nat, k ≤ ks.length ∧ i = .int .i64 k ∧ AG (goodKey ks) k ∧ Below w.heap.size w wr) (fun i _ => ks.length - (intOf i).toNat)
  case atStart => exact ⟨0, Nat.zero_le _, rfl, AG_zero _, Below.refl _ _⟩
  case round =>
    obtain ⟨k, hk, rfl, hg, hb⟩ := hrel
    have HG := hid hg
    clear hg
    by_cases hlt : k < ks.length
    · obtain ⟨b, off, rfl, hbB, hcc⟩ := HC.out (by omega)
      have c0 := cell_at hb hbB hB (hcc k 0 hlt (by omega))
      have c1 := cell_at hb hbB hB (hcc k 1 hlt (by omega))
      have c2 := cell_at hb hbB hB (hcc k 2 hlt (by omega))
      have c3 := cell_at hb hbB hB (hcc k 3 hlt (by omega))
      have c4 := cell_at hb hbB hB (hcc k 4 hlt (by omega))
      rw [Nat.add_zero] at c0
      have hi0 : (0 : Int) ≤ (k : Int) := Int.natCast_nonneg _
      have hi1 : (k : Int) < (ks.length : Int) := by omega
      have hbw : b < wr.heap.size := by have := hb.size; omega
      have hp : 0 < k → wr.cell? ⟨b, off + (k - 1) * 5, none⟩ = some (iv (fld ks (k - 1) 0)) := fun hk0 => by
        have := cell_at hb hbB hB (hcc (k - 1) 0 (by omega) (by omega))
        rwa [Nat.add_zero] at this
      have HB : Hid (Below w.heap.size w (wr.alloc (.cells #[iv (fld ks k 0), iv (fld ks k 1), iv (fld ks k 2), iv (fld ks k 3), iv (fld ks k 4)] 64))) := hid (hb.alloc hb.size _)
      have HX : Below (wr.alloc (.cells #[iv (fld ks k 0), iv (fld ks k 1), iv (fld ks k 2), iv (fld ks k 3), iv (fld ks k 4)] 64)).heap.size (wr.alloc (.cells #[iv (fld ks k 0), iv (fld ks k 1), iv (fld ks k 2), iv (fld ks k 3), iv (fld ks k 4)] 64)) (wr.alloc (.cells #[iv (fld ks k 0), iv (fld ks k 1), iv (fld ks k 2), iv (fld ks k 3), iv (fld ks k 4)] 64)) := Below.refl _ _
      have HS : Hid (∀ w' : World, Below (wr.alloc (.cells #[iv (fld ks k 0), iv (fld ks k 1), iv (fld ks k 2), iv (fld ks k 3), iv (fld ks k 4)] 64)).heap.size (wr.alloc (.cells #[iv (fld ks k 0), iv (fld ks k 1), iv (fld ks k 2), iv (fld ks k 3), iv (fld ks k 4)] 64)) w' → (w'.cell? ⟨wr.heap.size, 0, none⟩ = some (iv (fld ks k 0)) ∧ w'.cell? ⟨wr.heap.size, 1, none⟩ = some (iv (fld ks k 1)) ∧ w'.cell? ⟨wr.heap.size, 2, none⟩ = some (iv (fld ks k 2)) ∧ w'.cell? ⟨wr.heap.size, 3, none⟩ = some (iv (fld ks k 3)) ∧ w'.cell? ⟨wr.heap.size, 4, none⟩ = some (iv (fld ks k 4)))) := hid fun w' hx => ⟨(hx.cell (p := ⟨wr.heap.size, 0, none⟩) (by simp)).trans (by simp [go_sem]), (hx.cell (p := ⟨wr.heap.size, 1, none⟩) (by simp)).trans (by simp [go_sem]), (hx.cell (p := ⟨wr.heap.size, 2, none⟩) (by simp)).trans (by simp [go_sem]), (hx.cell (p := ⟨wr.heap.size, 3, none⟩) (by simp)).trans (by simp [go_sem]), (hx.cell (p := ⟨wr.heap.size, 4, none⟩) (by simp)).trans (by simp [go_sem])⟩
      clear HC hcc hb
      cases hx : keyB (fld ks k 0) (fld ks k 1) (fld ks k 2) (fld ks k 3) (fld ks k 4)
      · have HI : Hid (∀ W : World, Calls Try.prog 42 #[.agg #[iv (fld ks k 0), iv (fld ks k 1), iv (fld ks k 2), iv (fld ks k 3), iv (fld ks k 4)]] W (Ret (.bool false) W)) := hid fun W => by rw [← hx]; exact implIsKey_any _ _ _ _ _ W
        have HT := hid (areB_bad (mx := 12) hlt (show goodKey ks k = false by simp [goodKey, hx]))
        clear hp HG hx
        go_wp2_with fail
        refine wp_region_held_drew (S := fun w' => w'.cell? ⟨wr.heap.size, 0, none⟩ = some (iv (fld ks k 0)) ∧ w'.cell? ⟨wr.heap.size, 1, none⟩ = some (iv (fld ks k 1)) ∧ w'.cell? ⟨wr.heap.size, 2, none⟩ = some (iv (fld ks k 2)) ∧ w'.cell? ⟨wr.heap.size, 3, none⟩ = some (iv (fld ks k 3)) ∧ w'.cell? ⟨wr.heap.size, 4, none⟩ = some (iv (fld ks k 4))) (by kernel_rfl) (HS.out _ HX.drew) (fun hSx => ?_)
        refine wpAnyH_take (i := 0) (v := .agg #[iv (fld ks k 0), iv (fld ks k 1), iv (fld ks k 2), iv (fld ks k 3), iv (fld ks k 4)]) rfl (by kernel_rfl) (by kernel_rfl) (by kernel_rfl) (fun _ _ _ h => h) (Or.inl ⟨by rfl, fun wq hSw => by go_simp⟩) hSx ?_
        try simp [Act.put]
        clear hSx
        refine wpAnyH_ready (rs := [1]) (by kernel_rfl) (by simp) ?_
        refine AllReadyH.cons rfl (fun K hK => ?_) AllReadyH.nil
        go_simp
        go_wp2_with ((go_at_call 42; refine (HI.out _).mono ?_; rintro e w1 ⟨rfl, hb1⟩; have HZ1 := hid (below_step HX.drew hb1); clear hb1))
        refine hK _ _ (by simpa using HS.out _ HZ1.out) (fun hSx => ?_)
        clear hK K
        try simp [Act.put]
        refine wpAnyH_take (i := 2) (v := .bool true) rfl (by kernel_rfl) (by kernel_rfl) (by kernel_rfl) (fun _ _ _ h => h) (Or.inl ⟨by rfl, fun wq hSw => by go_simp⟩) hSx ?_
        try simp [Act.put]
        refine wpAnyH_take (i := 3) (v := .bool true) rfl (by kernel_rfl) (by kernel_rfl) (by kernel_rfl) (fun _ _ _ h => h) (Or.inl ⟨by rfl, fun wq hSw => by go_simp⟩) hSx ?_
        try simp [Act.put]
        refine wpAnyH_take (i := 4) (v := undef) rfl (by kernel_rfl) (by kernel_rfl) (by kernel_rfl) (fun _ _ _ h => h) (Or.inr ⟨by rfl, rfl⟩) hSx ?_
        try simp [Act.put]
        refine wpAnyH_take (i := 5) (v := undef) rfl (by kernel_rfl) (by kernel_rfl) (by kernel_rfl) (fun _ _ _ h => h) (Or.inr ⟨by rfl, rfl⟩) hSx ?_
        try simp [Act.put]
        refine wpAnyH_take (i := 6) (v := undef) rfl (by kernel_rfl) (by kernel_rfl) (by kernel_rfl) (fun _ _ _ h => h) (Or.inr ⟨by rfl, rfl⟩) hSx ?_
        try simp [Act.put]
        refine wpAnyH_take (i := 7) (v := undef) rfl (by kernel_rfl) (by kernel_rfl) (by kernel_rfl) (fun _ _ _ h => h) (Or.inr ⟨by rfl, rfl⟩) hSx ?_
        try simp [Act.put]
        refine wpAnyH_take (i := 8) (v := undef) rfl (by kernel_rfl) (by kernel_rfl) (by kernel_rfl) (fun _ _ _ h => h) (Or.inr ⟨by rfl, rfl⟩) hSx ?_
        try simp [Act.put]
        refine wpAnyH_take (i := 9) (v := undef) rfl (by kernel_rfl) (by kernel_rfl) (by kernel_rfl) (fun _ _ _ h => h) (Or.inr ⟨by rfl, rfl⟩) hSx ?_
        try simp [Act.put]
        refine wpAnyH_take (i := 10) (v := undef) rfl (by kernel_rfl) (by kernel_rfl) (by kernel_rfl) (fun _ _ _ h => h) (Or.inr ⟨by rfl, rfl⟩) hSx ?_
        try simp [Act.put]
        refine wpAnyH_take (i := 11) (v := undef) rfl (by kernel_rfl) (by kernel_rfl) (by kernel_rfl) (fun _ _ _ h => h) (Or.inr ⟨by rfl, rfl⟩) hSx ?_
        try simp [Act.put]
        refine wpAnyH_take (i := 12) (v := undef) rfl (by kernel_rfl) (by kernel_rfl) (by kernel_rfl) (fun _ _ _ h => h) (Or.inr ⟨by rfl, rfl⟩) hSx ?_
        try simp [Act.put]
        refine wpAnyH_take (i := 13) (v := undef) rfl (by kernel_rfl) (by kernel_rfl) (by kernel_rfl) (fun _ _ _ h => h) (Or.inr ⟨by rfl, rfl⟩) hSx ?_
        try simp [Act.put]
        refine wpAnyH_take (i := 14) (v := undef) rfl (by kernel_rfl) (by kernel_rfl) (by kernel_rfl) (fun _ _ _ h => h) (Or.inr ⟨by rfl, rfl⟩) hSx ?_
        try simp [Act.put]
        refine wpAnyH_take (i := 15) (v := undef) rfl (by kernel_rfl) (by kernel_rfl) (by kernel_rfl) (fun _ _ _ h => h) (Or.inr ⟨by rfl, rfl⟩) hSx ?_
        try simp [Act.put]
        refine wpAnyH_take (i := 16) (v := undef) rfl (by kernel_rfl) (by kernel_rfl) (by kernel_rfl) (fun _ _ _ h => h) (Or.inr ⟨by rfl, rfl⟩) hSx ?_
        try simp [Act.put]
        refine wpAnyH_take (i := 17) (v := .bool true) rfl (by kernel_rfl) (by kernel_rfl) (by kernel_rfl) (fun _ _ _ h => h) (Or.inl ⟨by rfl, fun wq hSw => by go_simp⟩) hSx ?_
        try simp [Act.put]
        refine wpAnyH_done (by kernel_rfl) ?_ _
        go_wp2
        go_ret
        exact ⟨ret_bool HT.out, below_step HB.out HZ1.out⟩
      · have HI : Hid (∀ W : World, Calls Try.prog 42 #[.agg #[iv (fld ks k 0), iv (fld ks k 1), iv (fld ks k 2), iv (fld ks k 3), iv (fld ks k 4)]] W (Ret (.bool true) W)) := hid fun W => by rw [← hx]; exact implIsKey_any _ _ _ _ _ W
        by_cases hk0 : 0 < k
        rotate_left
        · have hk1 : decide ((0 : Int) < (k : Int)) = false := by simp; omega
          have HT := hid (AG_succ HG.out (show goodKey ks k = true by simp [goodKey, hx, risesB_zero (ks := ks) (show k = 0 by omega)]))
          clear hp HG hx
          go_wp2_with fail
          refine wp_region_held_drew (S := fun w' => w'.cell? ⟨wr.heap.size, 0, none⟩ = some (iv (fld ks k 0)) ∧ w'.cell? ⟨wr.heap.size, 1, none⟩ = some (iv (fld ks k 1)) ∧ w'.cell? ⟨wr.heap.size, 2, none⟩ = some (iv (fld ks k 2)) ∧ w'.cell? ⟨wr.heap.size, 3, none⟩ = some (iv (fld ks k 3)) ∧ w'.cell? ⟨wr.heap.size, 4, none⟩ = some (iv (fld ks k 4))) (by kernel_rfl) (HS.out _ HX.drew) (fun hSx => ?_)
          refine wpAnyH_take (i := 0) (v := .agg #[iv (fld ks k 0), iv (fld ks k 1), iv (fld ks k 2), iv (fld ks k 3), iv (fld ks k 4)]) rfl (by kernel_rfl) (by kernel_rfl) (by kernel_rfl) (fun _ _ _ h => h) (Or.inl ⟨by rfl, fun wq hSw => by go_simp⟩) hSx ?_
          try simp [Act.put]
          clear hSx
          refine wpAnyH_ready (rs := [1]) (by kernel_rfl) (by simp) ?_
          refine AllReadyH.cons rfl (fun K hK => ?_) AllReadyH.nil
          go_simp
          go_wp2_with ((go_at_call 42; refine (HI.out _).mono ?_; rintro e w1 ⟨rfl, hb1⟩; have HZ1 := hid (below_step HX.drew hb1); clear hb1))
          refine hK _ _ (by simpa using HS.out _ HZ1.out) (fun hSx => ?_)
          clear hK K
          try simp [Act.put]
          refine wpAnyH_take (i := 2) (v := .bool false) rfl (by kernel_rfl) (by kernel_rfl) (by kernel_rfl) (fun _ _ _ h => h) (Or.inl ⟨by rfl, fun wq hSw => by go_simp⟩) hSx ?_
          try simp [Act.put]
          refine wpAnyH_take (i := 3) (v := .bool false) rfl (by kernel_rfl) (by kernel_rfl) (by kernel_rfl) (fun _ _ _ h => h) (Or.inl ⟨by rfl, fun wq hSw => by go_simp⟩) hSx ?_
          try simp [Act.put]
          refine wpAnyH_take (i := 4) (v := .int .i64 (k : Int)) rfl (by kernel_rfl) (by kernel_rfl) (by kernel_rfl) (fun _ _ _ h => h) (Or.inl ⟨by rfl, fun wq hSw => by go_simp⟩) hSx ?_
          try simp [Act.put]
          refine wpAnyH_take (i := 5) (v := .bool false) rfl (by kernel_rfl) (by kernel_rfl) (by kernel_rfl) (fun _ _ _ h => h) (Or.inl ⟨by rfl, fun wq hSw => by go_simp⟩) hSx ?_
          try simp [Act.put]
          refine wpAnyH_take (i := 6) (v := .bool false) rfl (by kernel_rfl) (by kernel_rfl) (by kernel_rfl) (fun _ _ _ h => h) (Or.inl ⟨by rfl, fun wq hSw => by go_simp⟩) hSx ?_
          try simp [Act.put]
          refine wpAnyH_take (i := 7) (v := undef) rfl (by kernel_rfl) (by kernel_rfl) (by kernel_rfl) (fun _ _ _ h => h) (Or.inr ⟨by rfl, rfl⟩) hSx ?_
          try simp [Act.put]
          refine wpAnyH_take (i := 8) (v := undef) rfl (by kernel_rfl) (by kernel_rfl) (by kernel_rfl) (fun _ _ _ h => h) (Or.inr ⟨by rfl, rfl⟩) hSx ?_
          try simp [Act.put]
          refine wpAnyH_take (i := 9) (v := undef) rfl (by kernel_rfl) (by kernel_rfl) (by kernel_rfl) (fun _ _ _ h => h) (Or.inr ⟨by rfl, rfl⟩) hSx ?_
          try simp [Act.put]
          refine wpAnyH_take (i := 10) (v := undef) rfl (by kernel_rfl) (by kernel_rfl) (by kernel_rfl) (fun _ _ _ h => h) (Or.inr ⟨by rfl, rfl⟩) hSx ?_
          try simp [Act.put]
          refine wpAnyH_take (i := 11) (v := undef) rfl (by kernel_rfl) (by kernel_rfl) (by kernel_rfl) (fun _ _ _ h => h) (Or.inr ⟨by rfl, rfl⟩) hSx ?_
          try simp [Act.put]
          refine wpAnyH_take (i := 12) (v := undef) rfl (by kernel_rfl) (by kernel_rfl) (by kernel_rfl) (fun _ _ _ h => h) (Or.inr ⟨by rfl, rfl⟩) hSx ?_
          try simp [Act.put]
          refine wpAnyH_take (i := 13) (v := undef) rfl (by kernel_rfl) (by kernel_rfl) (by kernel_rfl) (fun _ _ _ h => h) (Or.inr ⟨by rfl, rfl⟩) hSx ?_
          try simp [Act.put]
          refine wpAnyH_take (i := 14) (v := undef) rfl (by kernel_rfl) (by kernel_rfl) (by kernel_rfl) (fun _ _ _ h => h) (Or.inr ⟨by rfl, rfl⟩) hSx ?_
          try simp [Act.put]
          refine wpAnyH_take (i := 15) (v := undef) rfl (by kernel_rfl) (by kernel_rfl) (by kernel_rfl) (fun _ _ _ h => h) (Or.inr ⟨by rfl, rfl⟩) hSx ?_
          try simp [Act.put]
          refine wpAnyH_take (i := 16) (v := .bool false) rfl (by kernel_rfl) (by kernel_rfl) (by kernel_rfl) (fun _ _ _ h => h) (Or.inl ⟨by rfl, fun wq hSw => by go_simp⟩) hSx ?_
          try simp [Act.put]
          refine wpAnyH_take (i := 17) (v := .bool false) rfl (by kernel_rfl) (by kernel_rfl) (by kernel_rfl) (fun _ _ _ h => h) (Or.inl ⟨by rfl, fun wq hSw => by go_simp⟩) hSx ?_
          try simp [Act.put]
          refine wpAnyH_done (by kernel_rfl) ?_ _
          go_wp2
          go_roundw
          case rel => exact ⟨k + 1, by omega, by go_num, HT.out, below_step HB.out HZ1.out⟩
          case measure => simp [intOf]; omega
        have d0 := hp hk0
        have hk1 : (0 : Int) < (k : Int) := by omega
        have hk2 : (1 : Int) ≤ (k : Int) := by omega
        have hk3 : (k : Int) ≤ (ks.length : Int) := by omega
        have hj0 : (0 : Int) ≤ (k : Int) - 1 := by omega
        have hj1 : (k : Int) - 1 < (ks.length : Int) := by omega
        have hj2 : ((k : Int) - 1).toNat = k - 1 := by omega
        have hj3 : IntKind.i64.wrap ((k : Int) - 1) = (k : Int) - 1 := IntWalk.i64_in _ (by omega)
        have HS2 : Hid (∀ w' : World, Below (wr.alloc (.cells #[iv (fld ks k 0), iv (fld ks k 1), iv (fld ks k 2), iv (fld ks k 3), iv (fld ks k 4)] 64)).heap.size (wr.alloc (.cells #[iv (fld ks k 0), iv (fld ks k 1), iv (fld ks k 2), iv (fld ks k 3), iv (fld ks k 4)] 64)) w' → (w'.cell? ⟨wr.heap.size, 0, none⟩ = some (iv (fld ks k 0)) ∧ w'.cell? ⟨wr.heap.size, 1, none⟩ = some (iv (fld ks k 1)) ∧ w'.cell? ⟨wr.heap.size, 2, none⟩ = some (iv (fld ks k 2)) ∧ w'.cell? ⟨wr.heap.size, 3, none⟩ = some (iv (fld ks k 3)) ∧ w'.cell? ⟨wr.heap.size, 4, none⟩ = some (iv (fld ks k 4)) ∧ w'.cell? ⟨b, off + (k - 1) * 5, none⟩ = some (iv (fld ks (k - 1) 0)))) := hid fun w' hx => ⟨(HS.out w' hx).1, (HS.out w' hx).2.1, (HS.out w' hx).2.2.1, (HS.out w' hx).2.2.2.1, (HS.out w' hx).2.2.2.2, (hx.cell (p := ⟨b, off + (k - 1) * 5, none⟩) (Nat.lt_of_lt_of_le hbw (by simp))).trans ((World.cell?_alloc_past _ _ _ hbw).trans d0)⟩
        clear hp HS
        by_cases hr : fld ks k 0 ≤ fld ks (k - 1) 0
        · have hr' : decide (fld ks k 0 ≤ fld ks (k - 1) 0) = true := by simpa using hr
          have HT := hid (areB_bad (mx := 12) hlt (show goodKey ks k = false by simp [goodKey, risesB_no hk0 hr]))
          clear HG hx hr
          go_wp2_with fail
          go_region_held3 (fun w' => w'.cell? ⟨wr.heap.size, 0, none⟩ = some (iv (fld ks k 0)) ∧ w'.cell? ⟨wr.heap.size, 1, none⟩ = some (iv (fld ks k 1)) ∧ w'.cell? ⟨wr.heap.size, 2, none⟩ = some (iv (fld ks k 2)) ∧ w'.cell? ⟨wr.heap.size, 3, none⟩ = some (iv (fld ks k 3)) ∧ w'.cell? ⟨wr.heap.size, 4, none⟩ = some (iv (fld ks k 4)) ∧ w'.cell? ⟨b, off + (k - 1) * 5, none⟩ = some (iv (fld ks (k - 1) 0))) (first | with_reducible exact HS2.out _ HX.drew | with_reducible exact HS2.out _ HZ1.out | go_keep)
            (first | (go_at_call 42; refine (HI.out _).mono ?_; rintro e w1 ⟨rfl, hb1⟩; have HZ1 := hid (below_step HX.drew hb1); clear hb1))
          go_wp2
          go_ret
          exact ⟨ret_bool HT.out, below_step HB.out HZ1.out⟩
        · have hr' : decide (fld ks k 0 ≤ fld ks (k - 1) 0) = false := by simpa using hr
          have HT := hid (AG_succ HG.out (show goodKey ks k = true by simp [goodKey, hx, risesB_yes (show fld ks (k - 1) 0 < fld ks k 0 by omega)]))
          clear HG hx hr
          go_wp2_with fail
          go_region_held3 (fun w' => w'.cell? ⟨wr.heap.size, 0, none⟩ = some (iv (fld ks k 0)) ∧ w'.cell? ⟨wr.heap.size, 1, none⟩ = some (iv (fld ks k 1)) ∧ w'.cell? ⟨wr.heap.size, 2, none⟩ = some (iv (fld ks k 2)) ∧ w'.cell? ⟨wr.heap.size, 3, none⟩ = some (iv (fld ks k 3)) ∧ w'.cell? ⟨wr.heap.size, 4, none⟩ = some (iv (fld ks k 4)) ∧ w'.cell? ⟨b, off + (k - 1) * 5, none⟩ = some (iv (fld ks (k - 1) 0))) (first | with_reducible exact HS2.out _ HX.drew | with_reducible exact HS2.out _ HZ1.out | go_keep)
            (first | (go_at_call 42; refine (HI.out _).mono ?_; rintro e w1 ⟨rfl, hb1⟩; have HZ1 := hid (below_step HX.drew hb1); clear hb1))
          go_wp2
          go_roundw
          case rel => exact ⟨k + 1, by omega, by go_num, HT.out, below_step HB.out HZ1.out⟩
          case measure => simp [intOf]; omega
    · obtain rfl : k = ks.length := by omega
      have HT := hid (areB_end (mx := 12) HG.out)
      have HB := hid hb
      clear hb HG
      go_wp2
      go_ret
      exact ⟨ret_bool HT.out, HB.out⟩


end Go.Proofs.Ytkdpfbodmfjkkaa
