/- CheckMandate of the program and of the reference return what the plain function says. No condition. -/
import Derived.Test.YtkdpfbodmfjkkaaRows
import Derived.Test.YtkdpfbodmfjkkaaPlain
import Derived.Test.YtkdpfbodmfjkkaaMark
import Derived.Test.YtkdpfbodmfjkkaaChkMandate
import Derived.Test.YtkdpfbodmfjkkaaIntsMandate
namespace Go.Proofs.Ytkdpfbodmfjkkaa
open Go.RowKit

def checkMandateB (ks : List (List Int)) (a0 a1 a2 a3 a4 a5 : Int) : Bool := mandateB a0 a1 a2 a3 a4 a5 && (ownerOf a4 ks == a0) && checkMarkB a4 a5 ks [105, a0, a1, a2, a3, a4]
theorem checkMandateB_no {ks : List (List Int)} {a0 a1 a2 a3 a4 a5 : Int} (h : mandateB a0 a1 a2 a3 a4 a5 = false) : false = checkMandateB ks a0 a1 a2 a3 a4 a5 := by simp [checkMandateB, h]
theorem checkMandateB_mid {ks : List (List Int)} {a0 a1 a2 a3 a4 a5 : Int} (h2 : (ownerOf a4 ks == a0) = false) : false = checkMandateB ks a0 a1 a2 a3 a4 a5 := by simp [checkMandateB, h2]
theorem checkMandateB_yes {ks : List (List Int)} {a0 a1 a2 a3 a4 a5 : Int} (h : mandateB a0 a1 a2 a3 a4 a5 = true) (h2 : (ownerOf a4 ks == a0) = true) : checkMarkB a4 a5 ks [105, a0, a1, a2, a3, a4] = checkMandateB ks a0 a1 a2 a3 a4 a5 := by simp [checkMandateB, h, h2]

set_option maxHeartbeats 4000000 in
theorem implCheckMandate_any {B : Nat} {ks : List (List Int)} {v : Value} (a0 a1 a2 a3 a4 a5 : Int) (w : World) (h : Sl B w 5 v ks) (hB : B ≤ w.heap.size) :
    Calls Try.prog 84 #[v, .agg #[iv a0, iv a1, iv a2, iv a3, iv a4, iv a5]] w (Ret (.bool (checkMandateB ks a0 a1 a2 a3 a4 a5)) w) := by
  have HX : Below (w.alloc (.cells #[iv a0, iv a1, iv a2, iv a3, iv a4, iv a5] 135)).heap.size (w.alloc (.cells #[iv a0, iv a1, iv a2, iv a3, iv a4, iv a5] 135)) (w.alloc (.cells #[iv a0, iv a1, iv a2, iv a3, iv a4, iv a5] 135)) := Below.refl _ _
  have hB1 : B ≤ (w.alloc (.cells #[iv a0, iv a1, iv a2, iv a3, iv a4, iv a5] 135)).heap.size := by simp; omega
  have h1 : Sl B (w.alloc (.cells #[iv a0, iv a1, iv a2, iv a3, iv a4, iv a5] 135)) 5 v ks := h.below (below_alloc _ _) hB
  have HS : Hid (∀ w' : World, Below (w.alloc (.cells #[iv a0, iv a1, iv a2, iv a3, iv a4, iv a5] 135)).heap.size (w.alloc (.cells #[iv a0, iv a1, iv a2, iv a3, iv a4, iv a5] 135)) w' → (w'.cell? ⟨w.heap.size, 0, none⟩ = some (iv a0) ∧ w'.cell? ⟨w.heap.size, 1, none⟩ = some (iv a1) ∧ w'.cell? ⟨w.heap.size, 2, none⟩ = some (iv a2) ∧ w'.cell? ⟨w.heap.size, 3, none⟩ = some (iv a3) ∧ w'.cell? ⟨w.heap.size, 4, none⟩ = some (iv a4) ∧ w'.cell? ⟨w.heap.size, 5, none⟩ = some (iv a5) ∧ Below (w.alloc (.cells #[iv a0, iv a1, iv a2, iv a3, iv a4, iv a5] 135)).heap.size (w.alloc (.cells #[iv a0, iv a1, iv a2, iv a3, iv a4, iv a5] 135)) w')) := hid fun w' hx => ⟨(hx.cell (p := ⟨w.heap.size, 0, none⟩) (by simp)).trans (by simp [go_sem]), (hx.cell (p := ⟨w.heap.size, 1, none⟩) (by simp)).trans (by simp [go_sem]), (hx.cell (p := ⟨w.heap.size, 2, none⟩) (by simp)).trans (by simp [go_sem]), (hx.cell (p := ⟨w.heap.size, 3, none⟩) (by simp)).trans (by simp [go_sem]), (hx.cell (p := ⟨w.heap.size, 4, none⟩) (by simp)).trans (by simp [go_sem]), (hx.cell (p := ⟨w.heap.size, 5, none⟩) (by simp)).trans (by simp [go_sem]), hx⟩
  have HV := hid h1
  have HBB := hid hB1
  clear h h1 hB1
  cases hx : mandateB a0 a1 a2 a3 a4 a5
  · have HT := hid (checkMandateB_no (ks := ks) hx)
    have HI : Hid (∀ W : World, Calls Try.prog 150 #[.agg #[iv a0, iv a1, iv a2, iv a3, iv a4, iv a5]] W (Ret (.bool false) W)) := hid fun W => by rw [← hx]; exact implIsMandate_any _ _ _ _ _ _ W
    clear hx
    go_enter Try.func84, Try.ntmps84
    go_wp2_with fail
    refine wp_region_held_drew (S := fun w' => w'.cell? ⟨w.heap.size, 0, none⟩ = some (iv a0) ∧ w'.cell? ⟨w.heap.size, 1, none⟩ = some (iv a1) ∧ w'.cell? ⟨w.heap.size, 2, none⟩ = some (iv a2) ∧ w'.cell? ⟨w.heap.size, 3, none⟩ = some (iv a3) ∧ w'.cell? ⟨w.heap.size, 4, none⟩ = some (iv a4) ∧ w'.cell? ⟨w.heap.size, 5, none⟩ = some (iv a5) ∧ Below (w.alloc (.cells #[iv a0, iv a1, iv a2, iv a3, iv a4, iv a5] 135)).heap.size (w.alloc (.cells #[iv a0, iv a1, iv a2, iv a3, iv a4, iv a5] 135)) w') (by kernel_rfl) (HS.out _ HX.drew) (fun hSx => ?_)
    refine wpAnyH_take (i := 0) (v := .agg #[iv a0, iv a1, iv a2, iv a3, iv a4, iv a5]) rfl (by kernel_rfl) (by kernel_rfl) (by kernel_rfl) (fun _ _ _ h => h) (Or.inl ⟨by rfl, fun wq hSw => by go_simp⟩) hSx ?_
    try simp [Act.put]
    clear hSx
    refine wpAnyH_ready (rs := [1]) (by kernel_rfl) (by simp) ?_
    refine AllReadyH.cons rfl (fun K hK => ?_) AllReadyH.nil
    go_simp
    go_wp2_with ((go_at_call 150; refine (HI.out _).mono ?_; rintro e w1 ⟨rfl, hb1⟩; have HZ1 := hid (below_step HX.drew hb1); clear hb1))
    refine hK _ _ (by simpa using HS.out _ HZ1.out) (fun hSx => ?_)
    clear hK K
    try simp [Act.put]
    refine wpAnyH_take (i := 2) (v := .bool false) rfl (by kernel_rfl) (by kernel_rfl) (by kernel_rfl) (fun _ _ _ h => h) (Or.inl ⟨by rfl, fun wq hSw => by go_simp⟩) hSx ?_
    try simp [Act.put]
    refine wpAnyH_take (i := 3) (v := undef) rfl (by kernel_rfl) (by kernel_rfl) (by kernel_rfl) (fun _ _ _ h => h) (Or.inr ⟨by rfl, rfl⟩) hSx ?_
    try simp [Act.put]
    refine wpAnyH_take (i := 4) (v := undef) rfl (by kernel_rfl) (by kernel_rfl) (by kernel_rfl) (fun _ _ _ h => h) (Or.inr ⟨by rfl, rfl⟩) hSx ?_
    try simp [Act.put]
    refine wpAnyH_take (i := 5) (v := undef) rfl (by kernel_rfl) (by kernel_rfl) (by kernel_rfl) (fun _ _ _ h => h) (Or.inr ⟨by rfl, rfl⟩) hSx ?_
    try simp [Act.put]
    refine wpAnyH_take (i := 6) (v := undef) rfl (by kernel_rfl) (by kernel_rfl) (by kernel_rfl) (fun _ _ _ h => h) (Or.inr ⟨by rfl, rfl⟩) hSx ?_
    try simp [Act.put]
    refine wpAnyH_take (i := 7) (v := undef) rfl (by kernel_rfl) (by kernel_rfl) (by kernel_rfl) (fun _ _ _ h => h) (Or.inr ⟨by rfl, rfl⟩) hSx ?_
    try simp [Act.put]
    refine wpAnyH_take (i := 8) (v := undef) rfl (by kernel_rfl) (by kernel_rfl) (by kernel_rfl) (fun _ _ _ h => h) (Or.inr ⟨by rfl, rfl⟩) hSx ?_
    try simp [Act.put]
    refine wpAnyH_take (i := 9) (v := undef) rfl (by kernel_rfl) (by kernel_rfl) (by kernel_rfl) (fun _ _ _ h => h) (Or.inr ⟨by rfl, rfl⟩) hSx ?_
    try simp [Act.put]
    refine wpAnyH_take (i := 10) (v := .bool false) rfl (by kernel_rfl) (by kernel_rfl) (by kernel_rfl) (fun _ _ _ h => h) (Or.inl ⟨by rfl, fun wq hSw => by go_simp⟩) hSx ?_
    try simp [Act.put]
    refine wpAnyH_take (i := 11) (v := .bool false) rfl (by kernel_rfl) (by kernel_rfl) (by kernel_rfl) (fun _ _ _ h => h) (Or.inl ⟨by rfl, fun wq hSw => by go_simp⟩) hSx ?_
    try simp [Act.put]
    refine wpAnyH_take (i := 12) (v := undef) rfl (by kernel_rfl) (by kernel_rfl) (by kernel_rfl) (fun _ _ _ h => h) (Or.inr ⟨by rfl, rfl⟩) hSx ?_
    try simp [Act.put]
    refine wpAnyH_take (i := 13) (v := undef) rfl (by kernel_rfl) (by kernel_rfl) (by kernel_rfl) (fun _ _ _ h => h) (Or.inr ⟨by rfl, rfl⟩) hSx ?_
    try simp [Act.put]
    refine wpAnyH_take (i := 14) (v := undef) rfl (by kernel_rfl) (by kernel_rfl) (by kernel_rfl) (fun _ _ _ h => h) (Or.inr ⟨by rfl, rfl⟩) hSx ?_
    try simp [Act.put]
    refine wpAnyH_take (i := 15) (v := undef) rfl (by kernel_rfl) (by kernel_rfl) (by kernel_rfl) (fun _ _ _ h => h) (Or.inr ⟨by rfl, rfl⟩) hSx ?_
    try simp [Act.put]
    refine wpAnyH_take (i := 16) (v := undef) rfl (by kernel_rfl) (by kernel_rfl) (by kernel_rfl) (fun _ _ _ h => h) (Or.inr ⟨by rfl, rfl⟩) hSx ?_
    try simp [Act.put]
    refine wpAnyH_take (i := 17) (v := undef) rfl (by kernel_rfl) (by kernel_rfl) (by kernel_rfl) (fun _ _ _ h => h) (Or.inr ⟨by rfl, rfl⟩) hSx ?_
    try simp [Act.put]
    refine wpAnyH_take (i := 18) (v := undef) rfl (by kernel_rfl) (by kernel_rfl) (by kernel_rfl) (fun _ _ _ h => h) (Or.inr ⟨by rfl, rfl⟩) hSx ?_
    try simp [Act.put]
    refine wpAnyH_take (i := 19) (v := undef) rfl (by kernel_rfl) (by kernel_rfl) (by kernel_rfl) (fun _ _ _ h => h) (Or.inr ⟨by rfl, rfl⟩) hSx ?_
    try simp [Act.put]
    refine wpAnyH_take (i := 20) (v := .bool false) rfl (by kernel_rfl) (by kernel_rfl) (by kernel_rfl) (fun _ _ _ h => h) (Or.inl ⟨by rfl, fun wq hSw => by go_simp⟩) hSx ?_
    try simp [Act.put]
    refine wpAnyH_take (i := 21) (v := .bool false) rfl (by kernel_rfl) (by kernel_rfl) (by kernel_rfl) (fun _ _ _ h => h) (Or.inl ⟨by rfl, fun wq hSw => by go_simp⟩) hSx ?_
    try simp [Act.put]
    refine wpAnyH_done (by kernel_rfl) ?_ _
    go_wp2
    go_ret
    exact ⟨ret_bool HT.out, below_step (below_alloc _ _) HZ1.out⟩
  · cases hm : (ownerOf a4 ks == a0)
    · have HT := hid (checkMandateB_mid (a0 := a0) (a1 := a1) (a2 := a2) (a3 := a3) (a4 := a4) (a5 := a5) (ks := ks) hm)
      have HI : Hid (∀ W : World, Calls Try.prog 150 #[.agg #[iv a0, iv a1, iv a2, iv a3, iv a4, iv a5]] W (Ret (.bool true) W)) := hid fun W => by rw [← hx]; exact implIsMandate_any _ _ _ _ _ _ W
      clear hx
      go_enter Try.func84, Try.ntmps84
      go_wp2_with fail
      refine wp_region_held_drew (S := fun w' => w'.cell? ⟨w.heap.size, 0, none⟩ = some (iv a0) ∧ w'.cell? ⟨w.heap.size, 1, none⟩ = some (iv a1) ∧ w'.cell? ⟨w.heap.size, 2, none⟩ = some (iv a2) ∧ w'.cell? ⟨w.heap.size, 3, none⟩ = some (iv a3) ∧ w'.cell? ⟨w.heap.size, 4, none⟩ = some (iv a4) ∧ w'.cell? ⟨w.heap.size, 5, none⟩ = some (iv a5) ∧ Below (w.alloc (.cells #[iv a0, iv a1, iv a2, iv a3, iv a4, iv a5] 135)).heap.size (w.alloc (.cells #[iv a0, iv a1, iv a2, iv a3, iv a4, iv a5] 135)) w') (by kernel_rfl) (HS.out _ HX.drew) (fun hSx => ?_)
      refine wpAnyH_take (i := 0) (v := .agg #[iv a0, iv a1, iv a2, iv a3, iv a4, iv a5]) rfl (by kernel_rfl) (by kernel_rfl) (by kernel_rfl) (fun _ _ _ h => h) (Or.inl ⟨by rfl, fun wq hSw => by go_simp⟩) hSx ?_
      try simp [Act.put]
      clear hSx
      refine wpAnyH_ready (rs := [1]) (by kernel_rfl) (by simp) ?_
      refine AllReadyH.cons rfl (fun K hK => ?_) AllReadyH.nil
      go_simp
      go_wp2_with ((go_at_call 150; refine (HI.out _).mono ?_; rintro e w1 ⟨rfl, hb1⟩; have HZ1 := hid (below_step HX.drew hb1); clear hb1))
      refine hK _ _ (by simpa using HS.out _ HZ1.out) (fun hSx => ?_)
      clear hK K
      try simp [Act.put]
      refine wpAnyH_take (i := 2) (v := .bool true) rfl (by kernel_rfl) (by kernel_rfl) (by kernel_rfl) (fun _ _ _ h => h) (Or.inl ⟨by rfl, fun wq hSw => by go_simp⟩) hSx ?_
      try simp [Act.put]
      refine wpAnyH_take (i := 3) (v := v) rfl (by kernel_rfl) (by kernel_rfl) (by kernel_rfl) (fun _ _ _ h => h) (Or.inl ⟨by rfl, fun wq hSw => by go_simp⟩) hSx ?_
      try simp [Act.put]
      refine wpAnyH_take (i := 4) (v := .pointer (some ⟨w.heap.size, 4, none⟩)) rfl (by kernel_rfl) (by kernel_rfl) (by kernel_rfl) (fun _ _ _ h => h) (Or.inl ⟨by rfl, fun wq hSw => by go_simp⟩) hSx ?_
      try simp [Act.put]
      refine wpAnyH_take (i := 5) (v := iv a4) rfl (by kernel_rfl) (by kernel_rfl) (by kernel_rfl) (fun _ _ _ h => h) (Or.inl ⟨by rfl, fun wq hSw => by go_simp⟩) hSx ?_
      try simp [Act.put]
      refine wpAnyH_take (i := 7) (v := .pointer (some ⟨w.heap.size, 0, none⟩)) rfl (by kernel_rfl) (by kernel_rfl) (by kernel_rfl) (fun _ _ _ h => h) (Or.inl ⟨by rfl, fun wq hSw => by go_simp⟩) hSx ?_
      try simp [Act.put]
      refine wpAnyH_take (i := 8) (v := iv a0) rfl (by kernel_rfl) (by kernel_rfl) (by kernel_rfl) (fun _ _ _ h => h) (Or.inl ⟨by rfl, fun wq hSw => by go_simp⟩) hSx ?_
      try simp [Act.put]
      clear hSx
      refine wpAnyH_ready (rs := [6]) (by kernel_rfl) (by simp) ?_
      refine AllReadyH.cons rfl (fun K hK => ?_) AllReadyH.nil
      go_simp
      go_wp2_with ((go_at_call 46; refine (implOwnerOf_any a4 _ ((HV.out.below HZ1.out HBB.out).mono (Nat.le_trans HBB.out HZ1.out.size)) (Nat.le_refl _)).mono ?_; rintro e w2 ⟨rfl, hb2⟩; have HZ2 := hid (below_step HZ1.out hb2); clear hb2))
      refine hK _ _ (by simpa using HS.out _ HZ2.out) (fun hSx => ?_)
      clear hK K
      try simp [Act.put]
      refine wpAnyH_take (i := 9) (v := .bool false) rfl (by kernel_rfl) (by kernel_rfl) (by kernel_rfl) (fun _ _ _ h => h) (Or.inl ⟨by rfl, fun wq hSw => by go_simp⟩) hSx ?_
      try simp [Act.put]
      refine wpAnyH_take (i := 10) (v := .bool false) rfl (by kernel_rfl) (by kernel_rfl) (by kernel_rfl) (fun _ _ _ h => h) (Or.inl ⟨by rfl, fun wq hSw => by go_simp⟩) hSx ?_
      try simp [Act.put]
      refine wpAnyH_take (i := 11) (v := .bool false) rfl (by kernel_rfl) (by kernel_rfl) (by kernel_rfl) (fun _ _ _ h => h) (Or.inl ⟨by rfl, fun wq hSw => by go_simp⟩) hSx ?_
      try simp [Act.put]
      refine wpAnyH_take (i := 12) (v := undef) rfl (by kernel_rfl) (by kernel_rfl) (by kernel_rfl) (fun _ _ _ h => h) (Or.inr ⟨by rfl, rfl⟩) hSx ?_
      try simp [Act.put]
      refine wpAnyH_take (i := 13) (v := undef) rfl (by kernel_rfl) (by kernel_rfl) (by kernel_rfl) (fun _ _ _ h => h) (Or.inr ⟨by rfl, rfl⟩) hSx ?_
      try simp [Act.put]
      refine wpAnyH_take (i := 14) (v := undef) rfl (by kernel_rfl) (by kernel_rfl) (by kernel_rfl) (fun _ _ _ h => h) (Or.inr ⟨by rfl, rfl⟩) hSx ?_
      try simp [Act.put]
      refine wpAnyH_take (i := 15) (v := undef) rfl (by kernel_rfl) (by kernel_rfl) (by kernel_rfl) (fun _ _ _ h => h) (Or.inr ⟨by rfl, rfl⟩) hSx ?_
      try simp [Act.put]
      refine wpAnyH_take (i := 16) (v := undef) rfl (by kernel_rfl) (by kernel_rfl) (by kernel_rfl) (fun _ _ _ h => h) (Or.inr ⟨by rfl, rfl⟩) hSx ?_
      try simp [Act.put]
      refine wpAnyH_take (i := 17) (v := undef) rfl (by kernel_rfl) (by kernel_rfl) (by kernel_rfl) (fun _ _ _ h => h) (Or.inr ⟨by rfl, rfl⟩) hSx ?_
      try simp [Act.put]
      refine wpAnyH_take (i := 18) (v := undef) rfl (by kernel_rfl) (by kernel_rfl) (by kernel_rfl) (fun _ _ _ h => h) (Or.inr ⟨by rfl, rfl⟩) hSx ?_
      try simp [Act.put]
      refine wpAnyH_take (i := 19) (v := undef) rfl (by kernel_rfl) (by kernel_rfl) (by kernel_rfl) (fun _ _ _ h => h) (Or.inr ⟨by rfl, rfl⟩) hSx ?_
      try simp [Act.put]
      refine wpAnyH_take (i := 20) (v := .bool false) rfl (by kernel_rfl) (by kernel_rfl) (by kernel_rfl) (fun _ _ _ h => h) (Or.inl ⟨by rfl, fun wq hSw => by go_simp⟩) hSx ?_
      try simp [Act.put]
      refine wpAnyH_take (i := 21) (v := .bool false) rfl (by kernel_rfl) (by kernel_rfl) (by kernel_rfl) (fun _ _ _ h => h) (Or.inl ⟨by rfl, fun wq hSw => by go_simp⟩) hSx ?_
      try simp [Act.put]
      refine wpAnyH_done (by kernel_rfl) ?_ _
      go_wp2
      go_ret
      exact ⟨ret_bool HT.out, below_step (below_alloc _ _) HZ2.out⟩
    · have HT := hid (checkMandateB_yes (ks := ks) hx hm)
      have HI : Hid (∀ W : World, Calls Try.prog 150 #[.agg #[iv a0, iv a1, iv a2, iv a3, iv a4, iv a5]] W (Ret (.bool true) W)) := hid fun W => by rw [← hx]; exact implIsMandate_any _ _ _ _ _ _ W
      clear hx
      go_enter Try.func84, Try.ntmps84
      go_wp2_with fail
      go_region_held3 (fun w' => w'.cell? ⟨w.heap.size, 0, none⟩ = some (iv a0) ∧ w'.cell? ⟨w.heap.size, 1, none⟩ = some (iv a1) ∧ w'.cell? ⟨w.heap.size, 2, none⟩ = some (iv a2) ∧ w'.cell? ⟨w.heap.size, 3, none⟩ = some (iv a3) ∧ w'.cell? ⟨w.heap.size, 4, none⟩ = some (iv a4) ∧ w'.cell? ⟨w.heap.size, 5, none⟩ = some (iv a5) ∧ Below (w.alloc (.cells #[iv a0, iv a1, iv a2, iv a3, iv a4, iv a5] 135)).heap.size (w.alloc (.cells #[iv a0, iv a1, iv a2, iv a3, iv a4, iv a5] 135)) w') (first | exact HS.out _ HX.drew | exact HS.out _ HZ1.out | exact HS.out _ HZ2.out | exact HS.out _ HZ3.out | exact HS.out _ HZ4.out | go_keep)
        (first | (go_at_call 150; refine (HI.out _).mono ?_; rintro e w1 ⟨rfl, hb1⟩; have HZ1 := hid (below_step HX.drew hb1); clear hb1) | (go_at_call 46; refine (implOwnerOf_any a4 _ ((HV.out.below HZ1.out HBB.out).mono (Nat.le_trans HBB.out HZ1.out.size)) (Nat.le_refl _)).mono ?_; rintro e w2 ⟨rfl, hb2⟩; have HZ2 := hid (below_step HZ1.out hb2); clear hb2) | (go_at_call 151; refine (implMandateInts_any _ _ _ _ _ _ _).mono ?_; rintro e w3 ⟨v3, rfl, ho3, hb3⟩; have HZ3 := hid (below_step HZ2.out hb3); have HO2 := hid ho3; clear hb3 ho3) | (go_at_call 38; refine (implCheckMark_any (zs := [105, a0, a1, a2, a3, a4]) _ _ _ ((HV.out.below HZ3.out HBB.out).mono (Nat.le_trans HBB.out HZ3.out.size)) (Own.si HO2.out) (Nat.le_refl _) (by simp)).mono ?_; rintro e w4 ⟨rfl, hb4⟩; have HZ4 := hid (below_step HZ3.out hb4); clear hb4))
      go_wp2
      go_ret
      exact ⟨ret_bool HT.out, below_step (below_alloc _ _) HZ4.out⟩

set_option maxHeartbeats 4000000 in
theorem specCheckMandate_any {B : Nat} {ks : List (List Int)} {v : Value} (a0 a1 a2 a3 a4 a5 : Int) (w : World) (h : Sl B w 5 v ks) (hB : B ≤ w.heap.size) :
    Calls Try.prog 179 #[v, .agg #[iv a0, iv a1, iv a2, iv a3, iv a4, iv a5]] w (Ret (.bool (checkMandateB ks a0 a1 a2 a3 a4 a5)) w) := by
  have HX : Below (w.alloc (.cells #[iv a0, iv a1, iv a2, iv a3, iv a4, iv a5] 135)).heap.size (w.alloc (.cells #[iv a0, iv a1, iv a2, iv a3, iv a4, iv a5] 135)) (w.alloc (.cells #[iv a0, iv a1, iv a2, iv a3, iv a4, iv a5] 135)) := Below.refl _ _
  have hB1 : B ≤ (w.alloc (.cells #[iv a0, iv a1, iv a2, iv a3, iv a4, iv a5] 135)).heap.size := by simp; omega
  have h1 : Sl B (w.alloc (.cells #[iv a0, iv a1, iv a2, iv a3, iv a4, iv a5] 135)) 5 v ks := h.below (below_alloc _ _) hB
  have HS : Hid (∀ w' : World, Below (w.alloc (.cells #[iv a0, iv a1, iv a2, iv a3, iv a4, iv a5] 135)).heap.size (w.alloc (.cells #[iv a0, iv a1, iv a2, iv a3, iv a4, iv a5] 135)) w' → (w'.cell? ⟨w.heap.size, 0, none⟩ = some (iv a0) ∧ w'.cell? ⟨w.heap.size, 1, none⟩ = some (iv a1) ∧ w'.cell? ⟨w.heap.size, 2, none⟩ = some (iv a2) ∧ w'.cell? ⟨w.heap.size, 3, none⟩ = some (iv a3) ∧ w'.cell? ⟨w.heap.size, 4, none⟩ = some (iv a4) ∧ w'.cell? ⟨w.heap.size, 5, none⟩ = some (iv a5) ∧ Below (w.alloc (.cells #[iv a0, iv a1, iv a2, iv a3, iv a4, iv a5] 135)).heap.size (w.alloc (.cells #[iv a0, iv a1, iv a2, iv a3, iv a4, iv a5] 135)) w')) := hid fun w' hx => ⟨(hx.cell (p := ⟨w.heap.size, 0, none⟩) (by simp)).trans (by simp [go_sem]), (hx.cell (p := ⟨w.heap.size, 1, none⟩) (by simp)).trans (by simp [go_sem]), (hx.cell (p := ⟨w.heap.size, 2, none⟩) (by simp)).trans (by simp [go_sem]), (hx.cell (p := ⟨w.heap.size, 3, none⟩) (by simp)).trans (by simp [go_sem]), (hx.cell (p := ⟨w.heap.size, 4, none⟩) (by simp)).trans (by simp [go_sem]), (hx.cell (p := ⟨w.heap.size, 5, none⟩) (by simp)).trans (by simp [go_sem]), hx⟩
  have HV := hid h1
  have HBB := hid hB1
  clear h h1 hB1
  cases hx : mandateB a0 a1 a2 a3 a4 a5
  · have HT := hid (checkMandateB_no (ks := ks) hx)
    have HI : Hid (∀ W : World, Calls Try.prog 189 #[.agg #[iv a0, iv a1, iv a2, iv a3, iv a4, iv a5]] W (Ret (.bool false) W)) := hid fun W => by rw [← hx]; exact specIsMandate_any _ _ _ _ _ _ W
    clear hx
    go_enter Try.func179, Try.ntmps179
    go_wp2_with fail
    refine wp_region_held_drew (S := fun w' => w'.cell? ⟨w.heap.size, 0, none⟩ = some (iv a0) ∧ w'.cell? ⟨w.heap.size, 1, none⟩ = some (iv a1) ∧ w'.cell? ⟨w.heap.size, 2, none⟩ = some (iv a2) ∧ w'.cell? ⟨w.heap.size, 3, none⟩ = some (iv a3) ∧ w'.cell? ⟨w.heap.size, 4, none⟩ = some (iv a4) ∧ w'.cell? ⟨w.heap.size, 5, none⟩ = some (iv a5) ∧ Below (w.alloc (.cells #[iv a0, iv a1, iv a2, iv a3, iv a4, iv a5] 135)).heap.size (w.alloc (.cells #[iv a0, iv a1, iv a2, iv a3, iv a4, iv a5] 135)) w') (by kernel_rfl) (HS.out _ HX.drew) (fun hSx => ?_)
    refine wpAnyH_take (i := 0) (v := .agg #[iv a0, iv a1, iv a2, iv a3, iv a4, iv a5]) rfl (by kernel_rfl) (by kernel_rfl) (by kernel_rfl) (fun _ _ _ h => h) (Or.inl ⟨by rfl, fun wq hSw => by go_simp⟩) hSx ?_
    try simp [Act.put]
    clear hSx
    refine wpAnyH_ready (rs := [1]) (by kernel_rfl) (by simp) ?_
    refine AllReadyH.cons rfl (fun K hK => ?_) AllReadyH.nil
    go_simp
    go_wp2_with ((go_at_call 189; refine (HI.out _).mono ?_; rintro e w1 ⟨rfl, hb1⟩; have HZ1 := hid (below_step HX.drew hb1); clear hb1))
    refine hK _ _ (by simpa using HS.out _ HZ1.out) (fun hSx => ?_)
    clear hK K
    try simp [Act.put]
    refine wpAnyH_take (i := 2) (v := .bool false) rfl (by kernel_rfl) (by kernel_rfl) (by kernel_rfl) (fun _ _ _ h => h) (Or.inl ⟨by rfl, fun wq hSw => by go_simp⟩) hSx ?_
    try simp [Act.put]
    refine wpAnyH_take (i := 3) (v := undef) rfl (by kernel_rfl) (by kernel_rfl) (by kernel_rfl) (fun _ _ _ h => h) (Or.inr ⟨by rfl, rfl⟩) hSx ?_
    try simp [Act.put]
    refine wpAnyH_take (i := 4) (v := undef) rfl (by kernel_rfl) (by kernel_rfl) (by kernel_rfl) (fun _ _ _ h => h) (Or.inr ⟨by rfl, rfl⟩) hSx ?_
    try simp [Act.put]
    refine wpAnyH_take (i := 5) (v := undef) rfl (by kernel_rfl) (by kernel_rfl) (by kernel_rfl) (fun _ _ _ h => h) (Or.inr ⟨by rfl, rfl⟩) hSx ?_
    try simp [Act.put]
    refine wpAnyH_take (i := 6) (v := undef) rfl (by kernel_rfl) (by kernel_rfl) (by kernel_rfl) (fun _ _ _ h => h) (Or.inr ⟨by rfl, rfl⟩) hSx ?_
    try simp [Act.put]
    refine wpAnyH_take (i := 7) (v := undef) rfl (by kernel_rfl) (by kernel_rfl) (by kernel_rfl) (fun _ _ _ h => h) (Or.inr ⟨by rfl, rfl⟩) hSx ?_
    try simp [Act.put]
    refine wpAnyH_take (i := 8) (v := undef) rfl (by kernel_rfl) (by kernel_rfl) (by kernel_rfl) (fun _ _ _ h => h) (Or.inr ⟨by rfl, rfl⟩) hSx ?_
    try simp [Act.put]
    refine wpAnyH_take (i := 9) (v := undef) rfl (by kernel_rfl) (by kernel_rfl) (by kernel_rfl) (fun _ _ _ h => h) (Or.inr ⟨by rfl, rfl⟩) hSx ?_
    try simp [Act.put]
    refine wpAnyH_take (i := 10) (v := .bool false) rfl (by kernel_rfl) (by kernel_rfl) (by kernel_rfl) (fun _ _ _ h => h) (Or.inl ⟨by rfl, fun wq hSw => by go_simp⟩) hSx ?_
    try simp [Act.put]
    refine wpAnyH_take (i := 11) (v := .bool false) rfl (by kernel_rfl) (by kernel_rfl) (by kernel_rfl) (fun _ _ _ h => h) (Or.inl ⟨by rfl, fun wq hSw => by go_simp⟩) hSx ?_
    try simp [Act.put]
    refine wpAnyH_take (i := 12) (v := undef) rfl (by kernel_rfl) (by kernel_rfl) (by kernel_rfl) (fun _ _ _ h => h) (Or.inr ⟨by rfl, rfl⟩) hSx ?_
    try simp [Act.put]
    refine wpAnyH_take (i := 13) (v := undef) rfl (by kernel_rfl) (by kernel_rfl) (by kernel_rfl) (fun _ _ _ h => h) (Or.inr ⟨by rfl, rfl⟩) hSx ?_
    try simp [Act.put]
    refine wpAnyH_take (i := 14) (v := undef) rfl (by kernel_rfl) (by kernel_rfl) (by kernel_rfl) (fun _ _ _ h => h) (Or.inr ⟨by rfl, rfl⟩) hSx ?_
    try simp [Act.put]
    refine wpAnyH_take (i := 15) (v := undef) rfl (by kernel_rfl) (by kernel_rfl) (by kernel_rfl) (fun _ _ _ h => h) (Or.inr ⟨by rfl, rfl⟩) hSx ?_
    try simp [Act.put]
    refine wpAnyH_take (i := 16) (v := undef) rfl (by kernel_rfl) (by kernel_rfl) (by kernel_rfl) (fun _ _ _ h => h) (Or.inr ⟨by rfl, rfl⟩) hSx ?_
    try simp [Act.put]
    refine wpAnyH_take (i := 17) (v := undef) rfl (by kernel_rfl) (by kernel_rfl) (by kernel_rfl) (fun _ _ _ h => h) (Or.inr ⟨by rfl, rfl⟩) hSx ?_
    try simp [Act.put]
    refine wpAnyH_take (i := 18) (v := undef) rfl (by kernel_rfl) (by kernel_rfl) (by kernel_rfl) (fun _ _ _ h => h) (Or.inr ⟨by rfl, rfl⟩) hSx ?_
    try simp [Act.put]
    refine wpAnyH_take (i := 19) (v := undef) rfl (by kernel_rfl) (by kernel_rfl) (by kernel_rfl) (fun _ _ _ h => h) (Or.inr ⟨by rfl, rfl⟩) hSx ?_
    try simp [Act.put]
    refine wpAnyH_take (i := 20) (v := .bool false) rfl (by kernel_rfl) (by kernel_rfl) (by kernel_rfl) (fun _ _ _ h => h) (Or.inl ⟨by rfl, fun wq hSw => by go_simp⟩) hSx ?_
    try simp [Act.put]
    refine wpAnyH_take (i := 21) (v := .bool false) rfl (by kernel_rfl) (by kernel_rfl) (by kernel_rfl) (fun _ _ _ h => h) (Or.inl ⟨by rfl, fun wq hSw => by go_simp⟩) hSx ?_
    try simp [Act.put]
    refine wpAnyH_done (by kernel_rfl) ?_ _
    go_wp2
    go_ret
    exact ⟨ret_bool HT.out, below_step (below_alloc _ _) HZ1.out⟩
  · cases hm : (ownerOf a4 ks == a0)
    · have HT := hid (checkMandateB_mid (a0 := a0) (a1 := a1) (a2 := a2) (a3 := a3) (a4 := a4) (a5 := a5) (ks := ks) hm)
      have HI : Hid (∀ W : World, Calls Try.prog 189 #[.agg #[iv a0, iv a1, iv a2, iv a3, iv a4, iv a5]] W (Ret (.bool true) W)) := hid fun W => by rw [← hx]; exact specIsMandate_any _ _ _ _ _ _ W
      clear hx
      go_enter Try.func179, Try.ntmps179
      go_wp2_with fail
      refine wp_region_held_drew (S := fun w' => w'.cell? ⟨w.heap.size, 0, none⟩ = some (iv a0) ∧ w'.cell? ⟨w.heap.size, 1, none⟩ = some (iv a1) ∧ w'.cell? ⟨w.heap.size, 2, none⟩ = some (iv a2) ∧ w'.cell? ⟨w.heap.size, 3, none⟩ = some (iv a3) ∧ w'.cell? ⟨w.heap.size, 4, none⟩ = some (iv a4) ∧ w'.cell? ⟨w.heap.size, 5, none⟩ = some (iv a5) ∧ Below (w.alloc (.cells #[iv a0, iv a1, iv a2, iv a3, iv a4, iv a5] 135)).heap.size (w.alloc (.cells #[iv a0, iv a1, iv a2, iv a3, iv a4, iv a5] 135)) w') (by kernel_rfl) (HS.out _ HX.drew) (fun hSx => ?_)
      refine wpAnyH_take (i := 0) (v := .agg #[iv a0, iv a1, iv a2, iv a3, iv a4, iv a5]) rfl (by kernel_rfl) (by kernel_rfl) (by kernel_rfl) (fun _ _ _ h => h) (Or.inl ⟨by rfl, fun wq hSw => by go_simp⟩) hSx ?_
      try simp [Act.put]
      clear hSx
      refine wpAnyH_ready (rs := [1]) (by kernel_rfl) (by simp) ?_
      refine AllReadyH.cons rfl (fun K hK => ?_) AllReadyH.nil
      go_simp
      go_wp2_with ((go_at_call 189; refine (HI.out _).mono ?_; rintro e w1 ⟨rfl, hb1⟩; have HZ1 := hid (below_step HX.drew hb1); clear hb1))
      refine hK _ _ (by simpa using HS.out _ HZ1.out) (fun hSx => ?_)
      clear hK K
      try simp [Act.put]
      refine wpAnyH_take (i := 2) (v := .bool true) rfl (by kernel_rfl) (by kernel_rfl) (by kernel_rfl) (fun _ _ _ h => h) (Or.inl ⟨by rfl, fun wq hSw => by go_simp⟩) hSx ?_
      try simp [Act.put]
      refine wpAnyH_take (i := 3) (v := v) rfl (by kernel_rfl) (by kernel_rfl) (by kernel_rfl) (fun _ _ _ h => h) (Or.inl ⟨by rfl, fun wq hSw => by go_simp⟩) hSx ?_
      try simp [Act.put]
      refine wpAnyH_take (i := 4) (v := .pointer (some ⟨w.heap.size, 4, none⟩)) rfl (by kernel_rfl) (by kernel_rfl) (by kernel_rfl) (fun _ _ _ h => h) (Or.inl ⟨by rfl, fun wq hSw => by go_simp⟩) hSx ?_
      try simp [Act.put]
      refine wpAnyH_take (i := 5) (v := iv a4) rfl (by kernel_rfl) (by kernel_rfl) (by kernel_rfl) (fun _ _ _ h => h) (Or.inl ⟨by rfl, fun wq hSw => by go_simp⟩) hSx ?_
      try simp [Act.put]
      refine wpAnyH_take (i := 7) (v := .pointer (some ⟨w.heap.size, 0, none⟩)) rfl (by kernel_rfl) (by kernel_rfl) (by kernel_rfl) (fun _ _ _ h => h) (Or.inl ⟨by rfl, fun wq hSw => by go_simp⟩) hSx ?_
      try simp [Act.put]
      refine wpAnyH_take (i := 8) (v := iv a0) rfl (by kernel_rfl) (by kernel_rfl) (by kernel_rfl) (fun _ _ _ h => h) (Or.inl ⟨by rfl, fun wq hSw => by go_simp⟩) hSx ?_
      try simp [Act.put]
      clear hSx
      refine wpAnyH_ready (rs := [6]) (by kernel_rfl) (by simp) ?_
      refine AllReadyH.cons rfl (fun K hK => ?_) AllReadyH.nil
      go_simp
      go_wp2_with ((go_at_call 128; refine (specOwnerOf_any a4 _ ((HV.out.below HZ1.out HBB.out).mono (Nat.le_trans HBB.out HZ1.out.size)) (Nat.le_refl _)).mono ?_; rintro e w2 ⟨rfl, hb2⟩; have HZ2 := hid (below_step HZ1.out hb2); clear hb2))
      refine hK _ _ (by simpa using HS.out _ HZ2.out) (fun hSx => ?_)
      clear hK K
      try simp [Act.put]
      refine wpAnyH_take (i := 9) (v := .bool false) rfl (by kernel_rfl) (by kernel_rfl) (by kernel_rfl) (fun _ _ _ h => h) (Or.inl ⟨by rfl, fun wq hSw => by go_simp⟩) hSx ?_
      try simp [Act.put]
      refine wpAnyH_take (i := 10) (v := .bool false) rfl (by kernel_rfl) (by kernel_rfl) (by kernel_rfl) (fun _ _ _ h => h) (Or.inl ⟨by rfl, fun wq hSw => by go_simp⟩) hSx ?_
      try simp [Act.put]
      refine wpAnyH_take (i := 11) (v := .bool false) rfl (by kernel_rfl) (by kernel_rfl) (by kernel_rfl) (fun _ _ _ h => h) (Or.inl ⟨by rfl, fun wq hSw => by go_simp⟩) hSx ?_
      try simp [Act.put]
      refine wpAnyH_take (i := 12) (v := undef) rfl (by kernel_rfl) (by kernel_rfl) (by kernel_rfl) (fun _ _ _ h => h) (Or.inr ⟨by rfl, rfl⟩) hSx ?_
      try simp [Act.put]
      refine wpAnyH_take (i := 13) (v := undef) rfl (by kernel_rfl) (by kernel_rfl) (by kernel_rfl) (fun _ _ _ h => h) (Or.inr ⟨by rfl, rfl⟩) hSx ?_
      try simp [Act.put]
      refine wpAnyH_take (i := 14) (v := undef) rfl (by kernel_rfl) (by kernel_rfl) (by kernel_rfl) (fun _ _ _ h => h) (Or.inr ⟨by rfl, rfl⟩) hSx ?_
      try simp [Act.put]
      refine wpAnyH_take (i := 15) (v := undef) rfl (by kernel_rfl) (by kernel_rfl) (by kernel_rfl) (fun _ _ _ h => h) (Or.inr ⟨by rfl, rfl⟩) hSx ?_
      try simp [Act.put]
      refine wpAnyH_take (i := 16) (v := undef) rfl (by kernel_rfl) (by kernel_rfl) (by kernel_rfl) (fun _ _ _ h => h) (Or.inr ⟨by rfl, rfl⟩) hSx ?_
      try simp [Act.put]
      refine wpAnyH_take (i := 17) (v := undef) rfl (by kernel_rfl) (by kernel_rfl) (by kernel_rfl) (fun _ _ _ h => h) (Or.inr ⟨by rfl, rfl⟩) hSx ?_
      try simp [Act.put]
      refine wpAnyH_take (i := 18) (v := undef) rfl (by kernel_rfl) (by kernel_rfl) (by kernel_rfl) (fun _ _ _ h => h) (Or.inr ⟨by rfl, rfl⟩) hSx ?_
      try simp [Act.put]
      refine wpAnyH_take (i := 19) (v := undef) rfl (by kernel_rfl) (by kernel_rfl) (by kernel_rfl) (fun _ _ _ h => h) (Or.inr ⟨by rfl, rfl⟩) hSx ?_
      try simp [Act.put]
      refine wpAnyH_take (i := 20) (v := .bool false) rfl (by kernel_rfl) (by kernel_rfl) (by kernel_rfl) (fun _ _ _ h => h) (Or.inl ⟨by rfl, fun wq hSw => by go_simp⟩) hSx ?_
      try simp [Act.put]
      refine wpAnyH_take (i := 21) (v := .bool false) rfl (by kernel_rfl) (by kernel_rfl) (by kernel_rfl) (fun _ _ _ h => h) (Or.inl ⟨by rfl, fun wq hSw => by go_simp⟩) hSx ?_
      try simp [Act.put]
      refine wpAnyH_done (by kernel_rfl) ?_ _
      go_wp2
      go_ret
      exact ⟨ret_bool HT.out, below_step (below_alloc _ _) HZ2.out⟩
    · have HT := hid (checkMandateB_yes (ks := ks) hx hm)
      have HI : Hid (∀ W : World, Calls Try.prog 189 #[.agg #[iv a0, iv a1, iv a2, iv a3, iv a4, iv a5]] W (Ret (.bool true) W)) := hid fun W => by rw [← hx]; exact specIsMandate_any _ _ _ _ _ _ W
      clear hx
      go_enter Try.func179, Try.ntmps179
      go_wp2_with fail
      go_region_held3 (fun w' => w'.cell? ⟨w.heap.size, 0, none⟩ = some (iv a0) ∧ w'.cell? ⟨w.heap.size, 1, none⟩ = some (iv a1) ∧ w'.cell? ⟨w.heap.size, 2, none⟩ = some (iv a2) ∧ w'.cell? ⟨w.heap.size, 3, none⟩ = some (iv a3) ∧ w'.cell? ⟨w.heap.size, 4, none⟩ = some (iv a4) ∧ w'.cell? ⟨w.heap.size, 5, none⟩ = some (iv a5) ∧ Below (w.alloc (.cells #[iv a0, iv a1, iv a2, iv a3, iv a4, iv a5] 135)).heap.size (w.alloc (.cells #[iv a0, iv a1, iv a2, iv a3, iv a4, iv a5] 135)) w') (first | exact HS.out _ HX.drew | exact HS.out _ HZ1.out | exact HS.out _ HZ2.out | exact HS.out _ HZ3.out | exact HS.out _ HZ4.out | go_keep)
        (first | (go_at_call 189; refine (HI.out _).mono ?_; rintro e w1 ⟨rfl, hb1⟩; have HZ1 := hid (below_step HX.drew hb1); clear hb1) | (go_at_call 128; refine (specOwnerOf_any a4 _ ((HV.out.below HZ1.out HBB.out).mono (Nat.le_trans HBB.out HZ1.out.size)) (Nat.le_refl _)).mono ?_; rintro e w2 ⟨rfl, hb2⟩; have HZ2 := hid (below_step HZ1.out hb2); clear hb2) | (go_at_call 190; refine (specMandateInts_any _ _ _ _ _ _ _).mono ?_; rintro e w3 ⟨v3, rfl, ho3, hb3⟩; have HZ3 := hid (below_step HZ2.out hb3); have HO2 := hid ho3; clear hb3 ho3) | (go_at_call 172; refine (specCheckMark_any (zs := [105, a0, a1, a2, a3, a4]) _ _ _ ((HV.out.below HZ3.out HBB.out).mono (Nat.le_trans HBB.out HZ3.out.size)) (Own.si HO2.out) (Nat.le_refl _) (by simp)).mono ?_; rintro e w4 ⟨rfl, hb4⟩; have HZ4 := hid (below_step HZ3.out hb4); clear hb4))
      go_wp2
      go_ret
      exact ⟨ret_bool HT.out, below_step (below_alloc _ _) HZ4.out⟩

end Go.Proofs.Ytkdpfbodmfjkkaa
