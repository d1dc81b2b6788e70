/- CheckSignature of the program and of the reference return what the plain function says. No condition. -/
import Derived.Test.YtkdpfbodmfjkkaaRows
import Derived.Test.YtkdpfbodmfjkkaaPlain
import Derived.Test.YtkdpfbodmfjkkaaMark
import Derived.Test.YtkdpfbodmfjkkaaChkSignature
import Derived.Test.YtkdpfbodmfjkkaaIntsSignature
namespace Go.Proofs.Ytkdpfbodmfjkkaa
open Go.RowKit

def checkSignatureB (ks : List (List Int)) (a0 a1 a2 a3 a4 a5 a6 a7 a8 : Int) : Bool := signatureB a0 a1 a2 a3 a4 a5 a6 a7 a8 && checkMarkB a0 a8 ks [104, a0, a1, a2, a3, a4, a5, a6, a7]
theorem checkSignatureB_no {ks : List (List Int)} {a0 a1 a2 a3 a4 a5 a6 a7 a8 : Int} (h : signatureB a0 a1 a2 a3 a4 a5 a6 a7 a8 = false) : false = checkSignatureB ks a0 a1 a2 a3 a4 a5 a6 a7 a8 := by simp [checkSignatureB, h]
theorem checkSignatureB_yes {ks : List (List Int)} {a0 a1 a2 a3 a4 a5 a6 a7 a8 : Int} (h : signatureB a0 a1 a2 a3 a4 a5 a6 a7 a8 = true) : checkMarkB a0 a8 ks [104, a0, a1, a2, a3, a4, a5, a6, a7] = checkSignatureB ks a0 a1 a2 a3 a4 a5 a6 a7 a8 := by simp [checkSignatureB, h]

set_option maxHeartbeats 4000000 in
theorem implCheckSignature_any {B : Nat} {ks : List (List Int)} {v : Value} (a0 a1 a2 a3 a4 a5 a6 a7 a8 : Int) (w : World) (h : Sl B w 5 v ks) (hB : B ≤ w.heap.size) :
    Calls Try.prog 73 #[v, .agg #[iv a0, iv a1, iv a2, iv a3, iv a4, iv a5, iv a6, iv a7, iv a8]] w (Ret (.bool (checkSignatureB ks a0 a1 a2 a3 a4 a5 a6 a7 a8)) w) := by
  have HX : Below (w.alloc (.cells #[iv a0, iv a1, iv a2, iv a3, iv a4, iv a5, iv a6, iv a7, iv a8] 117)).heap.size (w.alloc (.cells #[iv a0, iv a1, iv a2, iv a3, iv a4, iv a5, iv a6, iv a7, iv a8] 117)) (w.alloc (.cells #[iv a0, iv a1, iv a2, iv a3, iv a4, iv a5, iv a6, iv a7, iv a8] 117)) := Below.refl _ _
  have hB1 : B ≤ (w.alloc (.cells #[iv a0, iv a1, iv a2, iv a3, iv a4, iv a5, iv a6, iv a7, iv a8] 117)).heap.size := by simp; omega
  have h1 : Sl B (w.alloc (.cells #[iv a0, iv a1, iv a2, iv a3, iv a4, iv a5, iv a6, iv a7, iv a8] 117)) 5 v ks := h.below (below_alloc _ _) hB
  have HS : Hid (∀ w' : World, Below (w.alloc (.cells #[iv a0, iv a1, iv a2, iv a3, iv a4, iv a5, iv a6, iv a7, iv a8] 117)).heap.size (w.alloc (.cells #[iv a0, iv a1, iv a2, iv a3, iv a4, iv a5, iv a6, iv a7, iv a8] 117)) w' → (w'.cell? ⟨w.heap.size, 0, none⟩ = some (iv a0) ∧ w'.cell? ⟨w.heap.size, 1, none⟩ = some (iv a1) ∧ w'.cell? ⟨w.heap.size, 2, none⟩ = some (iv a2) ∧ w'.cell? ⟨w.heap.size, 3, none⟩ = some (iv a3) ∧ w'.cell? ⟨w.heap.size, 4, none⟩ = some (iv a4) ∧ w'.cell? ⟨w.heap.size, 5, none⟩ = some (iv a5) ∧ w'.cell? ⟨w.heap.size, 6, none⟩ = some (iv a6) ∧ w'.cell? ⟨w.heap.size, 7, none⟩ = some (iv a7) ∧ w'.cell? ⟨w.heap.size, 8, none⟩ = some (iv a8) ∧ Below (w.alloc (.cells #[iv a0, iv a1, iv a2, iv a3, iv a4, iv a5, iv a6, iv a7, iv a8] 117)).heap.size (w.alloc (.cells #[iv a0, iv a1, iv a2, iv a3, iv a4, iv a5, iv a6, iv a7, iv a8] 117)) w')) := hid fun w' hx => ⟨(hx.cell (p := ⟨w.heap.size, 0, none⟩) (by simp)).trans (by simp [go_sem]), (hx.cell (p := ⟨w.heap.size, 1, none⟩) (by simp)).trans (by simp [go_sem]), (hx.cell (p := ⟨w.heap.size, 2, none⟩) (by simp)).trans (by simp [go_sem]), (hx.cell (p := ⟨w.heap.size, 3, none⟩) (by simp)).trans (by simp [go_sem]), (hx.cell (p := ⟨w.heap.size, 4, none⟩) (by simp)).trans (by simp [go_sem]), (hx.cell (p := ⟨w.heap.size, 5, none⟩) (by simp)).trans (by simp [go_sem]), (hx.cell (p := ⟨w.heap.size, 6, none⟩) (by simp)).trans (by simp [go_sem]), (hx.cell (p := ⟨w.heap.size, 7, none⟩) (by simp)).trans (by simp [go_sem]), (hx.cell (p := ⟨w.heap.size, 8, none⟩) (by simp)).trans (by simp [go_sem]), hx⟩
  have HV := hid h1
  have HBB := hid hB1
  clear h h1 hB1
  cases hx : signatureB a0 a1 a2 a3 a4 a5 a6 a7 a8
  · have HT := hid (checkSignatureB_no (ks := ks) hx)
    have HI : Hid (∀ W : World, Calls Try.prog 139 #[.agg #[iv a0, iv a1, iv a2, iv a3, iv a4, iv a5, iv a6, iv a7, iv a8]] W (Ret (.bool false) W)) := hid fun W => by rw [← hx]; exact implIsSignature_any _ _ _ _ _ _ _ _ _ W
    clear hx
    go_enter Try.func73, Try.ntmps73
    go_wp2_with fail
    refine wp_region_held_drew (S := fun w' => w'.cell? ⟨w.heap.size, 0, none⟩ = some (iv a0) ∧ w'.cell? ⟨w.heap.size, 1, none⟩ = some (iv a1) ∧ w'.cell? ⟨w.heap.size, 2, none⟩ = some (iv a2) ∧ w'.cell? ⟨w.heap.size, 3, none⟩ = some (iv a3) ∧ w'.cell? ⟨w.heap.size, 4, none⟩ = some (iv a4) ∧ w'.cell? ⟨w.heap.size, 5, none⟩ = some (iv a5) ∧ w'.cell? ⟨w.heap.size, 6, none⟩ = some (iv a6) ∧ w'.cell? ⟨w.heap.size, 7, none⟩ = some (iv a7) ∧ w'.cell? ⟨w.heap.size, 8, none⟩ = some (iv a8) ∧ Below (w.alloc (.cells #[iv a0, iv a1, iv a2, iv a3, iv a4, iv a5, iv a6, iv a7, iv a8] 117)).heap.size (w.alloc (.cells #[iv a0, iv a1, iv a2, iv a3, iv a4, iv a5, iv a6, iv a7, iv a8] 117)) w') (by kernel_rfl) (HS.out _ HX.drew) (fun hSx => ?_)
    refine wpAnyH_take (i := 0) (v := .agg #[iv a0, iv a1, iv a2, iv a3, iv a4, iv a5, iv a6, iv a7, iv a8]) rfl (by kernel_rfl) (by kernel_rfl) (by kernel_rfl) (fun _ _ _ h => h) (Or.inl ⟨by rfl, fun wq hSw => by go_simp⟩) hSx ?_
    try simp [Act.put]
    clear hSx
    refine wpAnyH_ready (rs := [1]) (by kernel_rfl) (by simp) ?_
    refine AllReadyH.cons rfl (fun K hK => ?_) AllReadyH.nil
    go_simp
    go_wp2_with ((go_at_call 139; refine (HI.out _).mono ?_; rintro e w1 ⟨rfl, hb1⟩; have HZ1 := hid (below_step HX.drew hb1); clear hb1))
    refine hK _ _ (by simpa using HS.out _ HZ1.out) (fun hSx => ?_)
    clear hK K
    try simp [Act.put]
    refine wpAnyH_take (i := 2) (v := .bool false) rfl (by kernel_rfl) (by kernel_rfl) (by kernel_rfl) (fun _ _ _ h => h) (Or.inl ⟨by rfl, fun wq hSw => by go_simp⟩) hSx ?_
    try simp [Act.put]
    refine wpAnyH_take (i := 3) (v := undef) rfl (by kernel_rfl) (by kernel_rfl) (by kernel_rfl) (fun _ _ _ h => h) (Or.inr ⟨by rfl, rfl⟩) hSx ?_
    try simp [Act.put]
    refine wpAnyH_take (i := 4) (v := undef) rfl (by kernel_rfl) (by kernel_rfl) (by kernel_rfl) (fun _ _ _ h => h) (Or.inr ⟨by rfl, rfl⟩) hSx ?_
    try simp [Act.put]
    refine wpAnyH_take (i := 5) (v := undef) rfl (by kernel_rfl) (by kernel_rfl) (by kernel_rfl) (fun _ _ _ h => h) (Or.inr ⟨by rfl, rfl⟩) hSx ?_
    try simp [Act.put]
    refine wpAnyH_take (i := 6) (v := undef) rfl (by kernel_rfl) (by kernel_rfl) (by kernel_rfl) (fun _ _ _ h => h) (Or.inr ⟨by rfl, rfl⟩) hSx ?_
    try simp [Act.put]
    refine wpAnyH_take (i := 7) (v := undef) rfl (by kernel_rfl) (by kernel_rfl) (by kernel_rfl) (fun _ _ _ h => h) (Or.inr ⟨by rfl, rfl⟩) hSx ?_
    try simp [Act.put]
    refine wpAnyH_take (i := 8) (v := undef) rfl (by kernel_rfl) (by kernel_rfl) (by kernel_rfl) (fun _ _ _ h => h) (Or.inr ⟨by rfl, rfl⟩) hSx ?_
    try simp [Act.put]
    refine wpAnyH_take (i := 9) (v := undef) rfl (by kernel_rfl) (by kernel_rfl) (by kernel_rfl) (fun _ _ _ h => h) (Or.inr ⟨by rfl, rfl⟩) hSx ?_
    try simp [Act.put]
    refine wpAnyH_take (i := 10) (v := undef) rfl (by kernel_rfl) (by kernel_rfl) (by kernel_rfl) (fun _ _ _ h => h) (Or.inr ⟨by rfl, rfl⟩) hSx ?_
    try simp [Act.put]
    refine wpAnyH_take (i := 11) (v := .bool false) rfl (by kernel_rfl) (by kernel_rfl) (by kernel_rfl) (fun _ _ _ h => h) (Or.inl ⟨by rfl, fun wq hSw => by go_simp⟩) hSx ?_
    try simp [Act.put]
    refine wpAnyH_take (i := 12) (v := .bool false) rfl (by kernel_rfl) (by kernel_rfl) (by kernel_rfl) (fun _ _ _ h => h) (Or.inl ⟨by rfl, fun wq hSw => by go_simp⟩) hSx ?_
    try simp [Act.put]
    refine wpAnyH_done (by kernel_rfl) ?_ _
    go_wp2
    go_ret
    exact ⟨ret_bool HT.out, below_step (below_alloc _ _) HZ1.out⟩
  · have HT := hid (checkSignatureB_yes (ks := ks) hx)
    have HI : Hid (∀ W : World, Calls Try.prog 139 #[.agg #[iv a0, iv a1, iv a2, iv a3, iv a4, iv a5, iv a6, iv a7, iv a8]] W (Ret (.bool true) W)) := hid fun W => by rw [← hx]; exact implIsSignature_any _ _ _ _ _ _ _ _ _ W
    clear hx
    go_enter Try.func73, Try.ntmps73
    go_wp2_with fail
    go_region_held3 (fun w' => w'.cell? ⟨w.heap.size, 0, none⟩ = some (iv a0) ∧ w'.cell? ⟨w.heap.size, 1, none⟩ = some (iv a1) ∧ w'.cell? ⟨w.heap.size, 2, none⟩ = some (iv a2) ∧ w'.cell? ⟨w.heap.size, 3, none⟩ = some (iv a3) ∧ w'.cell? ⟨w.heap.size, 4, none⟩ = some (iv a4) ∧ w'.cell? ⟨w.heap.size, 5, none⟩ = some (iv a5) ∧ w'.cell? ⟨w.heap.size, 6, none⟩ = some (iv a6) ∧ w'.cell? ⟨w.heap.size, 7, none⟩ = some (iv a7) ∧ w'.cell? ⟨w.heap.size, 8, none⟩ = some (iv a8) ∧ Below (w.alloc (.cells #[iv a0, iv a1, iv a2, iv a3, iv a4, iv a5, iv a6, iv a7, iv a8] 117)).heap.size (w.alloc (.cells #[iv a0, iv a1, iv a2, iv a3, iv a4, iv a5, iv a6, iv a7, iv a8] 117)) w') (first | exact HS.out _ HX.drew | exact HS.out _ HZ1.out | exact HS.out _ HZ2.out | exact HS.out _ HZ3.out | exact HS.out _ HZ4.out | go_keep)
      (first | (go_at_call 139; refine (HI.out _).mono ?_; rintro e w1 ⟨rfl, hb1⟩; have HZ1 := hid (below_step HX.drew hb1); clear hb1) | (go_at_call 140; refine (implSignatureInts_any _ _ _ _ _ _ _ _ _ _).mono ?_; rintro e w2 ⟨v2, rfl, ho2, hb2⟩; have HZ2 := hid (below_step HZ1.out hb2); have HO2 := hid ho2; clear hb2 ho2) | (go_at_call 38; refine (implCheckMark_any (zs := [104, a0, a1, a2, a3, a4, a5, a6, a7]) _ _ _ ((HV.out.below HZ2.out HBB.out).mono (Nat.le_trans HBB.out HZ2.out.size)) (Own.si HO2.out) (Nat.le_refl _) (by simp)).mono ?_; rintro e w3 ⟨rfl, hb3⟩; have HZ3 := hid (below_step HZ2.out hb3); clear hb3))
    go_wp2
    go_ret
    exact ⟨ret_bool HT.out, below_step (below_alloc _ _) HZ3.out⟩

set_option maxHeartbeats 4000000 in
theorem specCheckSignature_any {B : Nat} {ks : List (List Int)} {v : Value} (a0 a1 a2 a3 a4 a5 a6 a7 a8 : Int) (w : World) (h : Sl B w 5 v ks) (hB : B ≤ w.heap.size) :
    Calls Try.prog 127 #[v, .agg #[iv a0, iv a1, iv a2, iv a3, iv a4, iv a5, iv a6, iv a7, iv a8]] w (Ret (.bool (checkSignatureB ks a0 a1 a2 a3 a4 a5 a6 a7 a8)) w) := by
  have HX : Below (w.alloc (.cells #[iv a0, iv a1, iv a2, iv a3, iv a4, iv a5, iv a6, iv a7, iv a8] 117)).heap.size (w.alloc (.cells #[iv a0, iv a1, iv a2, iv a3, iv a4, iv a5, iv a6, iv a7, iv a8] 117)) (w.alloc (.cells #[iv a0, iv a1, iv a2, iv a3, iv a4, iv a5, iv a6, iv a7, iv a8] 117)) := Below.refl _ _
  have hB1 : B ≤ (w.alloc (.cells #[iv a0, iv a1, iv a2, iv a3, iv a4, iv a5, iv a6, iv a7, iv a8] 117)).heap.size := by simp; omega
  have h1 : Sl B (w.alloc (.cells #[iv a0, iv a1, iv a2, iv a3, iv a4, iv a5, iv a6, iv a7, iv a8] 117)) 5 v ks := h.below (below_alloc _ _) hB
  have HS : Hid (∀ w' : World, Below (w.alloc (.cells #[iv a0, iv a1, iv a2, iv a3, iv a4, iv a5, iv a6, iv a7, iv a8] 117)).heap.size (w.alloc (.cells #[iv a0, iv a1, iv a2, iv a3, iv a4, iv a5, iv a6, iv a7, iv a8] 117)) w' → (w'.cell? ⟨w.heap.size, 0, none⟩ = some (iv a0) ∧ w'.cell? ⟨w.heap.size, 1, none⟩ = some (iv a1) ∧ w'.cell? ⟨w.heap.size, 2, none⟩ = some (iv a2) ∧ w'.cell? ⟨w.heap.size, 3, none⟩ = some (iv a3) ∧ w'.cell? ⟨w.heap.size, 4, none⟩ = some (iv a4) ∧ w'.cell? ⟨w.heap.size, 5, none⟩ = some (iv a5) ∧ w'.cell? ⟨w.heap.size, 6, none⟩ = some (iv a6) ∧ w'.cell? ⟨w.heap.size, 7, none⟩ = some (iv a7) ∧ w'.cell? ⟨w.heap.size, 8, none⟩ = some (iv a8) ∧ Below (w.alloc (.cells #[iv a0, iv a1, iv a2, iv a3, iv a4, iv a5, iv a6, iv a7, iv a8] 117)).heap.size (w.alloc (.cells #[iv a0, iv a1, iv a2, iv a3, iv a4, iv a5, iv a6, iv a7, iv a8] 117)) w')) := hid fun w' hx => ⟨(hx.cell (p := ⟨w.heap.size, 0, none⟩) (by simp)).trans (by simp [go_sem]), (hx.cell (p := ⟨w.heap.size, 1, none⟩) (by simp)).trans (by simp [go_sem]), (hx.cell (p := ⟨w.heap.size, 2, none⟩) (by simp)).trans (by simp [go_sem]), (hx.cell (p := ⟨w.heap.size, 3, none⟩) (by simp)).trans (by simp [go_sem]), (hx.cell (p := ⟨w.heap.size, 4, none⟩) (by simp)).trans (by simp [go_sem]), (hx.cell (p := ⟨w.heap.size, 5, none⟩) (by simp)).trans (by simp [go_sem]), (hx.cell (p := ⟨w.heap.size, 6, none⟩) (by simp)).trans (by simp [go_sem]), (hx.cell (p := ⟨w.heap.size, 7, none⟩) (by simp)).trans (by simp [go_sem]), (hx.cell (p := ⟨w.heap.size, 8, none⟩) (by simp)).trans (by simp [go_sem]), hx⟩
  have HV := hid h1
  have HBB := hid hB1
  clear h h1 hB1
  cases hx : signatureB a0 a1 a2 a3 a4 a5 a6 a7 a8
  · have HT := hid (checkSignatureB_no (ks := ks) hx)
    have HI : Hid (∀ W : World, Calls Try.prog 171 #[.agg #[iv a0, iv a1, iv a2, iv a3, iv a4, iv a5, iv a6, iv a7, iv a8]] W (Ret (.bool false) W)) := hid fun W => by rw [← hx]; exact specIsSignature_any _ _ _ _ _ _ _ _ _ W
    clear hx
    go_enter Try.func127, Try.ntmps127
    go_wp2_with fail
    refine wp_region_held_drew (S := fun w' => w'.cell? ⟨w.heap.size, 0, none⟩ = some (iv a0) ∧ w'.cell? ⟨w.heap.size, 1, none⟩ = some (iv a1) ∧ w'.cell? ⟨w.heap.size, 2, none⟩ = some (iv a2) ∧ w'.cell? ⟨w.heap.size, 3, none⟩ = some (iv a3) ∧ w'.cell? ⟨w.heap.size, 4, none⟩ = some (iv a4) ∧ w'.cell? ⟨w.heap.size, 5, none⟩ = some (iv a5) ∧ w'.cell? ⟨w.heap.size, 6, none⟩ = some (iv a6) ∧ w'.cell? ⟨w.heap.size, 7, none⟩ = some (iv a7) ∧ w'.cell? ⟨w.heap.size, 8, none⟩ = some (iv a8) ∧ Below (w.alloc (.cells #[iv a0, iv a1, iv a2, iv a3, iv a4, iv a5, iv a6, iv a7, iv a8] 117)).heap.size (w.alloc (.cells #[iv a0, iv a1, iv a2, iv a3, iv a4, iv a5, iv a6, iv a7, iv a8] 117)) w') (by kernel_rfl) (HS.out _ HX.drew) (fun hSx => ?_)
    refine wpAnyH_take (i := 0) (v := .agg #[iv a0, iv a1, iv a2, iv a3, iv a4, iv a5, iv a6, iv a7, iv a8]) rfl (by kernel_rfl) (by kernel_rfl) (by kernel_rfl) (fun _ _ _ h => h) (Or.inl ⟨by rfl, fun wq hSw => by go_simp⟩) hSx ?_
    try simp [Act.put]
    clear hSx
    refine wpAnyH_ready (rs := [1]) (by kernel_rfl) (by simp) ?_
    refine AllReadyH.cons rfl (fun K hK => ?_) AllReadyH.nil
    go_simp
    go_wp2_with ((go_at_call 171; refine (HI.out _).mono ?_; rintro e w1 ⟨rfl, hb1⟩; have HZ1 := hid (below_step HX.drew hb1); clear hb1))
    refine hK _ _ (by simpa using HS.out _ HZ1.out) (fun hSx => ?_)
    clear hK K
    try simp [Act.put]
    refine wpAnyH_take (i := 2) (v := .bool false) rfl (by kernel_rfl) (by kernel_rfl) (by kernel_rfl) (fun _ _ _ h => h) (Or.inl ⟨by rfl, fun wq hSw => by go_simp⟩) hSx ?_
    try simp [Act.put]
    refine wpAnyH_take (i := 3) (v := undef) rfl (by kernel_rfl) (by kernel_rfl) (by kernel_rfl) (fun _ _ _ h => h) (Or.inr ⟨by rfl, rfl⟩) hSx ?_
    try simp [Act.put]
    refine wpAnyH_take (i := 4) (v := undef) rfl (by kernel_rfl) (by kernel_rfl) (by kernel_rfl) (fun _ _ _ h => h) (Or.inr ⟨by rfl, rfl⟩) hSx ?_
    try simp [Act.put]
    refine wpAnyH_take (i := 5) (v := undef) rfl (by kernel_rfl) (by kernel_rfl) (by kernel_rfl) (fun _ _ _ h => h) (Or.inr ⟨by rfl, rfl⟩) hSx ?_
    try simp [Act.put]
    refine wpAnyH_take (i := 6) (v := undef) rfl (by kernel_rfl) (by kernel_rfl) (by kernel_rfl) (fun _ _ _ h => h) (Or.inr ⟨by rfl, rfl⟩) hSx ?_
    try simp [Act.put]
    refine wpAnyH_take (i := 7) (v := undef) rfl (by kernel_rfl) (by kernel_rfl) (by kernel_rfl) (fun _ _ _ h => h) (Or.inr ⟨by rfl, rfl⟩) hSx ?_
    try simp [Act.put]
    refine wpAnyH_take (i := 8) (v := undef) rfl (by kernel_rfl) (by kernel_rfl) (by kernel_rfl) (fun _ _ _ h => h) (Or.inr ⟨by rfl, rfl⟩) hSx ?_
    try simp [Act.put]
    refine wpAnyH_take (i := 9) (v := undef) rfl (by kernel_rfl) (by kernel_rfl) (by kernel_rfl) (fun _ _ _ h => h) (Or.inr ⟨by rfl, rfl⟩) hSx ?_
    try simp [Act.put]
    refine wpAnyH_take (i := 10) (v := undef) rfl (by kernel_rfl) (by kernel_rfl) (by kernel_rfl) (fun _ _ _ h => h) (Or.inr ⟨by rfl, rfl⟩) hSx ?_
    try simp [Act.put]
    refine wpAnyH_take (i := 11) (v := .bool false) rfl (by kernel_rfl) (by kernel_rfl) (by kernel_rfl) (fun _ _ _ h => h) (Or.inl ⟨by rfl, fun wq hSw => by go_simp⟩) hSx ?_
    try simp [Act.put]
    refine wpAnyH_take (i := 12) (v := .bool false) rfl (by kernel_rfl) (by kernel_rfl) (by kernel_rfl) (fun _ _ _ h => h) (Or.inl ⟨by rfl, fun wq hSw => by go_simp⟩) hSx ?_
    try simp [Act.put]
    refine wpAnyH_done (by kernel_rfl) ?_ _
    go_wp2
    go_ret
    exact ⟨ret_bool HT.out, below_step (below_alloc _ _) HZ1.out⟩
  · have HT := hid (checkSignatureB_yes (ks := ks) hx)
    have HI : Hid (∀ W : World, Calls Try.prog 171 #[.agg #[iv a0, iv a1, iv a2, iv a3, iv a4, iv a5, iv a6, iv a7, iv a8]] W (Ret (.bool true) W)) := hid fun W => by rw [← hx]; exact specIsSignature_any _ _ _ _ _ _ _ _ _ W
    clear hx
    go_enter Try.func127, Try.ntmps127
    go_wp2_with fail
    go_region_held3 (fun w' => w'.cell? ⟨w.heap.size, 0, none⟩ = some (iv a0) ∧ w'.cell? ⟨w.heap.size, 1, none⟩ = some (iv a1) ∧ w'.cell? ⟨w.heap.size, 2, none⟩ = some (iv a2) ∧ w'.cell? ⟨w.heap.size, 3, none⟩ = some (iv a3) ∧ w'.cell? ⟨w.heap.size, 4, none⟩ = some (iv a4) ∧ w'.cell? ⟨w.heap.size, 5, none⟩ = some (iv a5) ∧ w'.cell? ⟨w.heap.size, 6, none⟩ = some (iv a6) ∧ w'.cell? ⟨w.heap.size, 7, none⟩ = some (iv a7) ∧ w'.cell? ⟨w.heap.size, 8, none⟩ = some (iv a8) ∧ Below (w.alloc (.cells #[iv a0, iv a1, iv a2, iv a3, iv a4, iv a5, iv a6, iv a7, iv a8] 117)).heap.size (w.alloc (.cells #[iv a0, iv a1, iv a2, iv a3, iv a4, iv a5, iv a6, iv a7, iv a8] 117)) w') (first | exact HS.out _ HX.drew | exact HS.out _ HZ1.out | exact HS.out _ HZ2.out | exact HS.out _ HZ3.out | exact HS.out _ HZ4.out | go_keep)
      (first | (go_at_call 171; refine (HI.out _).mono ?_; rintro e w1 ⟨rfl, hb1⟩; have HZ1 := hid (below_step HX.drew hb1); clear hb1) | (go_at_call 160; refine (specSignatureInts_any _ _ _ _ _ _ _ _ _ _).mono ?_; rintro e w2 ⟨v2, rfl, ho2, hb2⟩; have HZ2 := hid (below_step HZ1.out hb2); have HO2 := hid ho2; clear hb2 ho2) | (go_at_call 172; refine (specCheckMark_any (zs := [104, a0, a1, a2, a3, a4, a5, a6, a7]) _ _ _ ((HV.out.below HZ2.out HBB.out).mono (Nat.le_trans HBB.out HZ2.out.size)) (Own.si HO2.out) (Nat.le_refl _) (by simp)).mono ?_; rintro e w3 ⟨rfl, hb3⟩; have HZ3 := hid (below_step HZ2.out hb3); clear hb3))
    go_wp2
    go_ret
    exact ⟨ret_bool HT.out, below_step (below_alloc _ _) HZ3.out⟩

end Go.Proofs.Ytkdpfbodmfjkkaa
