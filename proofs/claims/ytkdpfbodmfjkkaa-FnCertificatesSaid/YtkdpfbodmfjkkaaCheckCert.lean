/- CheckCert of the program and of the reference return what the plain function says. No condition. -/
import Derived.Test.YtkdpfbodmfjkkaaRows
import Derived.Test.YtkdpfbodmfjkkaaPlain
import Derived.Test.YtkdpfbodmfjkkaaMark
import Derived.Test.YtkdpfbodmfjkkaaChkCert
import Derived.Test.YtkdpfbodmfjkkaaIntsCert
namespace Go.Proofs.Ytkdpfbodmfjkkaa
open Go.RowKit

def checkCertB (ks : List (List Int)) (a0 a1 a2 a3 a4 a5 a6 : Int) : Bool := certB a0 a1 a2 a3 a4 a5 a6 && checkMarkB a5 a6 ks [101, a0, a1, a2, a3, a4, a5] && (a2 == ownerOf a1 ks)
theorem checkCertB_no {ks : List (List Int)} {a0 a1 a2 a3 a4 a5 a6 : Int} (h : certB a0 a1 a2 a3 a4 a5 a6 = false) : false = checkCertB ks a0 a1 a2 a3 a4 a5 a6 := by simp [checkCertB, h]
theorem beqc (x y : Int) : (x == y) = (y == x) := by rw [Bool.eq_iff_iff]; simp only [beq_iff_eq]; exact eq_comm
theorem checkCertB_mid {ks : List (List Int)} {a0 a1 a2 a3 a4 a5 a6 : Int} (h2 : checkMarkB a5 a6 ks [101, a0, a1, a2, a3, a4, a5] = false) : false = checkCertB ks a0 a1 a2 a3 a4 a5 a6 := by simp [checkCertB, h2]
theorem checkCertB_yes {ks : List (List Int)} {a0 a1 a2 a3 a4 a5 a6 : Int} (h : certB a0 a1 a2 a3 a4 a5 a6 = true) (h2 : checkMarkB a5 a6 ks [101, a0, a1, a2, a3, a4, a5] = true) : (a2 == ownerOf a1 ks) = checkCertB ks a0 a1 a2 a3 a4 a5 a6 := by simp [checkCertB, h, h2]

set_option maxHeartbeats 4000000 in
theorem implCheckCert_any {B : Nat} {ks : List (List Int)} {v : Value} (a0 a1 a2 a3 a4 a5 a6 : Int) (w : World) (h : Sl B w 5 v ks) (hB : B ≤ w.heap.size) :
    Calls Try.prog 50 #[v, .agg #[iv a0, iv a1, iv a2, iv a3, iv a4, iv a5, iv a6]] w (Ret (.bool (checkCertB ks a0 a1 a2 a3 a4 a5 a6)) w) := by
  have HX : Below (w.alloc (.cells #[iv a0, iv a1, iv a2, iv a3, iv a4, iv a5, iv a6] 74)).heap.size (w.alloc (.cells #[iv a0, iv a1, iv a2, iv a3, iv a4, iv a5, iv a6] 74)) (w.alloc (.cells #[iv a0, iv a1, iv a2, iv a3, iv a4, iv a5, iv a6] 74)) := Below.refl _ _
  have hB1 : B ≤ (w.alloc (.cells #[iv a0, iv a1, iv a2, iv a3, iv a4, iv a5, iv a6] 74)).heap.size := by simp; omega
  have h1 : Sl B (w.alloc (.cells #[iv a0, iv a1, iv a2, iv a3, iv a4, iv a5, iv a6] 74)) 5 v ks := h.below (below_alloc _ _) hB
  have HS : Hid (∀ w' : World, Below (w.alloc (.cells #[iv a0, iv a1, iv a2, iv a3, iv a4, iv a5, iv a6] 74)).heap.size (w.alloc (.cells #[iv a0, iv a1, iv a2, iv a3, iv a4, iv a5, iv a6] 74)) w' → (w'.cell? ⟨w.heap.size, 0, none⟩ = some (iv a0) ∧ w'.cell? ⟨w.heap.size, 1, none⟩ = some (iv a1) ∧ w'.cell? ⟨w.heap.size, 2, none⟩ = some (iv a2) ∧ w'.cell? ⟨w.heap.size, 3, none⟩ = some (iv a3) ∧ w'.cell? ⟨w.heap.size, 4, none⟩ = some (iv a4) ∧ w'.cell? ⟨w.heap.size, 5, none⟩ = some (iv a5) ∧ w'.cell? ⟨w.heap.size, 6, none⟩ = some (iv a6) ∧ Below (w.alloc (.cells #[iv a0, iv a1, iv a2, iv a3, iv a4, iv a5, iv a6] 74)).heap.size (w.alloc (.cells #[iv a0, iv a1, iv a2, iv a3, iv a4, iv a5, iv a6] 74)) w')) := hid fun w' hx => ⟨(hx.cell (p := ⟨w.heap.size, 0, none⟩) (by simp)).trans (by simp [go_sem]), (hx.cell (p := ⟨w.heap.size, 1, none⟩) (by simp)).trans (by simp [go_sem]), (hx.cell (p := ⟨w.heap.size, 2, none⟩) (by simp)).trans (by simp [go_sem]), (hx.cell (p := ⟨w.heap.size, 3, none⟩) (by simp)).trans (by simp [go_sem]), (hx.cell (p := ⟨w.heap.size, 4, none⟩) (by simp)).trans (by simp [go_sem]), (hx.cell (p := ⟨w.heap.size, 5, none⟩) (by simp)).trans (by simp [go_sem]), (hx.cell (p := ⟨w.heap.size, 6, none⟩) (by simp)).trans (by simp [go_sem]), hx⟩
  have HV := hid h1
  have HBB := hid hB1
  clear h h1 hB1
  cases hx : certB a0 a1 a2 a3 a4 a5 a6
  · have HT := hid (checkCertB_no (ks := ks) hx)
    have HI : Hid (∀ W : World, Calls Try.prog 51 #[.agg #[iv a0, iv a1, iv a2, iv a3, iv a4, iv a5, iv a6]] W (Ret (.bool false) W)) := hid fun W => by rw [← hx]; exact implIsCert_any _ _ _ _ _ _ _ W
    clear hx
    go_enter Try.func50, Try.ntmps50
    go_wp2_with fail
    refine wp_region_held_drew (S := fun w' => w'.cell? ⟨w.heap.size, 0, none⟩ = some (iv a0) ∧ w'.cell? ⟨w.heap.size, 1, none⟩ = some (iv a1) ∧ w'.cell? ⟨w.heap.size, 2, none⟩ = some (iv a2) ∧ w'.cell? ⟨w.heap.size, 3, none⟩ = some (iv a3) ∧ w'.cell? ⟨w.heap.size, 4, none⟩ = some (iv a4) ∧ w'.cell? ⟨w.heap.size, 5, none⟩ = some (iv a5) ∧ w'.cell? ⟨w.heap.size, 6, none⟩ = some (iv a6) ∧ Below (w.alloc (.cells #[iv a0, iv a1, iv a2, iv a3, iv a4, iv a5, iv a6] 74)).heap.size (w.alloc (.cells #[iv a0, iv a1, iv a2, iv a3, iv a4, iv a5, iv a6] 74)) w') (by kernel_rfl) (HS.out _ HX.drew) (fun hSx => ?_)
    refine wpAnyH_take (i := 0) (v := .agg #[iv a0, iv a1, iv a2, iv a3, iv a4, iv a5, iv a6]) rfl (by kernel_rfl) (by kernel_rfl) (by kernel_rfl) (fun _ _ _ h => h) (Or.inl ⟨by rfl, fun wq hSw => by go_simp⟩) hSx ?_
    try simp [Act.put]
    clear hSx
    refine wpAnyH_ready (rs := [1]) (by kernel_rfl) (by simp) ?_
    refine AllReadyH.cons rfl (fun K hK => ?_) AllReadyH.nil
    go_simp
    go_wp2_with ((go_at_call 51; refine (HI.out _).mono ?_; rintro e w1 ⟨rfl, hb1⟩; have HZ1 := hid (below_step HX.drew hb1); clear hb1))
    refine hK _ _ (by simpa using HS.out _ HZ1.out) (fun hSx => ?_)
    clear hK K
    try simp [Act.put]
    refine wpAnyH_take (i := 2) (v := .bool false) rfl (by kernel_rfl) (by kernel_rfl) (by kernel_rfl) (fun _ _ _ h => h) (Or.inl ⟨by rfl, fun wq hSw => by go_simp⟩) hSx ?_
    try simp [Act.put]
    refine wpAnyH_take (i := 3) (v := undef) rfl (by kernel_rfl) (by kernel_rfl) (by kernel_rfl) (fun _ _ _ h => h) (Or.inr ⟨by rfl, rfl⟩) hSx ?_
    try simp [Act.put]
    refine wpAnyH_take (i := 4) (v := undef) rfl (by kernel_rfl) (by kernel_rfl) (by kernel_rfl) (fun _ _ _ h => h) (Or.inr ⟨by rfl, rfl⟩) hSx ?_
    try simp [Act.put]
    refine wpAnyH_take (i := 5) (v := undef) rfl (by kernel_rfl) (by kernel_rfl) (by kernel_rfl) (fun _ _ _ h => h) (Or.inr ⟨by rfl, rfl⟩) hSx ?_
    try simp [Act.put]
    refine wpAnyH_take (i := 6) (v := undef) rfl (by kernel_rfl) (by kernel_rfl) (by kernel_rfl) (fun _ _ _ h => h) (Or.inr ⟨by rfl, rfl⟩) hSx ?_
    try simp [Act.put]
    refine wpAnyH_take (i := 7) (v := undef) rfl (by kernel_rfl) (by kernel_rfl) (by kernel_rfl) (fun _ _ _ h => h) (Or.inr ⟨by rfl, rfl⟩) hSx ?_
    try simp [Act.put]
    refine wpAnyH_take (i := 8) (v := undef) rfl (by kernel_rfl) (by kernel_rfl) (by kernel_rfl) (fun _ _ _ h => h) (Or.inr ⟨by rfl, rfl⟩) hSx ?_
    try simp [Act.put]
    refine wpAnyH_take (i := 9) (v := undef) rfl (by kernel_rfl) (by kernel_rfl) (by kernel_rfl) (fun _ _ _ h => h) (Or.inr ⟨by rfl, rfl⟩) hSx ?_
    try simp [Act.put]
    refine wpAnyH_take (i := 10) (v := undef) rfl (by kernel_rfl) (by kernel_rfl) (by kernel_rfl) (fun _ _ _ h => h) (Or.inr ⟨by rfl, rfl⟩) hSx ?_
    try simp [Act.put]
    refine wpAnyH_take (i := 11) (v := .bool false) rfl (by kernel_rfl) (by kernel_rfl) (by kernel_rfl) (fun _ _ _ h => h) (Or.inl ⟨by rfl, fun wq hSw => by go_simp⟩) hSx ?_
    try simp [Act.put]
    refine wpAnyH_take (i := 12) (v := .bool false) rfl (by kernel_rfl) (by kernel_rfl) (by kernel_rfl) (fun _ _ _ h => h) (Or.inl ⟨by rfl, fun wq hSw => by go_simp⟩) hSx ?_
    try simp [Act.put]
    refine wpAnyH_take (i := 13) (v := undef) rfl (by kernel_rfl) (by kernel_rfl) (by kernel_rfl) (fun _ _ _ h => h) (Or.inr ⟨by rfl, rfl⟩) hSx ?_
    try simp [Act.put]
    refine wpAnyH_take (i := 14) (v := undef) rfl (by kernel_rfl) (by kernel_rfl) (by kernel_rfl) (fun _ _ _ h => h) (Or.inr ⟨by rfl, rfl⟩) hSx ?_
    try simp [Act.put]
    refine wpAnyH_take (i := 15) (v := undef) rfl (by kernel_rfl) (by kernel_rfl) (by kernel_rfl) (fun _ _ _ h => h) (Or.inr ⟨by rfl, rfl⟩) hSx ?_
    try simp [Act.put]
    refine wpAnyH_take (i := 16) (v := undef) rfl (by kernel_rfl) (by kernel_rfl) (by kernel_rfl) (fun _ _ _ h => h) (Or.inr ⟨by rfl, rfl⟩) hSx ?_
    try simp [Act.put]
    refine wpAnyH_take (i := 17) (v := undef) rfl (by kernel_rfl) (by kernel_rfl) (by kernel_rfl) (fun _ _ _ h => h) (Or.inr ⟨by rfl, rfl⟩) hSx ?_
    try simp [Act.put]
    refine wpAnyH_take (i := 18) (v := undef) rfl (by kernel_rfl) (by kernel_rfl) (by kernel_rfl) (fun _ _ _ h => h) (Or.inr ⟨by rfl, rfl⟩) hSx ?_
    try simp [Act.put]
    refine wpAnyH_take (i := 19) (v := undef) rfl (by kernel_rfl) (by kernel_rfl) (by kernel_rfl) (fun _ _ _ h => h) (Or.inr ⟨by rfl, rfl⟩) hSx ?_
    try simp [Act.put]
    refine wpAnyH_take (i := 20) (v := .bool false) rfl (by kernel_rfl) (by kernel_rfl) (by kernel_rfl) (fun _ _ _ h => h) (Or.inl ⟨by rfl, fun wq hSw => by go_simp⟩) hSx ?_
    try simp [Act.put]
    refine wpAnyH_take (i := 21) (v := .bool false) rfl (by kernel_rfl) (by kernel_rfl) (by kernel_rfl) (fun _ _ _ h => h) (Or.inl ⟨by rfl, fun wq hSw => by go_simp⟩) hSx ?_
    try simp [Act.put]
    refine wpAnyH_done (by kernel_rfl) ?_ _
    go_wp2
    go_ret
    exact ⟨ret_bool HT.out, below_step (below_alloc _ _) HZ1.out⟩
  · cases hm : checkMarkB a5 a6 ks [101, a0, a1, a2, a3, a4, a5]
    · have HT := hid (checkCertB_mid (a0 := a0) (a1 := a1) (a2 := a2) (a3 := a3) (a4 := a4) (a5 := a5) (a6 := a6) (ks := ks) hm)
      have HM := hid hm
      have HI : Hid (∀ W : World, Calls Try.prog 51 #[.agg #[iv a0, iv a1, iv a2, iv a3, iv a4, iv a5, iv a6]] W (Ret (.bool true) W)) := hid fun W => by rw [← hx]; exact implIsCert_any _ _ _ _ _ _ _ W
      clear hx hm
      go_enter Try.func50, Try.ntmps50
      go_wp2_with fail
      refine wp_region_held_drew (S := fun w' => w'.cell? ⟨w.heap.size, 0, none⟩ = some (iv a0) ∧ w'.cell? ⟨w.heap.size, 1, none⟩ = some (iv a1) ∧ w'.cell? ⟨w.heap.size, 2, none⟩ = some (iv a2) ∧ w'.cell? ⟨w.heap.size, 3, none⟩ = some (iv a3) ∧ w'.cell? ⟨w.heap.size, 4, none⟩ = some (iv a4) ∧ w'.cell? ⟨w.heap.size, 5, none⟩ = some (iv a5) ∧ w'.cell? ⟨w.heap.size, 6, none⟩ = some (iv a6) ∧ Below (w.alloc (.cells #[iv a0, iv a1, iv a2, iv a3, iv a4, iv a5, iv a6] 74)).heap.size (w.alloc (.cells #[iv a0, iv a1, iv a2, iv a3, iv a4, iv a5, iv a6] 74)) w') (by kernel_rfl) (HS.out _ HX.drew) (fun hSx => ?_)
      refine wpAnyH_take (i := 0) (v := .agg #[iv a0, iv a1, iv a2, iv a3, iv a4, iv a5, iv a6]) rfl (by kernel_rfl) (by kernel_rfl) (by kernel_rfl) (fun _ _ _ h => h) (Or.inl ⟨by rfl, fun wq hSw => by go_simp⟩) hSx ?_
      try simp [Act.put]
      clear hSx
      refine wpAnyH_ready (rs := [1]) (by kernel_rfl) (by simp) ?_
      refine AllReadyH.cons rfl (fun K hK => ?_) AllReadyH.nil
      go_simp
      go_wp2_with ((go_at_call 51; refine (HI.out _).mono ?_; rintro e w1 ⟨rfl, hb1⟩; have HZ1 := hid (below_step HX.drew hb1); clear hb1))
      refine hK _ _ (by simpa using HS.out _ HZ1.out) (fun hSx => ?_)
      clear hK K
      try simp [Act.put]
      refine wpAnyH_take (i := 2) (v := .bool true) rfl (by kernel_rfl) (by kernel_rfl) (by kernel_rfl) (fun _ _ _ h => h) (Or.inl ⟨by rfl, fun wq hSw => by go_simp⟩) hSx ?_
      try simp [Act.put]
      refine wpAnyH_take (i := 3) (v := v) rfl (by kernel_rfl) (by kernel_rfl) (by kernel_rfl) (fun _ _ _ h => h) (Or.inl ⟨by rfl, fun wq hSw => by go_simp⟩) hSx ?_
      try simp [Act.put]
      refine wpAnyH_take (i := 4) (v := .pointer (some ⟨w.heap.size, 5, none⟩)) rfl (by kernel_rfl) (by kernel_rfl) (by kernel_rfl) (fun _ _ _ h => h) (Or.inl ⟨by rfl, fun wq hSw => by go_simp⟩) hSx ?_
      try simp [Act.put]
      refine wpAnyH_take (i := 5) (v := iv a5) rfl (by kernel_rfl) (by kernel_rfl) (by kernel_rfl) (fun _ _ _ h => h) (Or.inl ⟨by rfl, fun wq hSw => by go_simp⟩) hSx ?_
      try simp [Act.put]
      refine wpAnyH_take (i := 6) (v := .agg #[iv a0, iv a1, iv a2, iv a3, iv a4, iv a5, iv a6]) rfl (by kernel_rfl) (by kernel_rfl) (by kernel_rfl) (fun _ _ _ h => h) (Or.inl ⟨by rfl, fun wq hSw => by go_simp⟩) hSx ?_
      try simp [Act.put]
      refine wpAnyH_take (i := 8) (v := .pointer (some ⟨w.heap.size, 6, none⟩)) rfl (by kernel_rfl) (by kernel_rfl) (by kernel_rfl) (fun _ _ _ h => h) (Or.inl ⟨by rfl, fun wq hSw => by go_simp⟩) hSx ?_
      try simp [Act.put]
      refine wpAnyH_take (i := 9) (v := iv a6) rfl (by kernel_rfl) (by kernel_rfl) (by kernel_rfl) (fun _ _ _ h => h) (Or.inl ⟨by rfl, fun wq hSw => by go_simp⟩) hSx ?_
      try simp [Act.put]
      clear hSx
      refine wpAnyH_ready (rs := [7]) (by kernel_rfl) (by simp) ?_
      refine AllReadyH.cons rfl (fun K hK => ?_) AllReadyH.nil
      go_simp
      go_wp2_with ((go_at_call 120; refine (implCertInts_any _ _ _ _ _ _ _ _).mono ?_; rintro e w2 ⟨v2, rfl, ho2, hb2⟩; have HZ2 := hid (below_step HZ1.out hb2); have HO2 := hid ho2; clear hb2 ho2))
      refine hK _ _ (by simpa using HS.out _ HZ2.out) (fun hSx => ?_)
      clear hK K
      try simp [Act.put]
      clear hSx
      refine wpAnyH_ready (rs := [10]) (by kernel_rfl) (by simp) ?_
      refine AllReadyH.cons rfl (fun K hK => ?_) AllReadyH.nil
      go_simp
      go_wp2_with ((go_at_call 38; refine (ret_cast (y := .bool false) (by rw [HM.out]) (implCheckMark_any (zs := [101, a0, a1, a2, a3, a4, a5]) _ _ _ ((HV.out.below HZ2.out HBB.out).mono (Nat.le_trans HBB.out HZ2.out.size)) (Own.si HO2.out) (Nat.le_refl _) (by simp))).mono ?_; rintro e w3 ⟨rfl, hb3⟩; have HZ3 := hid (below_step HZ2.out hb3); clear hb3))
      refine hK _ _ (by simpa using HS.out _ HZ3.out) (fun hSx => ?_)
      clear hK K
      try simp [Act.put]
      refine wpAnyH_take (i := 11) (v := .bool false) rfl (by kernel_rfl) (by kernel_rfl) (by kernel_rfl) (fun _ _ _ h => h) (Or.inl ⟨by rfl, fun wq hSw => by go_simp⟩) hSx ?_
      try simp [Act.put]
      refine wpAnyH_take (i := 12) (v := .bool false) rfl (by kernel_rfl) (by kernel_rfl) (by kernel_rfl) (fun _ _ _ h => h) (Or.inl ⟨by rfl, fun wq hSw => by go_simp⟩) hSx ?_
      try simp [Act.put]
      refine wpAnyH_take (i := 13) (v := undef) rfl (by kernel_rfl) (by kernel_rfl) (by kernel_rfl) (fun _ _ _ h => h) (Or.inr ⟨by rfl, rfl⟩) hSx ?_
      try simp [Act.put]
      refine wpAnyH_take (i := 14) (v := undef) rfl (by kernel_rfl) (by kernel_rfl) (by kernel_rfl) (fun _ _ _ h => h) (Or.inr ⟨by rfl, rfl⟩) hSx ?_
      try simp [Act.put]
      refine wpAnyH_take (i := 15) (v := undef) rfl (by kernel_rfl) (by kernel_rfl) (by kernel_rfl) (fun _ _ _ h => h) (Or.inr ⟨by rfl, rfl⟩) hSx ?_
      try simp [Act.put]
      refine wpAnyH_take (i := 16) (v := undef) rfl (by kernel_rfl) (by kernel_rfl) (by kernel_rfl) (fun _ _ _ h => h) (Or.inr ⟨by rfl, rfl⟩) hSx ?_
      try simp [Act.put]
      refine wpAnyH_take (i := 17) (v := undef) rfl (by kernel_rfl) (by kernel_rfl) (by kernel_rfl) (fun _ _ _ h => h) (Or.inr ⟨by rfl, rfl⟩) hSx ?_
      try simp [Act.put]
      refine wpAnyH_take (i := 18) (v := undef) rfl (by kernel_rfl) (by kernel_rfl) (by kernel_rfl) (fun _ _ _ h => h) (Or.inr ⟨by rfl, rfl⟩) hSx ?_
      try simp [Act.put]
      refine wpAnyH_take (i := 19) (v := undef) rfl (by kernel_rfl) (by kernel_rfl) (by kernel_rfl) (fun _ _ _ h => h) (Or.inr ⟨by rfl, rfl⟩) hSx ?_
      try simp [Act.put]
      refine wpAnyH_take (i := 20) (v := .bool false) rfl (by kernel_rfl) (by kernel_rfl) (by kernel_rfl) (fun _ _ _ h => h) (Or.inl ⟨by rfl, fun wq hSw => by go_simp⟩) hSx ?_
      try simp [Act.put]
      refine wpAnyH_take (i := 21) (v := .bool false) rfl (by kernel_rfl) (by kernel_rfl) (by kernel_rfl) (fun _ _ _ h => h) (Or.inl ⟨by rfl, fun wq hSw => by go_simp⟩) hSx ?_
      try simp [Act.put]
      refine wpAnyH_done (by kernel_rfl) ?_ _
      go_wp2
      go_ret
      exact ⟨ret_bool HT.out, below_step (below_alloc _ _) HZ3.out⟩
    · have HT := hid (checkCertB_yes (ks := ks) hx hm)
      have HM := hid hm
      have HI : Hid (∀ W : World, Calls Try.prog 51 #[.agg #[iv a0, iv a1, iv a2, iv a3, iv a4, iv a5, iv a6]] W (Ret (.bool true) W)) := hid fun W => by rw [← hx]; exact implIsCert_any _ _ _ _ _ _ _ W
      clear hx hm
      go_enter Try.func50, Try.ntmps50
      go_wp2_with fail
      go_region_held3 (fun w' => w'.cell? ⟨w.heap.size, 0, none⟩ = some (iv a0) ∧ w'.cell? ⟨w.heap.size, 1, none⟩ = some (iv a1) ∧ w'.cell? ⟨w.heap.size, 2, none⟩ = some (iv a2) ∧ w'.cell? ⟨w.heap.size, 3, none⟩ = some (iv a3) ∧ w'.cell? ⟨w.heap.size, 4, none⟩ = some (iv a4) ∧ w'.cell? ⟨w.heap.size, 5, none⟩ = some (iv a5) ∧ w'.cell? ⟨w.heap.size, 6, none⟩ = some (iv a6) ∧ Below (w.alloc (.cells #[iv a0, iv a1, iv a2, iv a3, iv a4, iv a5, iv a6] 74)).heap.size (w.alloc (.cells #[iv a0, iv a1, iv a2, iv a3, iv a4, iv a5, iv a6] 74)) w') (first | exact HS.out _ HX.drew | exact HS.out _ HZ1.out | exact HS.out _ HZ2.out | exact HS.out _ HZ3.out | exact HS.out _ HZ4.out | go_keep)
        (first | (go_at_call 51; refine (HI.out _).mono ?_; rintro e w1 ⟨rfl, hb1⟩; have HZ1 := hid (below_step HX.drew hb1); clear hb1) | (go_at_call 120; refine (implCertInts_any _ _ _ _ _ _ _ _).mono ?_; rintro e w2 ⟨v2, rfl, ho2, hb2⟩; have HZ2 := hid (below_step HZ1.out hb2); have HO2 := hid ho2; clear hb2 ho2) | (go_at_call 38; refine (ret_cast (y := .bool true) (by rw [HM.out]) (implCheckMark_any (zs := [101, a0, a1, a2, a3, a4, a5]) _ _ _ ((HV.out.below HZ2.out HBB.out).mono (Nat.le_trans HBB.out HZ2.out.size)) (Own.si HO2.out) (Nat.le_refl _) (by simp))).mono ?_; rintro e w3 ⟨rfl, hb3⟩; have HZ3 := hid (below_step HZ2.out hb3); clear hb3) | (go_at_call 46; refine (implOwnerOf_any a1 _ ((HV.out.below HZ3.out HBB.out).mono (Nat.le_trans HBB.out HZ3.out.size)) (Nat.le_refl _)).mono ?_; rintro e w4 ⟨rfl, hb4⟩; have HZ4 := hid (below_step HZ3.out hb4); clear hb4))
      go_wp2
      go_ret
      exact ⟨ret_bool (by first | exact HT.out | exact (beqc _ _).trans HT.out), below_step (below_alloc _ _) HZ4.out⟩


end Go.Proofs.Ytkdpfbodmfjkkaa
