/- SignDigest of the program and of the reference return the marked value and true where it is valid and the key is there, else the zero value and false. No condition. -/
import Derived.Test.YtkdpfbodmfjkkaaRows
import Derived.Test.YtkdpfbodmfjkkaaPlain
import Derived.Test.YtkdpfbodmfjkkaaMark
import Derived.Test.YtkdpfbodmfjkkaaChkSignature
import Derived.Test.YtkdpfbodmfjkkaaIntsSignature
namespace Go.Proofs.Ytkdpfbodmfjkkaa
open Go.RowKit

set_option maxHeartbeats 4000000 in
theorem implSignDigest_any_yes {B : Nat} {ks : List (List Int)} {v : Value} (a0 a1 a2 a3 a4 a5 a6 a7 a8 : Int) (w : World) (h : Sl B w 5 v ks) (hB : B ≤ w.heap.size) (hx : signatureB a0 a1 a2 a3 a4 a5 a6 a7 a8 = true) (k : Nat) (hk : k < ks.length) (hf : findI 0 a0 ks = (k : Int)) :
    Calls Try.prog 138 #[v, .agg #[iv a0, iv a1, iv a2, iv a3, iv a4, iv a5, iv a6, iv a7, iv a8]] w (Ret (.tuple #[.agg #[iv a0, iv a1, iv a2, iv a3, iv a4, iv a5, iv a6, iv a7, iv (markW (fld ks k 2) (fld ks k 4) [104, a0, a1, a2, a3, a4, a5, a6, a7])], .bool true]) w) := by
  obtain ⟨m, hm⟩ : ∃ m : Int, m = (markW (fld ks k 2) (fld ks k 4) [104, a0, a1, a2, a3, a4, a5, a6, a7]) := ⟨_, rfl⟩
  rw [← hm]
  have HM := hid hm
  clear hm
  have HX : Below ((w.alloc (.cells #[iv a0, iv a1, iv a2, iv a3, iv a4, iv a5, iv a6, iv a7, iv a8] 117)).alloc (.cells #[iv 0, iv 0, iv 0, iv 0, iv 0, iv 0, iv 0, iv 0, iv 0] 117)).heap.size ((w.alloc (.cells #[iv a0, iv a1, iv a2, iv a3, iv a4, iv a5, iv a6, iv a7, iv a8] 117)).alloc (.cells #[iv 0, iv 0, iv 0, iv 0, iv 0, iv 0, iv 0, iv 0, iv 0] 117)) ((w.alloc (.cells #[iv a0, iv a1, iv a2, iv a3, iv a4, iv a5, iv a6, iv a7, iv a8] 117)).alloc (.cells #[iv 0, iv 0, iv 0, iv 0, iv 0, iv 0, iv 0, iv 0, iv 0] 117)) := Below.refl _ _
  have h0 : Below w.heap.size w ((w.alloc (.cells #[iv a0, iv a1, iv a2, iv a3, iv a4, iv a5, iv a6, iv a7, iv a8] 117)).alloc (.cells #[iv 0, iv 0, iv 0, iv 0, iv 0, iv 0, iv 0, iv 0, iv 0] 117)) := (below_alloc _ _).alloc (by simp) _
  have hB1 : B ≤ ((w.alloc (.cells #[iv a0, iv a1, iv a2, iv a3, iv a4, iv a5, iv a6, iv a7, iv a8] 117)).alloc (.cells #[iv 0, iv 0, iv 0, iv 0, iv 0, iv 0, iv 0, iv 0, iv 0] 117)).heap.size := by simp; omega
  have h1 : Sl B ((w.alloc (.cells #[iv a0, iv a1, iv a2, iv a3, iv a4, iv a5, iv a6, iv a7, iv a8] 117)).alloc (.cells #[iv 0, iv 0, iv 0, iv 0, iv 0, iv 0, iv 0, iv 0, iv 0] 117)) 5 v ks := h.below h0 hB
  have HS : Hid (∀ w' : World, Below ((w.alloc (.cells #[iv a0, iv a1, iv a2, iv a3, iv a4, iv a5, iv a6, iv a7, iv a8] 117)).alloc (.cells #[iv 0, iv 0, iv 0, iv 0, iv 0, iv 0, iv 0, iv 0, iv 0] 117)).heap.size ((w.alloc (.cells #[iv a0, iv a1, iv a2, iv a3, iv a4, iv a5, iv a6, iv a7, iv a8] 117)).alloc (.cells #[iv 0, iv 0, iv 0, iv 0, iv 0, iv 0, iv 0, iv 0, iv 0] 117)) w' → (w'.cell? ⟨w.heap.size, 0, none⟩ = some (iv a0) ∧ w'.cell? ⟨w.heap.size, 1, none⟩ = some (iv a1) ∧ w'.cell? ⟨w.heap.size, 2, none⟩ = some (iv a2) ∧ w'.cell? ⟨w.heap.size, 3, none⟩ = some (iv a3) ∧ w'.cell? ⟨w.heap.size, 4, none⟩ = some (iv a4) ∧ w'.cell? ⟨w.heap.size, 5, none⟩ = some (iv a5) ∧ w'.cell? ⟨w.heap.size, 6, none⟩ = some (iv a6) ∧ w'.cell? ⟨w.heap.size, 7, none⟩ = some (iv a7) ∧ w'.cell? ⟨w.heap.size, 8, none⟩ = some (iv a8) ∧ Below ((w.alloc (.cells #[iv a0, iv a1, iv a2, iv a3, iv a4, iv a5, iv a6, iv a7, iv a8] 117)).alloc (.cells #[iv 0, iv 0, iv 0, iv 0, iv 0, iv 0, iv 0, iv 0, iv 0] 117)).heap.size ((w.alloc (.cells #[iv a0, iv a1, iv a2, iv a3, iv a4, iv a5, iv a6, iv a7, iv a8] 117)).alloc (.cells #[iv 0, iv 0, iv 0, iv 0, iv 0, iv 0, iv 0, iv 0, iv 0] 117)) w')) := hid fun w' hx => ⟨(hx.cell (p := ⟨w.heap.size, 0, none⟩) (by simp; omega)).trans (by simp [go_sem]), (hx.cell (p := ⟨w.heap.size, 1, none⟩) (by simp; omega)).trans (by simp [go_sem]), (hx.cell (p := ⟨w.heap.size, 2, none⟩) (by simp; omega)).trans (by simp [go_sem]), (hx.cell (p := ⟨w.heap.size, 3, none⟩) (by simp; omega)).trans (by simp [go_sem]), (hx.cell (p := ⟨w.heap.size, 4, none⟩) (by simp; omega)).trans (by simp [go_sem]), (hx.cell (p := ⟨w.heap.size, 5, none⟩) (by simp; omega)).trans (by simp [go_sem]), (hx.cell (p := ⟨w.heap.size, 6, none⟩) (by simp; omega)).trans (by simp [go_sem]), (hx.cell (p := ⟨w.heap.size, 7, none⟩) (by simp; omega)).trans (by simp [go_sem]), (hx.cell (p := ⟨w.heap.size, 8, none⟩) (by simp; omega)).trans (by simp [go_sem]), hx⟩
  have HV := hid h1
  have HBB := hid hB1
  have H0 := hid h0
  clear h h1 hB1 h0
  have HF := hid hf
  have HI : Hid (∀ W : World, Calls Try.prog 139 #[.agg #[iv a0, iv a1, iv a2, iv a3, iv a4, iv a5, iv a6, iv a7, iv a8]] W (Ret (.bool true) W)) := hid fun W => by rw [← hx]; exact implIsSignature_any _ _ _ _ _ _ _ _ _ W
  clear hf hx
  go_enter Try.func138, Try.ntmps138
  go_wp2_with fail
  go_region_held3 (fun w' => w'.cell? ⟨w.heap.size, 0, none⟩ = some (iv a0) ∧ w'.cell? ⟨w.heap.size, 1, none⟩ = some (iv a1) ∧ w'.cell? ⟨w.heap.size, 2, none⟩ = some (iv a2) ∧ w'.cell? ⟨w.heap.size, 3, none⟩ = some (iv a3) ∧ w'.cell? ⟨w.heap.size, 4, none⟩ = some (iv a4) ∧ w'.cell? ⟨w.heap.size, 5, none⟩ = some (iv a5) ∧ w'.cell? ⟨w.heap.size, 6, none⟩ = some (iv a6) ∧ w'.cell? ⟨w.heap.size, 7, none⟩ = some (iv a7) ∧ w'.cell? ⟨w.heap.size, 8, none⟩ = some (iv a8) ∧ Below ((w.alloc (.cells #[iv a0, iv a1, iv a2, iv a3, iv a4, iv a5, iv a6, iv a7, iv a8] 117)).alloc (.cells #[iv 0, iv 0, iv 0, iv 0, iv 0, iv 0, iv 0, iv 0, iv 0] 117)).heap.size ((w.alloc (.cells #[iv a0, iv a1, iv a2, iv a3, iv a4, iv a5, iv a6, iv a7, iv a8] 117)).alloc (.cells #[iv 0, iv 0, iv 0, iv 0, iv 0, iv 0, iv 0, iv 0, iv 0] 117)) w') (first | exact HS.out _ HX.drew | exact HS.out _ HZ2.out | exact HS.out _ HZ3.out | go_keep)
    (first | (go_at_call 140; refine (implSignatureInts_any _ _ _ _ _ _ _ _ _ _).mono ?_; rintro e w2 ⟨v2, rfl, ho2, hb2⟩; have HZ2 := hid (below_step HX.drew hb2); have HO2 := hid ho2; clear hb2 ho2) | (go_at_call 114; refine (ret_cast (y := .tuple #[iv m, .bool true]) (by rw [HM.out]) (implmarkBy_yes _ _ ((HV.out.below HZ2.out HBB.out).mono (Nat.le_trans HBB.out HZ2.out.size)) (Own.si (zs := [104, a0, a1, a2, a3, a4, a5, a6, a7]) HO2.out) (Nat.le_refl _) (by simp) k hk HF.out)).mono ?_; rintro e w3 ⟨rfl, hb3⟩; have HZ3 := hid (below_step HZ2.out hb3); clear hb3))
  obtain ⟨hc, hf⟩ := bcell HZ3.out
  have hz : w.heap.size + 1 < w3.heap.size := by have := HZ3.out.size; simp at this; omega
  go_wp2_with fail
  refine (HI.out _).mono ?_
  rintro e w4 ⟨rfl, hb4⟩
  have HZ4 := hid (below_step HZ3.out hb4)
  clear hc hf hb4
  obtain ⟨c0, c1, c2, c3, c4, c5, c6, c7, c8, -⟩ := HS.out _ HZ4.out
  have fz : w4.frozen? ⟨w.heap.size, 8, none⟩ = false := (HZ4.out.frozen (p := ⟨w.heap.size, 8, none⟩) (by simp; omega)).trans (by simp [go_sem])
  have d0 : w4.cell? ⟨w.heap.size + 1, 0, none⟩ = some (iv 0) := (HZ4.out.cell (p := ⟨w.heap.size + 1, 0, none⟩) (by simp)).trans (by simp [go_sem])
  have fd0 : w4.frozen? ⟨w.heap.size + 1, 0, none⟩ = false := (HZ4.out.frozen (p := ⟨w.heap.size + 1, 0, none⟩) (by simp)).trans (by simp [go_sem])
  have d1 : w4.cell? ⟨w.heap.size + 1, 1, none⟩ = some (iv 0) := (HZ4.out.cell (p := ⟨w.heap.size + 1, 1, none⟩) (by simp)).trans (by simp [go_sem])
  have fd1 : w4.frozen? ⟨w.heap.size + 1, 1, none⟩ = false := (HZ4.out.frozen (p := ⟨w.heap.size + 1, 1, none⟩) (by simp)).trans (by simp [go_sem])
  have d2 : w4.cell? ⟨w.heap.size + 1, 2, none⟩ = some (iv 0) := (HZ4.out.cell (p := ⟨w.heap.size + 1, 2, none⟩) (by simp)).trans (by simp [go_sem])
  have fd2 : w4.frozen? ⟨w.heap.size + 1, 2, none⟩ = false := (HZ4.out.frozen (p := ⟨w.heap.size + 1, 2, none⟩) (by simp)).trans (by simp [go_sem])
  have d3 : w4.cell? ⟨w.heap.size + 1, 3, none⟩ = some (iv 0) := (HZ4.out.cell (p := ⟨w.heap.size + 1, 3, none⟩) (by simp)).trans (by simp [go_sem])
  have fd3 : w4.frozen? ⟨w.heap.size + 1, 3, none⟩ = false := (HZ4.out.frozen (p := ⟨w.heap.size + 1, 3, none⟩) (by simp)).trans (by simp [go_sem])
  have d4 : w4.cell? ⟨w.heap.size + 1, 4, none⟩ = some (iv 0) := (HZ4.out.cell (p := ⟨w.heap.size + 1, 4, none⟩) (by simp)).trans (by simp [go_sem])
  have fd4 : w4.frozen? ⟨w.heap.size + 1, 4, none⟩ = false := (HZ4.out.frozen (p := ⟨w.heap.size + 1, 4, none⟩) (by simp)).trans (by simp [go_sem])
  have d5 : w4.cell? ⟨w.heap.size + 1, 5, none⟩ = some (iv 0) := (HZ4.out.cell (p := ⟨w.heap.size + 1, 5, none⟩) (by simp)).trans (by simp [go_sem])
  have fd5 : w4.frozen? ⟨w.heap.size + 1, 5, none⟩ = false := (HZ4.out.frozen (p := ⟨w.heap.size + 1, 5, none⟩) (by simp)).trans (by simp [go_sem])
  have d6 : w4.cell? ⟨w.heap.size + 1, 6, none⟩ = some (iv 0) := (HZ4.out.cell (p := ⟨w.heap.size + 1, 6, none⟩) (by simp)).trans (by simp [go_sem])
  have fd6 : w4.frozen? ⟨w.heap.size + 1, 6, none⟩ = false := (HZ4.out.frozen (p := ⟨w.heap.size + 1, 6, none⟩) (by simp)).trans (by simp [go_sem])
  have d7 : w4.cell? ⟨w.heap.size + 1, 7, none⟩ = some (iv 0) := (HZ4.out.cell (p := ⟨w.heap.size + 1, 7, none⟩) (by simp)).trans (by simp [go_sem])
  have fd7 : w4.frozen? ⟨w.heap.size + 1, 7, none⟩ = false := (HZ4.out.frozen (p := ⟨w.heap.size + 1, 7, none⟩) (by simp)).trans (by simp [go_sem])
  have d8 : w4.cell? ⟨w.heap.size + 1, 8, none⟩ = some (iv 0) := (HZ4.out.cell (p := ⟨w.heap.size + 1, 8, none⟩) (by simp)).trans (by simp [go_sem])
  have fd8 : w4.frozen? ⟨w.heap.size + 1, 8, none⟩ = false := (HZ4.out.frozen (p := ⟨w.heap.size + 1, 8, none⟩) (by simp)).trans (by simp [go_sem])
  go_wp2
  refine bodyPost_ret (v := .tuple #[.agg #[iv a0, iv a1, iv a2, iv a3, iv a4, iv a5, iv a6, iv a7, iv m], .bool true]) (by simp [results, Try.results138, go_sem, d0, d1, d2, d3, d4, d5, d6, d7, d8]) rfl ⟨rfl, ?_⟩
  have HBX := hid (below_step H0.out HZ4.out)
  clear HX HZ4
  repeat (refine Below.setCell ?_ (by simp) _)
  exact HBX.out

set_option maxHeartbeats 4000000 in
theorem implSignDigest_any_nf {B : Nat} {ks : List (List Int)} {v : Value} (a0 a1 a2 a3 a4 a5 a6 a7 a8 : Int) (w : World) (h : Sl B w 5 v ks) (hB : B ≤ w.heap.size) (b : Bool) (hx : signatureB a0 a1 a2 a3 a4 a5 a6 a7 a8 = b) (hf : findI 0 a0 ks = -1) :
    Calls Try.prog 138 #[v, .agg #[iv a0, iv a1, iv a2, iv a3, iv a4, iv a5, iv a6, iv a7, iv a8]] w (Ret (.tuple #[.agg #[iv 0, iv 0, iv 0, iv 0, iv 0, iv 0, iv 0, iv 0, iv 0], .bool false]) w) := by
  have HX : Below ((w.alloc (.cells #[iv a0, iv a1, iv a2, iv a3, iv a4, iv a5, iv a6, iv a7, iv a8] 117)).alloc (.cells #[iv 0, iv 0, iv 0, iv 0, iv 0, iv 0, iv 0, iv 0, iv 0] 117)).heap.size ((w.alloc (.cells #[iv a0, iv a1, iv a2, iv a3, iv a4, iv a5, iv a6, iv a7, iv a8] 117)).alloc (.cells #[iv 0, iv 0, iv 0, iv 0, iv 0, iv 0, iv 0, iv 0, iv 0] 117)) ((w.alloc (.cells #[iv a0, iv a1, iv a2, iv a3, iv a4, iv a5, iv a6, iv a7, iv a8] 117)).alloc (.cells #[iv 0, iv 0, iv 0, iv 0, iv 0, iv 0, iv 0, iv 0, iv 0] 117)) := Below.refl _ _
  have h0 : Below w.heap.size w ((w.alloc (.cells #[iv a0, iv a1, iv a2, iv a3, iv a4, iv a5, iv a6, iv a7, iv a8] 117)).alloc (.cells #[iv 0, iv 0, iv 0, iv 0, iv 0, iv 0, iv 0, iv 0, iv 0] 117)) := (below_alloc _ _).alloc (by simp) _
  have hB1 : B ≤ ((w.alloc (.cells #[iv a0, iv a1, iv a2, iv a3, iv a4, iv a5, iv a6, iv a7, iv a8] 117)).alloc (.cells #[iv 0, iv 0, iv 0, iv 0, iv 0, iv 0, iv 0, iv 0, iv 0] 117)).heap.size := by simp; omega
  have h1 : Sl B ((w.alloc (.cells #[iv a0, iv a1, iv a2, iv a3, iv a4, iv a5, iv a6, iv a7, iv a8] 117)).alloc (.cells #[iv 0, iv 0, iv 0, iv 0, iv 0, iv 0, iv 0, iv 0, iv 0] 117)) 5 v ks := h.below h0 hB
  have HS : Hid (∀ w' : World, Below ((w.alloc (.cells #[iv a0, iv a1, iv a2, iv a3, iv a4, iv a5, iv a6, iv a7, iv a8] 117)).alloc (.cells #[iv 0, iv 0, iv 0, iv 0, iv 0, iv 0, iv 0, iv 0, iv 0] 117)).heap.size ((w.alloc (.cells #[iv a0, iv a1, iv a2, iv a3, iv a4, iv a5, iv a6, iv a7, iv a8] 117)).alloc (.cells #[iv 0, iv 0, iv 0, iv 0, iv 0, iv 0, iv 0, iv 0, iv 0] 117)) w' → (w'.cell? ⟨w.heap.size, 0, none⟩ = some (iv a0) ∧ w'.cell? ⟨w.heap.size, 1, none⟩ = some (iv a1) ∧ w'.cell? ⟨w.heap.size, 2, none⟩ = some (iv a2) ∧ w'.cell? ⟨w.heap.size, 3, none⟩ = some (iv a3) ∧ w'.cell? ⟨w.heap.size, 4, none⟩ = some (iv a4) ∧ w'.cell? ⟨w.heap.size, 5, none⟩ = some (iv a5) ∧ w'.cell? ⟨w.heap.size, 6, none⟩ = some (iv a6) ∧ w'.cell? ⟨w.heap.size, 7, none⟩ = some (iv a7) ∧ w'.cell? ⟨w.heap.size, 8, none⟩ = some (iv a8) ∧ Below ((w.alloc (.cells #[iv a0, iv a1, iv a2, iv a3, iv a4, iv a5, iv a6, iv a7, iv a8] 117)).alloc (.cells #[iv 0, iv 0, iv 0, iv 0, iv 0, iv 0, iv 0, iv 0, iv 0] 117)).heap.size ((w.alloc (.cells #[iv a0, iv a1, iv a2, iv a3, iv a4, iv a5, iv a6, iv a7, iv a8] 117)).alloc (.cells #[iv 0, iv 0, iv 0, iv 0, iv 0, iv 0, iv 0, iv 0, iv 0] 117)) w')) := hid fun w' hx => ⟨(hx.cell (p := ⟨w.heap.size, 0, none⟩) (by simp; omega)).trans (by simp [go_sem]), (hx.cell (p := ⟨w.heap.size, 1, none⟩) (by simp; omega)).trans (by simp [go_sem]), (hx.cell (p := ⟨w.heap.size, 2, none⟩) (by simp; omega)).trans (by simp [go_sem]), (hx.cell (p := ⟨w.heap.size, 3, none⟩) (by simp; omega)).trans (by simp [go_sem]), (hx.cell (p := ⟨w.heap.size, 4, none⟩) (by simp; omega)).trans (by simp [go_sem]), (hx.cell (p := ⟨w.heap.size, 5, none⟩) (by simp; omega)).trans (by simp [go_sem]), (hx.cell (p := ⟨w.heap.size, 6, none⟩) (by simp; omega)).trans (by simp [go_sem]), (hx.cell (p := ⟨w.heap.size, 7, none⟩) (by simp; omega)).trans (by simp [go_sem]), (hx.cell (p := ⟨w.heap.size, 8, none⟩) (by simp; omega)).trans (by simp [go_sem]), hx⟩
  have HV := hid h1
  have HBB := hid hB1
  have H0 := hid h0
  clear h h1 hB1 h0
  have HF := hid hf
  have HI : Hid (∀ W : World, Calls Try.prog 139 #[.agg #[iv a0, iv a1, iv a2, iv a3, iv a4, iv a5, iv a6, iv a7, iv a8]] W (Ret (.bool b) W)) := hid fun W => by rw [← hx]; exact implIsSignature_any _ _ _ _ _ _ _ _ _ W
  clear hf hx
  cases b
  all_goals
    go_enter Try.func138, Try.ntmps138
    go_wp2_with fail
    go_region_held3 (fun w' => w'.cell? ⟨w.heap.size, 0, none⟩ = some (iv a0) ∧ w'.cell? ⟨w.heap.size, 1, none⟩ = some (iv a1) ∧ w'.cell? ⟨w.heap.size, 2, none⟩ = some (iv a2) ∧ w'.cell? ⟨w.heap.size, 3, none⟩ = some (iv a3) ∧ w'.cell? ⟨w.heap.size, 4, none⟩ = some (iv a4) ∧ w'.cell? ⟨w.heap.size, 5, none⟩ = some (iv a5) ∧ w'.cell? ⟨w.heap.size, 6, none⟩ = some (iv a6) ∧ w'.cell? ⟨w.heap.size, 7, none⟩ = some (iv a7) ∧ w'.cell? ⟨w.heap.size, 8, none⟩ = some (iv a8) ∧ Below ((w.alloc (.cells #[iv a0, iv a1, iv a2, iv a3, iv a4, iv a5, iv a6, iv a7, iv a8] 117)).alloc (.cells #[iv 0, iv 0, iv 0, iv 0, iv 0, iv 0, iv 0, iv 0, iv 0] 117)).heap.size ((w.alloc (.cells #[iv a0, iv a1, iv a2, iv a3, iv a4, iv a5, iv a6, iv a7, iv a8] 117)).alloc (.cells #[iv 0, iv 0, iv 0, iv 0, iv 0, iv 0, iv 0, iv 0, iv 0] 117)) w') (first | exact HS.out _ HX.drew | exact HS.out _ HZ2.out | exact HS.out _ HZ3.out | go_keep)
      (first | (go_at_call 140; refine (implSignatureInts_any _ _ _ _ _ _ _ _ _ _).mono ?_; rintro e w2 ⟨v2, rfl, ho2, hb2⟩; have HZ2 := hid (below_step HX.drew hb2); have HO2 := hid ho2; clear hb2 ho2) | (go_at_call 114; refine (implmarkBy_no _ _ ((HV.out.below HZ2.out HBB.out).mono (Nat.le_trans HBB.out HZ2.out.size)) (Own.si (zs := [104, a0, a1, a2, a3, a4, a5, a6, a7]) HO2.out) (Nat.le_refl _) HF.out).mono ?_; rintro e w3 ⟨rfl, hb3⟩; have HZ3 := hid (below_step HZ2.out hb3); clear hb3))
    obtain ⟨hc, hf⟩ := bcell HZ3.out
    have hz : w.heap.size + 1 < w3.heap.size := by have := HZ3.out.size; simp at this; omega
    go_wp2_with fail
    refine (HI.out _).mono ?_
    rintro e w4 ⟨rfl, hb4⟩
    have HZ4 := hid (below_step HZ3.out hb4)
    clear hc hf hb4
    obtain ⟨c0, c1, c2, c3, c4, c5, c6, c7, c8, -⟩ := HS.out _ HZ4.out
    have fz : w4.frozen? ⟨w.heap.size, 8, none⟩ = false := (HZ4.out.frozen (p := ⟨w.heap.size, 8, none⟩) (by simp; omega)).trans (by simp [go_sem])
    have d0 : w4.cell? ⟨w.heap.size + 1, 0, none⟩ = some (iv 0) := (HZ4.out.cell (p := ⟨w.heap.size + 1, 0, none⟩) (by simp)).trans (by simp [go_sem])
    have fd0 : w4.frozen? ⟨w.heap.size + 1, 0, none⟩ = false := (HZ4.out.frozen (p := ⟨w.heap.size + 1, 0, none⟩) (by simp)).trans (by simp [go_sem])
    have d1 : w4.cell? ⟨w.heap.size + 1, 1, none⟩ = some (iv 0) := (HZ4.out.cell (p := ⟨w.heap.size + 1, 1, none⟩) (by simp)).trans (by simp [go_sem])
    have fd1 : w4.frozen? ⟨w.heap.size + 1, 1, none⟩ = false := (HZ4.out.frozen (p := ⟨w.heap.size + 1, 1, none⟩) (by simp)).trans (by simp [go_sem])
    have d2 : w4.cell? ⟨w.heap.size + 1, 2, none⟩ = some (iv 0) := (HZ4.out.cell (p := ⟨w.heap.size + 1, 2, none⟩) (by simp)).trans (by simp [go_sem])
    have fd2 : w4.frozen? ⟨w.heap.size + 1, 2, none⟩ = false := (HZ4.out.frozen (p := ⟨w.heap.size + 1, 2, none⟩) (by simp)).trans (by simp [go_sem])
    have d3 : w4.cell? ⟨w.heap.size + 1, 3, none⟩ = some (iv 0) := (HZ4.out.cell (p := ⟨w.heap.size + 1, 3, none⟩) (by simp)).trans (by simp [go_sem])
    have fd3 : w4.frozen? ⟨w.heap.size + 1, 3, none⟩ = false := (HZ4.out.frozen (p := ⟨w.heap.size + 1, 3, none⟩) (by simp)).trans (by simp [go_sem])
    have d4 : w4.cell? ⟨w.heap.size + 1, 4, none⟩ = some (iv 0) := (HZ4.out.cell (p := ⟨w.heap.size + 1, 4, none⟩) (by simp)).trans (by simp [go_sem])
    have fd4 : w4.frozen? ⟨w.heap.size + 1, 4, none⟩ = false := (HZ4.out.frozen (p := ⟨w.heap.size + 1, 4, none⟩) (by simp)).trans (by simp [go_sem])
    have d5 : w4.cell? ⟨w.heap.size + 1, 5, none⟩ = some (iv 0) := (HZ4.out.cell (p := ⟨w.heap.size + 1, 5, none⟩) (by simp)).trans (by simp [go_sem])
    have fd5 : w4.frozen? ⟨w.heap.size + 1, 5, none⟩ = false := (HZ4.out.frozen (p := ⟨w.heap.size + 1, 5, none⟩) (by simp)).trans (by simp [go_sem])
    have d6 : w4.cell? ⟨w.heap.size + 1, 6, none⟩ = some (iv 0) := (HZ4.out.cell (p := ⟨w.heap.size + 1, 6, none⟩) (by simp)).trans (by simp [go_sem])
    have fd6 : w4.frozen? ⟨w.heap.size + 1, 6, none⟩ = false := (HZ4.out.frozen (p := ⟨w.heap.size + 1, 6, none⟩) (by simp)).trans (by simp [go_sem])
    have d7 : w4.cell? ⟨w.heap.size + 1, 7, none⟩ = some (iv 0) := (HZ4.out.cell (p := ⟨w.heap.size + 1, 7, none⟩) (by simp)).trans (by simp [go_sem])
    have fd7 : w4.frozen? ⟨w.heap.size + 1, 7, none⟩ = false := (HZ4.out.frozen (p := ⟨w.heap.size + 1, 7, none⟩) (by simp)).trans (by simp [go_sem])
    have d8 : w4.cell? ⟨w.heap.size + 1, 8, none⟩ = some (iv 0) := (HZ4.out.cell (p := ⟨w.heap.size + 1, 8, none⟩) (by simp)).trans (by simp [go_sem])
    have fd8 : w4.frozen? ⟨w.heap.size + 1, 8, none⟩ = false := (HZ4.out.frozen (p := ⟨w.heap.size + 1, 8, none⟩) (by simp)).trans (by simp [go_sem])
    go_wp2
    refine bodyPost_ret (v := .tuple #[.agg #[iv 0, iv 0, iv 0, iv 0, iv 0, iv 0, iv 0, iv 0, iv 0], .bool false]) (by simp [results, Try.results138, go_sem, d0, d1, d2, d3, d4, d5, d6, d7, d8]) rfl ⟨rfl, ?_⟩
    have HBX := hid (below_step H0.out HZ4.out)
    clear HX HZ4
    repeat (refine Below.setCell ?_ (by simp) _)
    exact HBX.out

set_option maxHeartbeats 4000000 in
theorem implSignDigest_any_nx {B : Nat} {ks : List (List Int)} {v : Value} (a0 a1 a2 a3 a4 a5 a6 a7 a8 : Int) (w : World) (h : Sl B w 5 v ks) (hB : B ≤ w.heap.size) (hx : signatureB a0 a1 a2 a3 a4 a5 a6 a7 a8 = false) (k : Nat) (hk : k < ks.length) (hf : findI 0 a0 ks = (k : Int)) :
    Calls Try.prog 138 #[v, .agg #[iv a0, iv a1, iv a2, iv a3, iv a4, iv a5, iv a6, iv a7, iv a8]] w (Ret (.tuple #[.agg #[iv 0, iv 0, iv 0, iv 0, iv 0, iv 0, iv 0, iv 0, iv 0], .bool false]) w) := by
  have HX : Below ((w.alloc (.cells #[iv a0, iv a1, iv a2, iv a3, iv a4, iv a5, iv a6, iv a7, iv a8] 117)).alloc (.cells #[iv 0, iv 0, iv 0, iv 0, iv 0, iv 0, iv 0, iv 0, iv 0] 117)).heap.size ((w.alloc (.cells #[iv a0, iv a1, iv a2, iv a3, iv a4, iv a5, iv a6, iv a7, iv a8] 117)).alloc (.cells #[iv 0, iv 0, iv 0, iv 0, iv 0, iv 0, iv 0, iv 0, iv 0] 117)) ((w.alloc (.cells #[iv a0, iv a1, iv a2, iv a3, iv a4, iv a5, iv a6, iv a7, iv a8] 117)).alloc (.cells #[iv 0, iv 0, iv 0, iv 0, iv 0, iv 0, iv 0, iv 0, iv 0] 117)) := Below.refl _ _
  have h0 : Below w.heap.size w ((w.alloc (.cells #[iv a0, iv a1, iv a2, iv a3, iv a4, iv a5, iv a6, iv a7, iv a8] 117)).alloc (.cells #[iv 0, iv 0, iv 0, iv 0, iv 0, iv 0, iv 0, iv 0, iv 0] 117)) := (below_alloc _ _).alloc (by simp) _
  have hB1 : B ≤ ((w.alloc (.cells #[iv a0, iv a1, iv a2, iv a3, iv a4, iv a5, iv a6, iv a7, iv a8] 117)).alloc (.cells #[iv 0, iv 0, iv 0, iv 0, iv 0, iv 0, iv 0, iv 0, iv 0] 117)).heap.size := by simp; omega
  have h1 : Sl B ((w.alloc (.cells #[iv a0, iv a1, iv a2, iv a3, iv a4, iv a5, iv a6, iv a7, iv a8] 117)).alloc (.cells #[iv 0, iv 0, iv 0, iv 0, iv 0, iv 0, iv 0, iv 0, iv 0] 117)) 5 v ks := h.below h0 hB
  have HS : Hid (∀ w' : World, Below ((w.alloc (.cells #[iv a0, iv a1, iv a2, iv a3, iv a4, iv a5, iv a6, iv a7, iv a8] 117)).alloc (.cells #[iv 0, iv 0, iv 0, iv 0, iv 0, iv 0, iv 0, iv 0, iv 0] 117)).heap.size ((w.alloc (.cells #[iv a0, iv a1, iv a2, iv a3, iv a4, iv a5, iv a6, iv a7, iv a8] 117)).alloc (.cells #[iv 0, iv 0, iv 0, iv 0, iv 0, iv 0, iv 0, iv 0, iv 0] 117)) w' → (w'.cell? ⟨w.heap.size, 0, none⟩ = some (iv a0) ∧ w'.cell? ⟨w.heap.size, 1, none⟩ = some (iv a1) ∧ w'.cell? ⟨w.heap.size, 2, none⟩ = some (iv a2) ∧ w'.cell? ⟨w.heap.size, 3, none⟩ = some (iv a3) ∧ w'.cell? ⟨w.heap.size, 4, none⟩ = some (iv a4) ∧ w'.cell? ⟨w.heap.size, 5, none⟩ = some (iv a5) ∧ w'.cell? ⟨w.heap.size, 6, none⟩ = some (iv a6) ∧ w'.cell? ⟨w.heap.size, 7, none⟩ = some (iv a7) ∧ w'.cell? ⟨w.heap.size, 8, none⟩ = some (iv a8) ∧ Below ((w.alloc (.cells #[iv a0, iv a1, iv a2, iv a3, iv a4, iv a5, iv a6, iv a7, iv a8] 117)).alloc (.cells #[iv 0, iv 0, iv 0, iv 0, iv 0, iv 0, iv 0, iv 0, iv 0] 117)).heap.size ((w.alloc (.cells #[iv a0, iv a1, iv a2, iv a3, iv a4, iv a5, iv a6, iv a7, iv a8] 117)).alloc (.cells #[iv 0, iv 0, iv 0, iv 0, iv 0, iv 0, iv 0, iv 0, iv 0] 117)) w')) := hid fun w' hx => ⟨(hx.cell (p := ⟨w.heap.size, 0, none⟩) (by simp; omega)).trans (by simp [go_sem]), (hx.cell (p := ⟨w.heap.size, 1, none⟩) (by simp; omega)).trans (by simp [go_sem]), (hx.cell (p := ⟨w.heap.size, 2, none⟩) (by simp; omega)).trans (by simp [go_sem]), (hx.cell (p := ⟨w.heap.size, 3, none⟩) (by simp; omega)).trans (by simp [go_sem]), (hx.cell (p := ⟨w.heap.size, 4, none⟩) (by simp; omega)).trans (by simp [go_sem]), (hx.cell (p := ⟨w.heap.size, 5, none⟩) (by simp; omega)).trans (by simp [go_sem]), (hx.cell (p := ⟨w.heap.size, 6, none⟩) (by simp; omega)).trans (by simp [go_sem]), (hx.cell (p := ⟨w.heap.size, 7, none⟩) (by simp; omega)).trans (by simp [go_sem]), (hx.cell (p := ⟨w.heap.size, 8, none⟩) (by simp; omega)).trans (by simp [go_sem]), hx⟩
  have HV := hid h1
  have HBB := hid hB1
  have H0 := hid h0
  clear h h1 hB1 h0
  have HF := hid hf
  have HI : Hid (∀ W : World, Calls Try.prog 139 #[.agg #[iv a0, iv a1, iv a2, iv a3, iv a4, iv a5, iv a6, iv a7, iv a8]] W (Ret (.bool false) W)) := hid fun W => by rw [← hx]; exact implIsSignature_any _ _ _ _ _ _ _ _ _ W
  clear hf hx
  go_enter Try.func138, Try.ntmps138
  go_wp2_with fail
  go_region_held3 (fun w' => w'.cell? ⟨w.heap.size, 0, none⟩ = some (iv a0) ∧ w'.cell? ⟨w.heap.size, 1, none⟩ = some (iv a1) ∧ w'.cell? ⟨w.heap.size, 2, none⟩ = some (iv a2) ∧ w'.cell? ⟨w.heap.size, 3, none⟩ = some (iv a3) ∧ w'.cell? ⟨w.heap.size, 4, none⟩ = some (iv a4) ∧ w'.cell? ⟨w.heap.size, 5, none⟩ = some (iv a5) ∧ w'.cell? ⟨w.heap.size, 6, none⟩ = some (iv a6) ∧ w'.cell? ⟨w.heap.size, 7, none⟩ = some (iv a7) ∧ w'.cell? ⟨w.heap.size, 8, none⟩ = some (iv a8) ∧ Below ((w.alloc (.cells #[iv a0, iv a1, iv a2, iv a3, iv a4, iv a5, iv a6, iv a7, iv a8] 117)).alloc (.cells #[iv 0, iv 0, iv 0, iv 0, iv 0, iv 0, iv 0, iv 0, iv 0] 117)).heap.size ((w.alloc (.cells #[iv a0, iv a1, iv a2, iv a3, iv a4, iv a5, iv a6, iv a7, iv a8] 117)).alloc (.cells #[iv 0, iv 0, iv 0, iv 0, iv 0, iv 0, iv 0, iv 0, iv 0] 117)) w') (first | exact HS.out _ HX.drew | exact HS.out _ HZ2.out | exact HS.out _ HZ3.out | go_keep)
    (first | (go_at_call 140; refine (implSignatureInts_any _ _ _ _ _ _ _ _ _ _).mono ?_; rintro e w2 ⟨v2, rfl, ho2, hb2⟩; have HZ2 := hid (below_step HX.drew hb2); have HO2 := hid ho2; clear hb2 ho2) | (go_at_call 114; refine (implmarkBy_yes _ _ ((HV.out.below HZ2.out HBB.out).mono (Nat.le_trans HBB.out HZ2.out.size)) (Own.si (zs := [104, a0, a1, a2, a3, a4, a5, a6, a7]) HO2.out) (Nat.le_refl _) (by simp) k hk HF.out).mono ?_; rintro e w3 ⟨rfl, hb3⟩; have HZ3 := hid (below_step HZ2.out hb3); clear hb3))
  obtain ⟨hc, hf⟩ := bcell HZ3.out
  have hz : w.heap.size + 1 < w3.heap.size := by have := HZ3.out.size; simp at this; omega
  go_wp2_with fail
  refine (HI.out _).mono ?_
  rintro e w4 ⟨rfl, hb4⟩
  have HZ4 := hid (below_step HZ3.out hb4)
  clear hc hf hb4
  obtain ⟨c0, c1, c2, c3, c4, c5, c6, c7, c8, -⟩ := HS.out _ HZ4.out
  have fz : w4.frozen? ⟨w.heap.size, 8, none⟩ = false := (HZ4.out.frozen (p := ⟨w.heap.size, 8, none⟩) (by simp; omega)).trans (by simp [go_sem])
  have d0 : w4.cell? ⟨w.heap.size + 1, 0, none⟩ = some (iv 0) := (HZ4.out.cell (p := ⟨w.heap.size + 1, 0, none⟩) (by simp)).trans (by simp [go_sem])
  have fd0 : w4.frozen? ⟨w.heap.size + 1, 0, none⟩ = false := (HZ4.out.frozen (p := ⟨w.heap.size + 1, 0, none⟩) (by simp)).trans (by simp [go_sem])
  have d1 : w4.cell? ⟨w.heap.size + 1, 1, none⟩ = some (iv 0) := (HZ4.out.cell (p := ⟨w.heap.size + 1, 1, none⟩) (by simp)).trans (by simp [go_sem])
  have fd1 : w4.frozen? ⟨w.heap.size + 1, 1, none⟩ = false := (HZ4.out.frozen (p := ⟨w.heap.size + 1, 1, none⟩) (by simp)).trans (by simp [go_sem])
  have d2 : w4.cell? ⟨w.heap.size + 1, 2, none⟩ = some (iv 0) := (HZ4.out.cell (p := ⟨w.heap.size + 1, 2, none⟩) (by simp)).trans (by simp [go_sem])
  have fd2 : w4.frozen? ⟨w.heap.size + 1, 2, none⟩ = false := (HZ4.out.frozen (p := ⟨w.heap.size + 1, 2, none⟩) (by simp)).trans (by simp [go_sem])
  have d3 : w4.cell? ⟨w.heap.size + 1, 3, none⟩ = some (iv 0) := (HZ4.out.cell (p := ⟨w.heap.size + 1, 3, none⟩) (by simp)).trans (by simp [go_sem])
  have fd3 : w4.frozen? ⟨w.heap.size + 1, 3, none⟩ = false := (HZ4.out.frozen (p := ⟨w.heap.size + 1, 3, none⟩) (by simp)).trans (by simp [go_sem])
  have d4 : w4.cell? ⟨w.heap.size + 1, 4, none⟩ = some (iv 0) := (HZ4.out.cell (p := ⟨w.heap.size + 1, 4, none⟩) (by simp)).trans (by simp [go_sem])
  have fd4 : w4.frozen? ⟨w.heap.size + 1, 4, none⟩ = false := (HZ4.out.frozen (p := ⟨w.heap.size + 1, 4, none⟩) (by simp)).trans (by simp [go_sem])
  have d5 : w4.cell? ⟨w.heap.size + 1, 5, none⟩ = some (iv 0) := (HZ4.out.cell (p := ⟨w.heap.size + 1, 5, none⟩) (by simp)).trans (by simp [go_sem])
  have fd5 : w4.frozen? ⟨w.heap.size + 1, 5, none⟩ = false := (HZ4.out.frozen (p := ⟨w.heap.size + 1, 5, none⟩) (by simp)).trans (by simp [go_sem])
  have d6 : w4.cell? ⟨w.heap.size + 1, 6, none⟩ = some (iv 0) := (HZ4.out.cell (p := ⟨w.heap.size + 1, 6, none⟩) (by simp)).trans (by simp [go_sem])
  have fd6 : w4.frozen? ⟨w.heap.size + 1, 6, none⟩ = false := (HZ4.out.frozen (p := ⟨w.heap.size + 1, 6, none⟩) (by simp)).trans (by simp [go_sem])
  have d7 : w4.cell? ⟨w.heap.size + 1, 7, none⟩ = some (iv 0) := (HZ4.out.cell (p := ⟨w.heap.size + 1, 7, none⟩) (by simp)).trans (by simp [go_sem])
  have fd7 : w4.frozen? ⟨w.heap.size + 1, 7, none⟩ = false := (HZ4.out.frozen (p := ⟨w.heap.size + 1, 7, none⟩) (by simp)).trans (by simp [go_sem])
  have d8 : w4.cell? ⟨w.heap.size + 1, 8, none⟩ = some (iv 0) := (HZ4.out.cell (p := ⟨w.heap.size + 1, 8, none⟩) (by simp)).trans (by simp [go_sem])
  have fd8 : w4.frozen? ⟨w.heap.size + 1, 8, none⟩ = false := (HZ4.out.frozen (p := ⟨w.heap.size + 1, 8, none⟩) (by simp)).trans (by simp [go_sem])
  go_wp2
  refine bodyPost_ret (v := .tuple #[.agg #[iv 0, iv 0, iv 0, iv 0, iv 0, iv 0, iv 0, iv 0, iv 0], .bool false]) (by simp [results, Try.results138, go_sem, d0, d1, d2, d3, d4, d5, d6, d7, d8]) rfl ⟨rfl, ?_⟩
  have HBX := hid (below_step H0.out HZ4.out)
  clear HX HZ4
  repeat (refine Below.setCell ?_ (by simp) _)
  exact HBX.out

theorem implSignDigest_any_no {B : Nat} {ks : List (List Int)} {v : Value} (a0 a1 a2 a3 a4 a5 a6 a7 a8 : Int) (w : World) (h : Sl B w 5 v ks) (hB : B ≤ w.heap.size) (hno : signatureB a0 a1 a2 a3 a4 a5 a6 a7 a8 = false ∨ findI 0 a0 ks = -1) :
    Calls Try.prog 138 #[v, .agg #[iv a0, iv a1, iv a2, iv a3, iv a4, iv a5, iv a6, iv a7, iv a8]] w (Ret (.tuple #[.agg #[iv 0, iv 0, iv 0, iv 0, iv 0, iv 0, iv 0, iv 0, iv 0], .bool false]) w) := by
  rcases findI_range 0 a0 ks with hf | ⟨k, hk, hf, -⟩
  · exact implSignDigest_any_nf a0 a1 a2 a3 a4 a5 a6 a7 a8 w h hB _ rfl hf
  · rcases hno with hx | hx
    · exact implSignDigest_any_nx a0 a1 a2 a3 a4 a5 a6 a7 a8 w h hB hx k hk hf
    · exfalso; rw [hx] at hf; omega

set_option maxHeartbeats 4000000 in
theorem specSignDigest_any_nf {B : Nat} {ks : List (List Int)} {v : Value} (a0 a1 a2 a3 a4 a5 a6 a7 a8 : Int) (w : World) (h : Sl B w 5 v ks) (hB : B ≤ w.heap.size) (b : Bool) (hx : signatureB a0 a1 a2 a3 a4 a5 a6 a7 a8 = b) (hf : findI 0 a0 ks = -1) :
    Calls Try.prog 182 #[v, .agg #[iv a0, iv a1, iv a2, iv a3, iv a4, iv a5, iv a6, iv a7, iv a8]] w (Ret (.tuple #[.agg #[iv 0, iv 0, iv 0, iv 0, iv 0, iv 0, iv 0, iv 0, iv 0], .bool false]) w) := by
  have HX : Below ((w.alloc (.cells #[iv a0, iv a1, iv a2, iv a3, iv a4, iv a5, iv a6, iv a7, iv a8] 117)).alloc (.cells #[iv 0, iv 0, iv 0, iv 0, iv 0, iv 0, iv 0, iv 0, iv 0] 117)).heap.size ((w.alloc (.cells #[iv a0, iv a1, iv a2, iv a3, iv a4, iv a5, iv a6, iv a7, iv a8] 117)).alloc (.cells #[iv 0, iv 0, iv 0, iv 0, iv 0, iv 0, iv 0, iv 0, iv 0] 117)) ((w.alloc (.cells #[iv a0, iv a1, iv a2, iv a3, iv a4, iv a5, iv a6, iv a7, iv a8] 117)).alloc (.cells #[iv 0, iv 0, iv 0, iv 0, iv 0, iv 0, iv 0, iv 0, iv 0] 117)) := Below.refl _ _
  have h0 : Below w.heap.size w ((w.alloc (.cells #[iv a0, iv a1, iv a2, iv a3, iv a4, iv a5, iv a6, iv a7, iv a8] 117)).alloc (.cells #[iv 0, iv 0, iv 0, iv 0, iv 0, iv 0, iv 0, iv 0, iv 0] 117)) := (below_alloc _ _).alloc (by simp) _
  have hB1 : B ≤ ((w.alloc (.cells #[iv a0, iv a1, iv a2, iv a3, iv a4, iv a5, iv a6, iv a7, iv a8] 117)).alloc (.cells #[iv 0, iv 0, iv 0, iv 0, iv 0, iv 0, iv 0, iv 0, iv 0] 117)).heap.size := by simp; omega
  have h1 : Sl B ((w.alloc (.cells #[iv a0, iv a1, iv a2, iv a3, iv a4, iv a5, iv a6, iv a7, iv a8] 117)).alloc (.cells #[iv 0, iv 0, iv 0, iv 0, iv 0, iv 0, iv 0, iv 0, iv 0] 117)) 5 v ks := h.below h0 hB
  have HS : Hid (∀ w' : World, Below ((w.alloc (.cells #[iv a0, iv a1, iv a2, iv a3, iv a4, iv a5, iv a6, iv a7, iv a8] 117)).alloc (.cells #[iv 0, iv 0, iv 0, iv 0, iv 0, iv 0, iv 0, iv 0, iv 0] 117)).heap.size ((w.alloc (.cells #[iv a0, iv a1, iv a2, iv a3, iv a4, iv a5, iv a6, iv a7, iv a8] 117)).alloc (.cells #[iv 0, iv 0, iv 0, iv 0, iv 0, iv 0, iv 0, iv 0, iv 0] 117)) w' → (w'.cell? ⟨w.heap.size, 0, none⟩ = some (iv a0) ∧ w'.cell? ⟨w.heap.size, 1, none⟩ = some (iv a1) ∧ w'.cell? ⟨w.heap.size, 2, none⟩ = some (iv a2) ∧ w'.cell? ⟨w.heap.size, 3, none⟩ = some (iv a3) ∧ w'.cell? ⟨w.heap.size, 4, none⟩ = some (iv a4) ∧ w'.cell? ⟨w.heap.size, 5, none⟩ = some (iv a5) ∧ w'.cell? ⟨w.heap.size, 6, none⟩ = some (iv a6) ∧ w'.cell? ⟨w.heap.size, 7, none⟩ = some (iv a7) ∧ w'.cell? ⟨w.heap.size, 8, none⟩ = some (iv a8) ∧ Below ((w.alloc (.cells #[iv a0, iv a1, iv a2, iv a3, iv a4, iv a5, iv a6, iv a7, iv a8] 117)).alloc (.cells #[iv 0, iv 0, iv 0, iv 0, iv 0, iv 0, iv 0, iv 0, iv 0] 117)).heap.size ((w.alloc (.cells #[iv a0, iv a1, iv a2, iv a3, iv a4, iv a5, iv a6, iv a7, iv a8] 117)).alloc (.cells #[iv 0, iv 0, iv 0, iv 0, iv 0, iv 0, iv 0, iv 0, iv 0] 117)) w')) := hid fun w' hx => ⟨(hx.cell (p := ⟨w.heap.size, 0, none⟩) (by simp; omega)).trans (by simp [go_sem]), (hx.cell (p := ⟨w.heap.size, 1, none⟩) (by simp; omega)).trans (by simp [go_sem]), (hx.cell (p := ⟨w.heap.size, 2, none⟩) (by simp; omega)).trans (by simp [go_sem]), (hx.cell (p := ⟨w.heap.size, 3, none⟩) (by simp; omega)).trans (by simp [go_sem]), (hx.cell (p := ⟨w.heap.size, 4, none⟩) (by simp; omega)).trans (by simp [go_sem]), (hx.cell (p := ⟨w.heap.size, 5, none⟩) (by simp; omega)).trans (by simp [go_sem]), (hx.cell (p := ⟨w.heap.size, 6, none⟩) (by simp; omega)).trans (by simp [go_sem]), (hx.cell (p := ⟨w.heap.size, 7, none⟩) (by simp; omega)).trans (by simp [go_sem]), (hx.cell (p := ⟨w.heap.size, 8, none⟩) (by simp; omega)).trans (by simp [go_sem]), hx⟩
  have HV := hid h1
  have HBB := hid hB1
  have H0 := hid h0
  clear h h1 hB1 h0
  have HF := hid hf
  have HI : Hid (∀ W : World, Calls Try.prog 171 #[.agg #[iv a0, iv a1, iv a2, iv a3, iv a4, iv a5, iv a6, iv a7, iv a8]] W (Ret (.bool b) W)) := hid fun W => by rw [← hx]; exact specIsSignature_any _ _ _ _ _ _ _ _ _ W
  clear hf hx
  cases b
  all_goals
    go_enter Try.func182, Try.ntmps182
    go_wp2_with fail
    refine (specFindKey_any _ _ HV.out HBB.out).mono ?_
    rintro e w1 ⟨rfl, hb1⟩
    have HZ1 := hid (below_step HX hb1)
    rw [HF.out]
    clear hb1
    obtain ⟨c0, c1, c2, c3, c4, c5, c6, c7, c8, -⟩ := HS.out _ HZ1.out
    go_wp2_with fail
    refine (HI.out _).mono ?_
    rintro e w4 ⟨rfl, hb4⟩
    have HZ4 := hid (below_step HZ1.out hb4)
    clear hb4 c0 c1 c2 c3 c4 c5 c6 c7 c8
    obtain ⟨c0, c1, c2, c3, c4, c5, c6, c7, c8, -⟩ := HS.out _ HZ4.out
    have fz : w4.frozen? ⟨w.heap.size, 8, none⟩ = false := (HZ4.out.frozen (p := ⟨w.heap.size, 8, none⟩) (by simp; omega)).trans (by simp [go_sem])
    have d0 : w4.cell? ⟨w.heap.size + 1, 0, none⟩ = some (iv 0) := (HZ4.out.cell (p := ⟨w.heap.size + 1, 0, none⟩) (by simp)).trans (by simp [go_sem])
    have fd0 : w4.frozen? ⟨w.heap.size + 1, 0, none⟩ = false := (HZ4.out.frozen (p := ⟨w.heap.size + 1, 0, none⟩) (by simp)).trans (by simp [go_sem])
    have d1 : w4.cell? ⟨w.heap.size + 1, 1, none⟩ = some (iv 0) := (HZ4.out.cell (p := ⟨w.heap.size + 1, 1, none⟩) (by simp)).trans (by simp [go_sem])
    have fd1 : w4.frozen? ⟨w.heap.size + 1, 1, none⟩ = false := (HZ4.out.frozen (p := ⟨w.heap.size + 1, 1, none⟩) (by simp)).trans (by simp [go_sem])
    have d2 : w4.cell? ⟨w.heap.size + 1, 2, none⟩ = some (iv 0) := (HZ4.out.cell (p := ⟨w.heap.size + 1, 2, none⟩) (by simp)).trans (by simp [go_sem])
    have fd2 : w4.frozen? ⟨w.heap.size + 1, 2, none⟩ = false := (HZ4.out.frozen (p := ⟨w.heap.size + 1, 2, none⟩) (by simp)).trans (by simp [go_sem])
    have d3 : w4.cell? ⟨w.heap.size + 1, 3, none⟩ = some (iv 0) := (HZ4.out.cell (p := ⟨w.heap.size + 1, 3, none⟩) (by simp)).trans (by simp [go_sem])
    have fd3 : w4.frozen? ⟨w.heap.size + 1, 3, none⟩ = false := (HZ4.out.frozen (p := ⟨w.heap.size + 1, 3, none⟩) (by simp)).trans (by simp [go_sem])
    have d4 : w4.cell? ⟨w.heap.size + 1, 4, none⟩ = some (iv 0) := (HZ4.out.cell (p := ⟨w.heap.size + 1, 4, none⟩) (by simp)).trans (by simp [go_sem])
    have fd4 : w4.frozen? ⟨w.heap.size + 1, 4, none⟩ = false := (HZ4.out.frozen (p := ⟨w.heap.size + 1, 4, none⟩) (by simp)).trans (by simp [go_sem])
    have d5 : w4.cell? ⟨w.heap.size + 1, 5, none⟩ = some (iv 0) := (HZ4.out.cell (p := ⟨w.heap.size + 1, 5, none⟩) (by simp)).trans (by simp [go_sem])
    have fd5 : w4.frozen? ⟨w.heap.size + 1, 5, none⟩ = false := (HZ4.out.frozen (p := ⟨w.heap.size + 1, 5, none⟩) (by simp)).trans (by simp [go_sem])
    have d6 : w4.cell? ⟨w.heap.size + 1, 6, none⟩ = some (iv 0) := (HZ4.out.cell (p := ⟨w.heap.size + 1, 6, none⟩) (by simp)).trans (by simp [go_sem])
    have fd6 : w4.frozen? ⟨w.heap.size + 1, 6, none⟩ = false := (HZ4.out.frozen (p := ⟨w.heap.size + 1, 6, none⟩) (by simp)).trans (by simp [go_sem])
    have d7 : w4.cell? ⟨w.heap.size + 1, 7, none⟩ = some (iv 0) := (HZ4.out.cell (p := ⟨w.heap.size + 1, 7, none⟩) (by simp)).trans (by simp [go_sem])
    have fd7 : w4.frozen? ⟨w.heap.size + 1, 7, none⟩ = false := (HZ4.out.frozen (p := ⟨w.heap.size + 1, 7, none⟩) (by simp)).trans (by simp [go_sem])
    have d8 : w4.cell? ⟨w.heap.size + 1, 8, none⟩ = some (iv 0) := (HZ4.out.cell (p := ⟨w.heap.size + 1, 8, none⟩) (by simp)).trans (by simp [go_sem])
    have fd8 : w4.frozen? ⟨w.heap.size + 1, 8, none⟩ = false := (HZ4.out.frozen (p := ⟨w.heap.size + 1, 8, none⟩) (by simp)).trans (by simp [go_sem])
    go_wp2
    refine bodyPost_ret (v := .tuple #[.agg #[iv 0, iv 0, iv 0, iv 0, iv 0, iv 0, iv 0, iv 0, iv 0], .bool false]) (by simp [results, Try.results182, go_sem, d0, d1, d2, d3, d4, d5, d6, d7, d8]) rfl ⟨rfl, ?_⟩
    have HBX := hid (below_step H0.out HZ4.out)
    clear HX HZ4
    repeat (refine Below.setCell ?_ (by simp) _)
    exact HBX.out

set_option maxHeartbeats 4000000 in
theorem specSignDigest_any_nx {B : Nat} {ks : List (List Int)} {v : Value} (a0 a1 a2 a3 a4 a5 a6 a7 a8 : Int) (w : World) (h : Sl B w 5 v ks) (hB : B ≤ w.heap.size) (hx : signatureB a0 a1 a2 a3 a4 a5 a6 a7 a8 = false) (k : Nat) (_hk : k < ks.length) (hf : findI 0 a0 ks = (k : Int)) :
    Calls Try.prog 182 #[v, .agg #[iv a0, iv a1, iv a2, iv a3, iv a4, iv a5, iv a6, iv a7, iv a8]] w (Ret (.tuple #[.agg #[iv 0, iv 0, iv 0, iv 0, iv 0, iv 0, iv 0, iv 0, iv 0], .bool false]) w) := by
  have HX : Below ((w.alloc (.cells #[iv a0, iv a1, iv a2, iv a3, iv a4, iv a5, iv a6, iv a7, iv a8] 117)).alloc (.cells #[iv 0, iv 0, iv 0, iv 0, iv 0, iv 0, iv 0, iv 0, iv 0] 117)).heap.size ((w.alloc (.cells #[iv a0, iv a1, iv a2, iv a3, iv a4, iv a5, iv a6, iv a7, iv a8] 117)).alloc (.cells #[iv 0, iv 0, iv 0, iv 0, iv 0, iv 0, iv 0, iv 0, iv 0] 117)) ((w.alloc (.cells #[iv a0, iv a1, iv a2, iv a3, iv a4, iv a5, iv a6, iv a7, iv a8] 117)).alloc (.cells #[iv 0, iv 0, iv 0, iv 0, iv 0, iv 0, iv 0, iv 0, iv 0] 117)) := Below.refl _ _
  have h0 : Below w.heap.size w ((w.alloc (.cells #[iv a0, iv a1, iv a2, iv a3, iv a4, iv a5, iv a6, iv a7, iv a8] 117)).alloc (.cells #[iv 0, iv 0, iv 0, iv 0, iv 0, iv 0, iv 0, iv 0, iv 0] 117)) := (below_alloc _ _).alloc (by simp) _
  have hB1 : B ≤ ((w.alloc (.cells #[iv a0, iv a1, iv a2, iv a3, iv a4, iv a5, iv a6, iv a7, iv a8] 117)).alloc (.cells #[iv 0, iv 0, iv 0, iv 0, iv 0, iv 0, iv 0, iv 0, iv 0] 117)).heap.size := by simp; omega
  have h1 : Sl B ((w.alloc (.cells #[iv a0, iv a1, iv a2, iv a3, iv a4, iv a5, iv a6, iv a7, iv a8] 117)).alloc (.cells #[iv 0, iv 0, iv 0, iv 0, iv 0, iv 0, iv 0, iv 0, iv 0] 117)) 5 v ks := h.below h0 hB
  have HS : Hid (∀ w' : World, Below ((w.alloc (.cells #[iv a0, iv a1, iv a2, iv a3, iv a4, iv a5, iv a6, iv a7, iv a8] 117)).alloc (.cells #[iv 0, iv 0, iv 0, iv 0, iv 0, iv 0, iv 0, iv 0, iv 0] 117)).heap.size ((w.alloc (.cells #[iv a0, iv a1, iv a2, iv a3, iv a4, iv a5, iv a6, iv a7, iv a8] 117)).alloc (.cells #[iv 0, iv 0, iv 0, iv 0, iv 0, iv 0, iv 0, iv 0, iv 0] 117)) w' → (w'.cell? ⟨w.heap.size, 0, none⟩ = some (iv a0) ∧ w'.cell? ⟨w.heap.size, 1, none⟩ = some (iv a1) ∧ w'.cell? ⟨w.heap.size, 2, none⟩ = some (iv a2) ∧ w'.cell? ⟨w.heap.size, 3, none⟩ = some (iv a3) ∧ w'.cell? ⟨w.heap.size, 4, none⟩ = some (iv a4) ∧ w'.cell? ⟨w.heap.size, 5, none⟩ = some (iv a5) ∧ w'.cell? ⟨w.heap.size, 6, none⟩ = some (iv a6) ∧ w'.cell? ⟨w.heap.size, 7, none⟩ = some (iv a7) ∧ w'.cell? ⟨w.heap.size, 8, none⟩ = some (iv a8) ∧ Below ((w.alloc (.cells #[iv a0, iv a1, iv a2, iv a3, iv a4, iv a5, iv a6, iv a7, iv a8] 117)).alloc (.cells #[iv 0, iv 0, iv 0, iv 0, iv 0, iv 0, iv 0, iv 0, iv 0] 117)).heap.size ((w.alloc (.cells #[iv a0, iv a1, iv a2, iv a3, iv a4, iv a5, iv a6, iv a7, iv a8] 117)).alloc (.cells #[iv 0, iv 0, iv 0, iv 0, iv 0, iv 0, iv 0, iv 0, iv 0] 117)) w')) := hid fun w' hx => ⟨(hx.cell (p := ⟨w.heap.size, 0, none⟩) (by simp; omega)).trans (by simp [go_sem]), (hx.cell (p := ⟨w.heap.size, 1, none⟩) (by simp; omega)).trans (by simp [go_sem]), (hx.cell (p := ⟨w.heap.size, 2, none⟩) (by simp; omega)).trans (by simp [go_sem]), (hx.cell (p := ⟨w.heap.size, 3, none⟩) (by simp; omega)).trans (by simp [go_sem]), (hx.cell (p := ⟨w.heap.size, 4, none⟩) (by simp; omega)).trans (by simp [go_sem]), (hx.cell (p := ⟨w.heap.size, 5, none⟩) (by simp; omega)).trans (by simp [go_sem]), (hx.cell (p := ⟨w.heap.size, 6, none⟩) (by simp; omega)).trans (by simp [go_sem]), (hx.cell (p := ⟨w.heap.size, 7, none⟩) (by simp; omega)).trans (by simp [go_sem]), (hx.cell (p := ⟨w.heap.size, 8, none⟩) (by simp; omega)).trans (by simp [go_sem]), hx⟩
  have HV := hid h1
  have HBB := hid hB1
  have H0 := hid h0
  clear h h1 hB1 h0
  have HF := hid hf
  have HI : Hid (∀ W : World, Calls Try.prog 171 #[.agg #[iv a0, iv a1, iv a2, iv a3, iv a4, iv a5, iv a6, iv a7, iv a8]] W (Ret (.bool false) W)) := hid fun W => by rw [← hx]; exact specIsSignature_any _ _ _ _ _ _ _ _ _ W
  clear hf hx
  go_enter Try.func182, Try.ntmps182
  go_wp2_with fail
  refine (specFindKey_any _ _ HV.out HBB.out).mono ?_
  rintro e w1 ⟨rfl, hb1⟩
  have HZ1 := hid (below_step HX hb1)
  rw [HF.out]
  clear hb1
  obtain ⟨c0, c1, c2, c3, c4, c5, c6, c7, c8, -⟩ := HS.out _ HZ1.out
  go_wp2_with fail
  refine (HI.out _).mono ?_
  rintro e w4 ⟨rfl, hb4⟩
  have HZ4 := hid (below_step HZ1.out hb4)
  clear hb4 c0 c1 c2 c3 c4 c5 c6 c7 c8
  obtain ⟨c0, c1, c2, c3, c4, c5, c6, c7, c8, -⟩ := HS.out _ HZ4.out
  have fz : w4.frozen? ⟨w.heap.size, 8, none⟩ = false := (HZ4.out.frozen (p := ⟨w.heap.size, 8, none⟩) (by simp; omega)).trans (by simp [go_sem])
  have d0 : w4.cell? ⟨w.heap.size + 1, 0, none⟩ = some (iv 0) := (HZ4.out.cell (p := ⟨w.heap.size + 1, 0, none⟩) (by simp)).trans (by simp [go_sem])
  have fd0 : w4.frozen? ⟨w.heap.size + 1, 0, none⟩ = false := (HZ4.out.frozen (p := ⟨w.heap.size + 1, 0, none⟩) (by simp)).trans (by simp [go_sem])
  have d1 : w4.cell? ⟨w.heap.size + 1, 1, none⟩ = some (iv 0) := (HZ4.out.cell (p := ⟨w.heap.size + 1, 1, none⟩) (by simp)).trans (by simp [go_sem])
  have fd1 : w4.frozen? ⟨w.heap.size + 1, 1, none⟩ = false := (HZ4.out.frozen (p := ⟨w.heap.size + 1, 1, none⟩) (by simp)).trans (by simp [go_sem])
  have d2 : w4.cell? ⟨w.heap.size + 1, 2, none⟩ = some (iv 0) := (HZ4.out.cell (p := ⟨w.heap.size + 1, 2, none⟩) (by simp)).trans (by simp [go_sem])
  have fd2 : w4.frozen? ⟨w.heap.size + 1, 2, none⟩ = false := (HZ4.out.frozen (p := ⟨w.heap.size + 1, 2, none⟩) (by simp)).trans (by simp [go_sem])
  have d3 : w4.cell? ⟨w.heap.size + 1, 3, none⟩ = some (iv 0) := (HZ4.out.cell (p := ⟨w.heap.size + 1, 3, none⟩) (by simp)).trans (by simp [go_sem])
  have fd3 : w4.frozen? ⟨w.heap.size + 1, 3, none⟩ = false := (HZ4.out.frozen (p := ⟨w.heap.size + 1, 3, none⟩) (by simp)).trans (by simp [go_sem])
  have d4 : w4.cell? ⟨w.heap.size + 1, 4, none⟩ = some (iv 0) := (HZ4.out.cell (p := ⟨w.heap.size + 1, 4, none⟩) (by simp)).trans (by simp [go_sem])
  have fd4 : w4.frozen? ⟨w.heap.size + 1, 4, none⟩ = false := (HZ4.out.frozen (p := ⟨w.heap.size + 1, 4, none⟩) (by simp)).trans (by simp [go_sem])
  have d5 : w4.cell? ⟨w.heap.size + 1, 5, none⟩ = some (iv 0) := (HZ4.out.cell (p := ⟨w.heap.size + 1, 5, none⟩) (by simp)).trans (by simp [go_sem])
  have fd5 : w4.frozen? ⟨w.heap.size + 1, 5, none⟩ = false := (HZ4.out.frozen (p := ⟨w.heap.size + 1, 5, none⟩) (by simp)).trans (by simp [go_sem])
  have d6 : w4.cell? ⟨w.heap.size + 1, 6, none⟩ = some (iv 0) := (HZ4.out.cell (p := ⟨w.heap.size + 1, 6, none⟩) (by simp)).trans (by simp [go_sem])
  have fd6 : w4.frozen? ⟨w.heap.size + 1, 6, none⟩ = false := (HZ4.out.frozen (p := ⟨w.heap.size + 1, 6, none⟩) (by simp)).trans (by simp [go_sem])
  have d7 : w4.cell? ⟨w.heap.size + 1, 7, none⟩ = some (iv 0) := (HZ4.out.cell (p := ⟨w.heap.size + 1, 7, none⟩) (by simp)).trans (by simp [go_sem])
  have fd7 : w4.frozen? ⟨w.heap.size + 1, 7, none⟩ = false := (HZ4.out.frozen (p := ⟨w.heap.size + 1, 7, none⟩) (by simp)).trans (by simp [go_sem])
  have d8 : w4.cell? ⟨w.heap.size + 1, 8, none⟩ = some (iv 0) := (HZ4.out.cell (p := ⟨w.heap.size + 1, 8, none⟩) (by simp)).trans (by simp [go_sem])
  have fd8 : w4.frozen? ⟨w.heap.size + 1, 8, none⟩ = false := (HZ4.out.frozen (p := ⟨w.heap.size + 1, 8, none⟩) (by simp)).trans (by simp [go_sem])
  go_wp2
  refine bodyPost_ret (v := .tuple #[.agg #[iv 0, iv 0, iv 0, iv 0, iv 0, iv 0, iv 0, iv 0, iv 0], .bool false]) (by simp [results, Try.results182, go_sem, d0, d1, d2, d3, d4, d5, d6, d7, d8]) rfl ⟨rfl, ?_⟩
  have HBX := hid (below_step H0.out HZ4.out)
  clear HX HZ4
  repeat (refine Below.setCell ?_ (by simp) _)
  exact HBX.out

set_option maxHeartbeats 4000000 in
theorem specSignDigest_any_yes {B : Nat} {ks : List (List Int)} {v : Value} (a0 a1 a2 a3 a4 a5 a6 a7 a8 : Int) (w : World) (h : Sl B w 5 v ks) (hB : B ≤ w.heap.size) (hx : signatureB a0 a1 a2 a3 a4 a5 a6 a7 a8 = true) (k : Nat) (hk : k < ks.length) (hf : findI 0 a0 ks = (k : Int)) :
    Calls Try.prog 182 #[v, .agg #[iv a0, iv a1, iv a2, iv a3, iv a4, iv a5, iv a6, iv a7, iv a8]] w (Ret (.tuple #[.agg #[iv a0, iv a1, iv a2, iv a3, iv a4, iv a5, iv a6, iv a7, iv (markW (fld ks k 2) (fld ks k 4) [104, a0, a1, a2, a3, a4, a5, a6, a7])], .bool true]) w) := by
  obtain ⟨m, hm⟩ : ∃ m : Int, m = (markW (fld ks k 2) (fld ks k 4) [104, a0, a1, a2, a3, a4, a5, a6, a7]) := ⟨_, rfl⟩
  rw [← hm]
  have HM := hid hm
  clear hm
  have HX : Below ((w.alloc (.cells #[iv a0, iv a1, iv a2, iv a3, iv a4, iv a5, iv a6, iv a7, iv a8] 117)).alloc (.cells #[iv 0, iv 0, iv 0, iv 0, iv 0, iv 0, iv 0, iv 0, iv 0] 117)).heap.size ((w.alloc (.cells #[iv a0, iv a1, iv a2, iv a3, iv a4, iv a5, iv a6, iv a7, iv a8] 117)).alloc (.cells #[iv 0, iv 0, iv 0, iv 0, iv 0, iv 0, iv 0, iv 0, iv 0] 117)) ((w.alloc (.cells #[iv a0, iv a1, iv a2, iv a3, iv a4, iv a5, iv a6, iv a7, iv a8] 117)).alloc (.cells #[iv 0, iv 0, iv 0, iv 0, iv 0, iv 0, iv 0, iv 0, iv 0] 117)) := Below.refl _ _
  have h0 : Below w.heap.size w ((w.alloc (.cells #[iv a0, iv a1, iv a2, iv a3, iv a4, iv a5, iv a6, iv a7, iv a8] 117)).alloc (.cells #[iv 0, iv 0, iv 0, iv 0, iv 0, iv 0, iv 0, iv 0, iv 0] 117)) := (below_alloc _ _).alloc (by simp) _
  have hB1 : B ≤ ((w.alloc (.cells #[iv a0, iv a1, iv a2, iv a3, iv a4, iv a5, iv a6, iv a7, iv a8] 117)).alloc (.cells #[iv 0, iv 0, iv 0, iv 0, iv 0, iv 0, iv 0, iv 0, iv 0] 117)).heap.size := by simp; omega
  have h1 : Sl B ((w.alloc (.cells #[iv a0, iv a1, iv a2, iv a3, iv a4, iv a5, iv a6, iv a7, iv a8] 117)).alloc (.cells #[iv 0, iv 0, iv 0, iv 0, iv 0, iv 0, iv 0, iv 0, iv 0] 117)) 5 v ks := h.below h0 hB
  have HS : Hid (∀ w' : World, Below ((w.alloc (.cells #[iv a0, iv a1, iv a2, iv a3, iv a4, iv a5, iv a6, iv a7, iv a8] 117)).alloc (.cells #[iv 0, iv 0, iv 0, iv 0, iv 0, iv 0, iv 0, iv 0, iv 0] 117)).heap.size ((w.alloc (.cells #[iv a0, iv a1, iv a2, iv a3, iv a4, iv a5, iv a6, iv a7, iv a8] 117)).alloc (.cells #[iv 0, iv 0, iv 0, iv 0, iv 0, iv 0, iv 0, iv 0, iv 0] 117)) w' → (w'.cell? ⟨w.heap.size, 0, none⟩ = some (iv a0) ∧ w'.cell? ⟨w.heap.size, 1, none⟩ = some (iv a1) ∧ w'.cell? ⟨w.heap.size, 2, none⟩ = some (iv a2) ∧ w'.cell? ⟨w.heap.size, 3, none⟩ = some (iv a3) ∧ w'.cell? ⟨w.heap.size, 4, none⟩ = some (iv a4) ∧ w'.cell? ⟨w.heap.size, 5, none⟩ = some (iv a5) ∧ w'.cell? ⟨w.heap.size, 6, none⟩ = some (iv a6) ∧ w'.cell? ⟨w.heap.size, 7, none⟩ = some (iv a7) ∧ w'.cell? ⟨w.heap.size, 8, none⟩ = some (iv a8) ∧ Below ((w.alloc (.cells #[iv a0, iv a1, iv a2, iv a3, iv a4, iv a5, iv a6, iv a7, iv a8] 117)).alloc (.cells #[iv 0, iv 0, iv 0, iv 0, iv 0, iv 0, iv 0, iv 0, iv 0] 117)).heap.size ((w.alloc (.cells #[iv a0, iv a1, iv a2, iv a3, iv a4, iv a5, iv a6, iv a7, iv a8] 117)).alloc (.cells #[iv 0, iv 0, iv 0, iv 0, iv 0, iv 0, iv 0, iv 0, iv 0] 117)) w')) := hid fun w' hx => ⟨(hx.cell (p := ⟨w.heap.size, 0, none⟩) (by simp; omega)).trans (by simp [go_sem]), (hx.cell (p := ⟨w.heap.size, 1, none⟩) (by simp; omega)).trans (by simp [go_sem]), (hx.cell (p := ⟨w.heap.size, 2, none⟩) (by simp; omega)).trans (by simp [go_sem]), (hx.cell (p := ⟨w.heap.size, 3, none⟩) (by simp; omega)).trans (by simp [go_sem]), (hx.cell (p := ⟨w.heap.size, 4, none⟩) (by simp; omega)).trans (by simp [go_sem]), (hx.cell (p := ⟨w.heap.size, 5, none⟩) (by simp; omega)).trans (by simp [go_sem]), (hx.cell (p := ⟨w.heap.size, 6, none⟩) (by simp; omega)).trans (by simp [go_sem]), (hx.cell (p := ⟨w.heap.size, 7, none⟩) (by simp; omega)).trans (by simp [go_sem]), (hx.cell (p := ⟨w.heap.size, 8, none⟩) (by simp; omega)).trans (by simp [go_sem]), hx⟩
  have HV := hid h1
  have HBB := hid hB1
  have H0 := hid h0
  clear h h1 hB1 h0
  have HF := hid hf
  have HI : Hid (∀ W : World, Calls Try.prog 171 #[.agg #[iv a0, iv a1, iv a2, iv a3, iv a4, iv a5, iv a6, iv a7, iv a8]] W (Ret (.bool true) W)) := hid fun W => by rw [← hx]; exact specIsSignature_any _ _ _ _ _ _ _ _ _ W
  clear hf hx
  go_enter Try.func182, Try.ntmps182
  go_wp2_with fail
  refine (specFindKey_any _ _ HV.out HBB.out).mono ?_
  rintro e w1 ⟨rfl, hb1⟩
  have HZ1 := hid (below_step HX hb1)
  rw [HF.out]
  clear hb1
  obtain ⟨c0, c1, c2, c3, c4, c5, c6, c7, c8, -⟩ := HS.out _ HZ1.out
  go_wp2_with fail
  refine (HI.out _).mono ?_
  rintro e w4 ⟨rfl, hb4⟩
  have HZ4 := hid (below_step HZ1.out hb4)
  clear hb4 c0 c1 c2 c3 c4 c5 c6 c7 c8
  obtain ⟨c0, c1, c2, c3, c4, c5, c6, c7, c8, -⟩ := HS.out _ HZ4.out
  have fz : w4.frozen? ⟨w.heap.size, 8, none⟩ = false := (HZ4.out.frozen (p := ⟨w.heap.size, 8, none⟩) (by simp; omega)).trans (by simp [go_sem])
  have d0 : w4.cell? ⟨w.heap.size + 1, 0, none⟩ = some (iv 0) := (HZ4.out.cell (p := ⟨w.heap.size + 1, 0, none⟩) (by simp)).trans (by simp [go_sem])
  have fd0 : w4.frozen? ⟨w.heap.size + 1, 0, none⟩ = false := (HZ4.out.frozen (p := ⟨w.heap.size + 1, 0, none⟩) (by simp)).trans (by simp [go_sem])
  have d1 : w4.cell? ⟨w.heap.size + 1, 1, none⟩ = some (iv 0) := (HZ4.out.cell (p := ⟨w.heap.size + 1, 1, none⟩) (by simp)).trans (by simp [go_sem])
  have fd1 : w4.frozen? ⟨w.heap.size + 1, 1, none⟩ = false := (HZ4.out.frozen (p := ⟨w.heap.size + 1, 1, none⟩) (by simp)).trans (by simp [go_sem])
  have d2 : w4.cell? ⟨w.heap.size + 1, 2, none⟩ = some (iv 0) := (HZ4.out.cell (p := ⟨w.heap.size + 1, 2, none⟩) (by simp)).trans (by simp [go_sem])
  have fd2 : w4.frozen? ⟨w.heap.size + 1, 2, none⟩ = false := (HZ4.out.frozen (p := ⟨w.heap.size + 1, 2, none⟩) (by simp)).trans (by simp [go_sem])
  have d3 : w4.cell? ⟨w.heap.size + 1, 3, none⟩ = some (iv 0) := (HZ4.out.cell (p := ⟨w.heap.size + 1, 3, none⟩) (by simp)).trans (by simp [go_sem])
  have fd3 : w4.frozen? ⟨w.heap.size + 1, 3, none⟩ = false := (HZ4.out.frozen (p := ⟨w.heap.size + 1, 3, none⟩) (by simp)).trans (by simp [go_sem])
  have d4 : w4.cell? ⟨w.heap.size + 1, 4, none⟩ = some (iv 0) := (HZ4.out.cell (p := ⟨w.heap.size + 1, 4, none⟩) (by simp)).trans (by simp [go_sem])
  have fd4 : w4.frozen? ⟨w.heap.size + 1, 4, none⟩ = false := (HZ4.out.frozen (p := ⟨w.heap.size + 1, 4, none⟩) (by simp)).trans (by simp [go_sem])
  have d5 : w4.cell? ⟨w.heap.size + 1, 5, none⟩ = some (iv 0) := (HZ4.out.cell (p := ⟨w.heap.size + 1, 5, none⟩) (by simp)).trans (by simp [go_sem])
  have fd5 : w4.frozen? ⟨w.heap.size + 1, 5, none⟩ = false := (HZ4.out.frozen (p := ⟨w.heap.size + 1, 5, none⟩) (by simp)).trans (by simp [go_sem])
  have d6 : w4.cell? ⟨w.heap.size + 1, 6, none⟩ = some (iv 0) := (HZ4.out.cell (p := ⟨w.heap.size + 1, 6, none⟩) (by simp)).trans (by simp [go_sem])
  have fd6 : w4.frozen? ⟨w.heap.size + 1, 6, none⟩ = false := (HZ4.out.frozen (p := ⟨w.heap.size + 1, 6, none⟩) (by simp)).trans (by simp [go_sem])
  have d7 : w4.cell? ⟨w.heap.size + 1, 7, none⟩ = some (iv 0) := (HZ4.out.cell (p := ⟨w.heap.size + 1, 7, none⟩) (by simp)).trans (by simp [go_sem])
  have fd7 : w4.frozen? ⟨w.heap.size + 1, 7, none⟩ = false := (HZ4.out.frozen (p := ⟨w.heap.size + 1, 7, none⟩) (by simp)).trans (by simp [go_sem])
  have d8 : w4.cell? ⟨w.heap.size + 1, 8, none⟩ = some (iv 0) := (HZ4.out.cell (p := ⟨w.heap.size + 1, 8, none⟩) (by simp)).trans (by simp [go_sem])
  have fd8 : w4.frozen? ⟨w.heap.size + 1, 8, none⟩ = false := (HZ4.out.frozen (p := ⟨w.heap.size + 1, 8, none⟩) (by simp)).trans (by simp [go_sem])
  obtain ⟨A, c, rfl, hca, hcb, -, hcell⟩ := HV.out.below HZ4.out HBB.out
  obtain ⟨b, off, rfl, hbB, hcc⟩ := hcell (by omega)
  have k0 := hcc k 0 hk (by omega)
  have k1 := hcc k 1 hk (by omega)
  have k2 := hcc k 2 hk (by omega)
  have k3 := hcc k 3 hk (by omega)
  have k4 := hcc k 4 hk (by omega)
  rw [Nat.add_zero] at k0
  have hbl : b < w4.heap.size := by have := HBB.out; have := HZ4.out.size; omega
  have hwl : w.heap.size < w4.heap.size := by have := HZ4.out.size; simp at this; omega
  clear hcc hcell
  go_wp2_with fail
  go_region_with (first | (go_at_call 160; refine (specSignatureInts_any _ _ _ _ _ _ _ _ _ _).mono ?_; rintro e w5 ⟨v5, rfl, ho5, hb5⟩; have HO5 := hid ho5; have HZ5 := hid hb5; have kk0 := (hb5.cell (p := ⟨b, off + k * 5, none⟩) (by simpa using hbl)).trans k0; have kk1 := (hb5.cell (p := ⟨b, off + k * 5 + 1, none⟩) (by simpa using hbl)).trans k1; have kk2 := (hb5.cell (p := ⟨b, off + k * 5 + 2, none⟩) (by simpa using hbl)).trans k2; have kk3 := (hb5.cell (p := ⟨b, off + k * 5 + 3, none⟩) (by simpa using hbl)).trans k3; have kk4 := (hb5.cell (p := ⟨b, off + k * 5 + 4, none⟩) (by simpa using hbl)).trans k4; obtain ⟨p0, p1, p2, p3, p4, p5, p6, p7, p8, -⟩ := HS.out _ (below_step HZ4.out.drew hb5); clear hb5 ho5) | (go_at_call 113; refine (ret_cast (y := iv m) (by rw [HM.out]) (specMarkWith_any _ _ _ _ _ _ (Own.si (zs := [104, a0, a1, a2, a3, a4, a5, a6, a7]) HO5.out) (Nat.le_refl _) (by simp))).mono ?_; rintro e w6 ⟨rfl, hb6⟩; have HZ7 := hid (below_step HZ4.out.drew (below_step HZ5.out hb6)); clear hb6; obtain ⟨c0, c1, c2, c3, c4, c5, c6, c7, c8, -⟩ := HS.out _ HZ7.out; have fz : w6.frozen? ⟨w.heap.size, 8, none⟩ = false := (HZ7.out.frozen (p := ⟨w.heap.size, 8, none⟩) (by simp; omega)).trans (by simp [go_sem]); have d0 : w6.cell? ⟨w.heap.size + 1, 0, none⟩ = some (iv 0) := (HZ7.out.cell (p := ⟨w.heap.size + 1, 0, none⟩) (by simp)).trans (by simp [go_sem]); have fd0 : w6.frozen? ⟨w.heap.size + 1, 0, none⟩ = false := (HZ7.out.frozen (p := ⟨w.heap.size + 1, 0, none⟩) (by simp)).trans (by simp [go_sem]); have d1 : w6.cell? ⟨w.heap.size + 1, 1, none⟩ = some (iv 0) := (HZ7.out.cell (p := ⟨w.heap.size + 1, 1, none⟩) (by simp)).trans (by simp [go_sem]); have fd1 : w6.frozen? ⟨w.heap.size + 1, 1, none⟩ = false := (HZ7.out.frozen (p := ⟨w.heap.size + 1, 1, none⟩) (by simp)).trans (by simp [go_sem]); have d2 : w6.cell? ⟨w.heap.size + 1, 2, none⟩ = some (iv 0) := (HZ7.out.cell (p := ⟨w.heap.size + 1, 2, none⟩) (by simp)).trans (by simp [go_sem]); have fd2 : w6.frozen? ⟨w.heap.size + 1, 2, none⟩ = false := (HZ7.out.frozen (p := ⟨w.heap.size + 1, 2, none⟩) (by simp)).trans (by simp [go_sem]); have d3 : w6.cell? ⟨w.heap.size + 1, 3, none⟩ = some (iv 0) := (HZ7.out.cell (p := ⟨w.heap.size + 1, 3, none⟩) (by simp)).trans (by simp [go_sem]); have fd3 : w6.frozen? ⟨w.heap.size + 1, 3, none⟩ = false := (HZ7.out.frozen (p := ⟨w.heap.size + 1, 3, none⟩) (by simp)).trans (by simp [go_sem]); have d4 : w6.cell? ⟨w.heap.size + 1, 4, none⟩ = some (iv 0) := (HZ7.out.cell (p := ⟨w.heap.size + 1, 4, none⟩) (by simp)).trans (by simp [go_sem]); have fd4 : w6.frozen? ⟨w.heap.size + 1, 4, none⟩ = false := (HZ7.out.frozen (p := ⟨w.heap.size + 1, 4, none⟩) (by simp)).trans (by simp [go_sem]); have d5 : w6.cell? ⟨w.heap.size + 1, 5, none⟩ = some (iv 0) := (HZ7.out.cell (p := ⟨w.heap.size + 1, 5, none⟩) (by simp)).trans (by simp [go_sem]); have fd5 : w6.frozen? ⟨w.heap.size + 1, 5, none⟩ = false := (HZ7.out.frozen (p := ⟨w.heap.size + 1, 5, none⟩) (by simp)).trans (by simp [go_sem]); have d6 : w6.cell? ⟨w.heap.size + 1, 6, none⟩ = some (iv 0) := (HZ7.out.cell (p := ⟨w.heap.size + 1, 6, none⟩) (by simp)).trans (by simp [go_sem]); have fd6 : w6.frozen? ⟨w.heap.size + 1, 6, none⟩ = false := (HZ7.out.frozen (p := ⟨w.heap.size + 1, 6, none⟩) (by simp)).trans (by simp [go_sem]); have d7 : w6.cell? ⟨w.heap.size + 1, 7, none⟩ = some (iv 0) := (HZ7.out.cell (p := ⟨w.heap.size + 1, 7, none⟩) (by simp)).trans (by simp [go_sem]); have fd7 : w6.frozen? ⟨w.heap.size + 1, 7, none⟩ = false := (HZ7.out.frozen (p := ⟨w.heap.size + 1, 7, none⟩) (by simp)).trans (by simp [go_sem]); have d8 : w6.cell? ⟨w.heap.size + 1, 8, none⟩ = some (iv 0) := (HZ7.out.cell (p := ⟨w.heap.size + 1, 8, none⟩) (by simp)).trans (by simp [go_sem]); have fd8 : w6.frozen? ⟨w.heap.size + 1, 8, none⟩ = false := (HZ7.out.frozen (p := ⟨w.heap.size + 1, 8, none⟩) (by simp)).trans (by simp [go_sem])))
  all_goals
    go_wp2
    refine bodyPost_ret (v := .tuple #[.agg #[iv a0, iv a1, iv a2, iv a3, iv a4, iv a5, iv a6, iv a7, iv m], .bool true]) (by simp [results, Try.results182, go_sem, d0, d1, d2, d3, d4, d5, d6, d7, d8]) rfl ⟨rfl, ?_⟩
    have HBX := hid (below_step H0.out HZ7.out)
    clear HX HZ7
    repeat (refine Below.setCell ?_ (by simp) _)
    exact HBX.out

theorem specSignDigest_any_no {B : Nat} {ks : List (List Int)} {v : Value} (a0 a1 a2 a3 a4 a5 a6 a7 a8 : Int) (w : World) (h : Sl B w 5 v ks) (hB : B ≤ w.heap.size) (hno : signatureB a0 a1 a2 a3 a4 a5 a6 a7 a8 = false ∨ findI 0 a0 ks = -1) :
    Calls Try.prog 182 #[v, .agg #[iv a0, iv a1, iv a2, iv a3, iv a4, iv a5, iv a6, iv a7, iv a8]] w (Ret (.tuple #[.agg #[iv 0, iv 0, iv 0, iv 0, iv 0, iv 0, iv 0, iv 0, iv 0], .bool false]) w) := by
  rcases findI_range 0 a0 ks with hf | ⟨k, hk, hf, -⟩
  · exact specSignDigest_any_nf a0 a1 a2 a3 a4 a5 a6 a7 a8 w h hB _ rfl hf
  · rcases hno with hx | hx
    · exact specSignDigest_any_nx a0 a1 a2 a3 a4 a5 a6 a7 a8 w h hB hx k hk hf
    · exfalso; rw [hx] at hf; omega

end Go.Proofs.Ytkdpfbodmfjkkaa
