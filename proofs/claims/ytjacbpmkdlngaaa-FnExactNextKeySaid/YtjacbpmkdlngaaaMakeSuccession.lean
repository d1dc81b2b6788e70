/- MakeSuccession of the program and of the reference return the marked succession and true where it may be, else the zero value and false. No condition. -/
import Derived.Test.YtjacbpmkdlngaaaRows
import Derived.Test.YtjacbpmkdlngaaaPlain
import Derived.Test.YtjacbpmkdlngaaaMark
import Derived.Test.YtjacbpmkdlngaaaTimeSame
import Derived.Test.YtjacbpmkdlngaaaIntsSuccession
namespace Go.Proofs.Ytjacbpmkdlngaaa
open Go.RowKit


set_option maxRecDepth 8000 in
set_option maxHeartbeats 4000000 in
theorem specMakeSuccession_any_A {B : Nat} {ks : List (List Int)} {v : Value} (a0 a1 a2 a3 : Int) (w : World) (h : Sl B w 5 v ks) (hB : B ≤ w.heap.size) (hf : findI 0 a0 ks = -1) (z : Int) (hf2 : findI 0 a1 ks = z) :
    Calls Try.prog 34 #[v, .agg #[iv a0, iv a1, iv a2, iv a3]] w (Ret (.tuple #[.agg #[iv 0, iv 0, iv 0, iv 0], .bool false]) w) := by
  have HX : Below ((w.alloc (.cells #[iv a0, iv a1, iv a2, iv a3] 47)).alloc (.cells #[iv 0, iv 0, iv 0, iv 0] 47)).heap.size ((w.alloc (.cells #[iv a0, iv a1, iv a2, iv a3] 47)).alloc (.cells #[iv 0, iv 0, iv 0, iv 0] 47)) ((w.alloc (.cells #[iv a0, iv a1, iv a2, iv a3] 47)).alloc (.cells #[iv 0, iv 0, iv 0, iv 0] 47)) := Below.refl _ _
  have h0 : Below w.heap.size w ((w.alloc (.cells #[iv a0, iv a1, iv a2, iv a3] 47)).alloc (.cells #[iv 0, iv 0, iv 0, iv 0] 47)) := (below_alloc _ _).alloc (by simp) _
  have hB1 : B ≤ ((w.alloc (.cells #[iv a0, iv a1, iv a2, iv a3] 47)).alloc (.cells #[iv 0, iv 0, iv 0, iv 0] 47)).heap.size := by simp; omega
  have h1 : Sl B ((w.alloc (.cells #[iv a0, iv a1, iv a2, iv a3] 47)).alloc (.cells #[iv 0, iv 0, iv 0, iv 0] 47)) 5 v ks := h.below h0 hB
  have HS : Hid (∀ w' : World, Below ((w.alloc (.cells #[iv a0, iv a1, iv a2, iv a3] 47)).alloc (.cells #[iv 0, iv 0, iv 0, iv 0] 47)).heap.size ((w.alloc (.cells #[iv a0, iv a1, iv a2, iv a3] 47)).alloc (.cells #[iv 0, iv 0, iv 0, iv 0] 47)) w' → (w'.cell? ⟨w.heap.size, 0, none⟩ = some (iv a0) ∧ w'.cell? ⟨w.heap.size, 1, none⟩ = some (iv a1) ∧ w'.cell? ⟨w.heap.size, 2, none⟩ = some (iv a2) ∧ w'.cell? ⟨w.heap.size, 3, none⟩ = some (iv a3) ∧ Below ((w.alloc (.cells #[iv a0, iv a1, iv a2, iv a3] 47)).alloc (.cells #[iv 0, iv 0, iv 0, iv 0] 47)).heap.size ((w.alloc (.cells #[iv a0, iv a1, iv a2, iv a3] 47)).alloc (.cells #[iv 0, iv 0, iv 0, iv 0] 47)) w')) := hid fun w' hx => ⟨(hx.cell (p := ⟨w.heap.size, 0, none⟩) (by simp; omega)).trans (by simp [go_sem]), (hx.cell (p := ⟨w.heap.size, 1, none⟩) (by simp; omega)).trans (by simp [go_sem]), (hx.cell (p := ⟨w.heap.size, 2, none⟩) (by simp; omega)).trans (by simp [go_sem]), (hx.cell (p := ⟨w.heap.size, 3, none⟩) (by simp; omega)).trans (by simp [go_sem]), hx⟩
  have HV := hid h1
  have HBB := hid hB1
  have H0 := hid h0
  clear h h1 hB1 h0
  have HF := hid hf
  have HF2 := hid hf2
  clear hf hf2
  go_enter Try.func34, Try.ntmps34
  go_wp2_with fail
  refine (specFindKey_any _ _ HV.out HBB.out).mono ?_
  rintro e w1 ⟨rfl, hb1⟩
  have HZ1 := hid (below_step HX hb1)
  rw [HF.out]
  clear hb1
  obtain ⟨c0, c1, c2, c3, -⟩ := HS.out _ HZ1.out
  go_wp2_with fail
  refine (specFindKey_any _ _ (HV.out.below HZ1.out HBB.out) (Nat.le_trans HBB.out HZ1.out.size)).mono ?_
  rintro e w2 ⟨rfl, hb2⟩
  have HZ2 := hid (below_step HZ1.out hb2)
  rw [HF2.out]
  clear hb2 c0 c1 c2 c3
  obtain ⟨c0, c1, c2, c3, -⟩ := HS.out _ HZ2.out
  have hwl : w.heap.size < w2.heap.size := by have := HZ2.out.size; simp at this; omega
  go_wp2_with fail
  go_quiet ((go_at_call 76; exact Calls.quiet_of_same (specl4Time_same _ _)))
  rename_i nq
  obtain ⟨w3, hw3⟩ : ∃ w3 : World, w3 = w2.drewN nq := ⟨_, rfl⟩
  rw [← hw3]
  have HZ3 : Hid (Below ((w.alloc (.cells #[iv a0, iv a1, iv a2, iv a3] 47)).alloc (.cells #[iv 0, iv 0, iv 0, iv 0] 47)).heap.size ((w.alloc (.cells #[iv a0, iv a1, iv a2, iv a3] 47)).alloc (.cells #[iv 0, iv 0, iv 0, iv 0] 47)) w3) := hid (hw3 ▸ below_drewN HZ2.out nq)
  clear hw3 hwl c0 c1 c2 c3 
  obtain ⟨c0, c1, c2, c3, -⟩ := HS.out _ HZ3.out
  have fz : w3.frozen? ⟨w.heap.size, 3, none⟩ = false := (HZ3.out.frozen (p := ⟨w.heap.size, 3, none⟩) (by simp; omega)).trans (by simp [go_sem])
  have d0 : w3.cell? ⟨w.heap.size + 1, 0, none⟩ = some (iv 0) := (HZ3.out.cell (p := ⟨w.heap.size + 1, 0, none⟩) (by simp)).trans (by simp [go_sem])
  have fd0 : w3.frozen? ⟨w.heap.size + 1, 0, none⟩ = false := (HZ3.out.frozen (p := ⟨w.heap.size + 1, 0, none⟩) (by simp)).trans (by simp [go_sem])
  have d1 : w3.cell? ⟨w.heap.size + 1, 1, none⟩ = some (iv 0) := (HZ3.out.cell (p := ⟨w.heap.size + 1, 1, none⟩) (by simp)).trans (by simp [go_sem])
  have fd1 : w3.frozen? ⟨w.heap.size + 1, 1, none⟩ = false := (HZ3.out.frozen (p := ⟨w.heap.size + 1, 1, none⟩) (by simp)).trans (by simp [go_sem])
  have d2 : w3.cell? ⟨w.heap.size + 1, 2, none⟩ = some (iv 0) := (HZ3.out.cell (p := ⟨w.heap.size + 1, 2, none⟩) (by simp)).trans (by simp [go_sem])
  have fd2 : w3.frozen? ⟨w.heap.size + 1, 2, none⟩ = false := (HZ3.out.frozen (p := ⟨w.heap.size + 1, 2, none⟩) (by simp)).trans (by simp [go_sem])
  have d3 : w3.cell? ⟨w.heap.size + 1, 3, none⟩ = some (iv 0) := (HZ3.out.cell (p := ⟨w.heap.size + 1, 3, none⟩) (by simp)).trans (by simp [go_sem])
  have fd3 : w3.frozen? ⟨w.heap.size + 1, 3, none⟩ = false := (HZ3.out.frozen (p := ⟨w.heap.size + 1, 3, none⟩) (by simp)).trans (by simp [go_sem])
  go_wp2
  refine bodyPost_ret (v := .tuple #[.agg #[iv 0, iv 0, iv 0, iv 0], .bool false]) (by simp [results, Try.results34, go_sem, d0, d1, d2, d3]) rfl ⟨rfl, ?_⟩
  have HBX := hid (below_step H0.out HZ3.out)
  clear HX HZ3
  repeat (refine Below.setCell ?_ (by simp) _)
  exact HBX.out

set_option maxRecDepth 8000 in
set_option maxHeartbeats 4000000 in
theorem specMakeSuccession_any_B {B : Nat} {ks : List (List Int)} {v : Value} (a0 a1 a2 a3 : Int) (w : World) (h : Sl B w 5 v ks) (hB : B ≤ w.heap.size) (i : Nat) (hi : i < ks.length) (hf : findI 0 a0 ks = (i : Int)) (hf2 : findI 0 a1 ks = -1) :
    Calls Try.prog 34 #[v, .agg #[iv a0, iv a1, iv a2, iv a3]] w (Ret (.tuple #[.agg #[iv 0, iv 0, iv 0, iv 0], .bool false]) w) := by
  have HX : Below ((w.alloc (.cells #[iv a0, iv a1, iv a2, iv a3] 47)).alloc (.cells #[iv 0, iv 0, iv 0, iv 0] 47)).heap.size ((w.alloc (.cells #[iv a0, iv a1, iv a2, iv a3] 47)).alloc (.cells #[iv 0, iv 0, iv 0, iv 0] 47)) ((w.alloc (.cells #[iv a0, iv a1, iv a2, iv a3] 47)).alloc (.cells #[iv 0, iv 0, iv 0, iv 0] 47)) := Below.refl _ _
  have h0 : Below w.heap.size w ((w.alloc (.cells #[iv a0, iv a1, iv a2, iv a3] 47)).alloc (.cells #[iv 0, iv 0, iv 0, iv 0] 47)) := (below_alloc _ _).alloc (by simp) _
  have hB1 : B ≤ ((w.alloc (.cells #[iv a0, iv a1, iv a2, iv a3] 47)).alloc (.cells #[iv 0, iv 0, iv 0, iv 0] 47)).heap.size := by simp; omega
  have h1 : Sl B ((w.alloc (.cells #[iv a0, iv a1, iv a2, iv a3] 47)).alloc (.cells #[iv 0, iv 0, iv 0, iv 0] 47)) 5 v ks := h.below h0 hB
  have HS : Hid (∀ w' : World, Below ((w.alloc (.cells #[iv a0, iv a1, iv a2, iv a3] 47)).alloc (.cells #[iv 0, iv 0, iv 0, iv 0] 47)).heap.size ((w.alloc (.cells #[iv a0, iv a1, iv a2, iv a3] 47)).alloc (.cells #[iv 0, iv 0, iv 0, iv 0] 47)) w' → (w'.cell? ⟨w.heap.size, 0, none⟩ = some (iv a0) ∧ w'.cell? ⟨w.heap.size, 1, none⟩ = some (iv a1) ∧ w'.cell? ⟨w.heap.size, 2, none⟩ = some (iv a2) ∧ w'.cell? ⟨w.heap.size, 3, none⟩ = some (iv a3) ∧ Below ((w.alloc (.cells #[iv a0, iv a1, iv a2, iv a3] 47)).alloc (.cells #[iv 0, iv 0, iv 0, iv 0] 47)).heap.size ((w.alloc (.cells #[iv a0, iv a1, iv a2, iv a3] 47)).alloc (.cells #[iv 0, iv 0, iv 0, iv 0] 47)) w')) := hid fun w' hx => ⟨(hx.cell (p := ⟨w.heap.size, 0, none⟩) (by simp; omega)).trans (by simp [go_sem]), (hx.cell (p := ⟨w.heap.size, 1, none⟩) (by simp; omega)).trans (by simp [go_sem]), (hx.cell (p := ⟨w.heap.size, 2, none⟩) (by simp; omega)).trans (by simp [go_sem]), (hx.cell (p := ⟨w.heap.size, 3, none⟩) (by simp; omega)).trans (by simp [go_sem]), hx⟩
  have HV := hid h1
  have HBB := hid hB1
  have H0 := hid h0
  clear h h1 hB1 h0
  have HF := hid hf
  have HF2 := hid hf2
  clear hf hf2
  go_enter Try.func34, Try.ntmps34
  go_wp2_with fail
  refine (specFindKey_any _ _ HV.out HBB.out).mono ?_
  rintro e w1 ⟨rfl, hb1⟩
  have HZ1 := hid (below_step HX hb1)
  rw [HF.out]
  clear hb1
  obtain ⟨c0, c1, c2, c3, -⟩ := HS.out _ HZ1.out
  go_wp2_with fail
  refine (specFindKey_any _ _ (HV.out.below HZ1.out HBB.out) (Nat.le_trans HBB.out HZ1.out.size)).mono ?_
  rintro e w2 ⟨rfl, hb2⟩
  have HZ2 := hid (below_step HZ1.out hb2)
  rw [HF2.out]
  clear hb2 c0 c1 c2 c3
  obtain ⟨c0, c1, c2, c3, -⟩ := HS.out _ HZ2.out
  obtain ⟨A, c, rfl, hca, hcb, -, hcell⟩ := HV.out.below HZ2.out HBB.out
  obtain ⟨b, off, rfl, hbB, hcc⟩ := hcell (by omega)
  have l1 := hcc i 1 hi (by omega)
  have hbl : b < w2.heap.size := by have := HBB.out; have := HZ2.out.size; omega
  have hi0 : (0 : Int) ≤ (i : Int) := Int.natCast_nonneg _
  have hi1 : (i : Int) < (ks.length : Int) := by omega
  have hi2 : decide ((i : Int) < 0) = false := by simp
  have hwl : w.heap.size < w2.heap.size := by have := HZ2.out.size; simp at this; omega
  clear hcc hcell
  go_wp2_with fail
  go_quiet ((go_at_call 76; exact Calls.quiet_of_same (specl4Time_same _ _)))
  rename_i nq
  obtain ⟨w3, hw3⟩ : ∃ w3 : World, w3 = w2.drewN nq := ⟨_, rfl⟩
  rw [← hw3]
  have HZ3 : Hid (Below ((w.alloc (.cells #[iv a0, iv a1, iv a2, iv a3] 47)).alloc (.cells #[iv 0, iv 0, iv 0, iv 0] 47)).heap.size ((w.alloc (.cells #[iv a0, iv a1, iv a2, iv a3] 47)).alloc (.cells #[iv 0, iv 0, iv 0, iv 0] 47)) w3) := hid (hw3 ▸ below_drewN HZ2.out nq)
  clear hw3 hwl c0 c1 c2 c3 l1 hbl 
  obtain ⟨c0, c1, c2, c3, -⟩ := HS.out _ HZ3.out
  have fz : w3.frozen? ⟨w.heap.size, 3, none⟩ = false := (HZ3.out.frozen (p := ⟨w.heap.size, 3, none⟩) (by simp; omega)).trans (by simp [go_sem])
  have d0 : w3.cell? ⟨w.heap.size + 1, 0, none⟩ = some (iv 0) := (HZ3.out.cell (p := ⟨w.heap.size + 1, 0, none⟩) (by simp)).trans (by simp [go_sem])
  have fd0 : w3.frozen? ⟨w.heap.size + 1, 0, none⟩ = false := (HZ3.out.frozen (p := ⟨w.heap.size + 1, 0, none⟩) (by simp)).trans (by simp [go_sem])
  have d1 : w3.cell? ⟨w.heap.size + 1, 1, none⟩ = some (iv 0) := (HZ3.out.cell (p := ⟨w.heap.size + 1, 1, none⟩) (by simp)).trans (by simp [go_sem])
  have fd1 : w3.frozen? ⟨w.heap.size + 1, 1, none⟩ = false := (HZ3.out.frozen (p := ⟨w.heap.size + 1, 1, none⟩) (by simp)).trans (by simp [go_sem])
  have d2 : w3.cell? ⟨w.heap.size + 1, 2, none⟩ = some (iv 0) := (HZ3.out.cell (p := ⟨w.heap.size + 1, 2, none⟩) (by simp)).trans (by simp [go_sem])
  have fd2 : w3.frozen? ⟨w.heap.size + 1, 2, none⟩ = false := (HZ3.out.frozen (p := ⟨w.heap.size + 1, 2, none⟩) (by simp)).trans (by simp [go_sem])
  have d3 : w3.cell? ⟨w.heap.size + 1, 3, none⟩ = some (iv 0) := (HZ3.out.cell (p := ⟨w.heap.size + 1, 3, none⟩) (by simp)).trans (by simp [go_sem])
  have fd3 : w3.frozen? ⟨w.heap.size + 1, 3, none⟩ = false := (HZ3.out.frozen (p := ⟨w.heap.size + 1, 3, none⟩) (by simp)).trans (by simp [go_sem])
  go_wp2
  refine bodyPost_ret (v := .tuple #[.agg #[iv 0, iv 0, iv 0, iv 0], .bool false]) (by simp [results, Try.results34, go_sem, d0, d1, d2, d3]) rfl ⟨rfl, ?_⟩
  have HBX := hid (below_step H0.out HZ3.out)
  clear HX HZ3
  repeat (refine Below.setCell ?_ (by simp) _)
  exact HBX.out

set_option maxRecDepth 8000 in
set_option maxHeartbeats 4000000 in
theorem specMakeSuccession_any_C {B : Nat} {ks : List (List Int)} {v : Value} (a0 a1 a2 a3 : Int) (w : World) (h : Sl B w 5 v ks) (hB : B ≤ w.heap.size) (i : Nat) (hi : i < ks.length) (hf : findI 0 a0 ks = (i : Int)) (k : Nat) (hk : k < ks.length) (hf2 : findI 0 a1 ks = (k : Int)) (hne : (a0 == a1) = true) :
    Calls Try.prog 34 #[v, .agg #[iv a0, iv a1, iv a2, iv a3]] w (Ret (.tuple #[.agg #[iv 0, iv 0, iv 0, iv 0], .bool false]) w) := by
  have HX : Below ((w.alloc (.cells #[iv a0, iv a1, iv a2, iv a3] 47)).alloc (.cells #[iv 0, iv 0, iv 0, iv 0] 47)).heap.size ((w.alloc (.cells #[iv a0, iv a1, iv a2, iv a3] 47)).alloc (.cells #[iv 0, iv 0, iv 0, iv 0] 47)) ((w.alloc (.cells #[iv a0, iv a1, iv a2, iv a3] 47)).alloc (.cells #[iv 0, iv 0, iv 0, iv 0] 47)) := Below.refl _ _
  have h0 : Below w.heap.size w ((w.alloc (.cells #[iv a0, iv a1, iv a2, iv a3] 47)).alloc (.cells #[iv 0, iv 0, iv 0, iv 0] 47)) := (below_alloc _ _).alloc (by simp) _
  have hB1 : B ≤ ((w.alloc (.cells #[iv a0, iv a1, iv a2, iv a3] 47)).alloc (.cells #[iv 0, iv 0, iv 0, iv 0] 47)).heap.size := by simp; omega
  have h1 : Sl B ((w.alloc (.cells #[iv a0, iv a1, iv a2, iv a3] 47)).alloc (.cells #[iv 0, iv 0, iv 0, iv 0] 47)) 5 v ks := h.below h0 hB
  have HS : Hid (∀ w' : World, Below ((w.alloc (.cells #[iv a0, iv a1, iv a2, iv a3] 47)).alloc (.cells #[iv 0, iv 0, iv 0, iv 0] 47)).heap.size ((w.alloc (.cells #[iv a0, iv a1, iv a2, iv a3] 47)).alloc (.cells #[iv 0, iv 0, iv 0, iv 0] 47)) w' → (w'.cell? ⟨w.heap.size, 0, none⟩ = some (iv a0) ∧ w'.cell? ⟨w.heap.size, 1, none⟩ = some (iv a1) ∧ w'.cell? ⟨w.heap.size, 2, none⟩ = some (iv a2) ∧ w'.cell? ⟨w.heap.size, 3, none⟩ = some (iv a3) ∧ Below ((w.alloc (.cells #[iv a0, iv a1, iv a2, iv a3] 47)).alloc (.cells #[iv 0, iv 0, iv 0, iv 0] 47)).heap.size ((w.alloc (.cells #[iv a0, iv a1, iv a2, iv a3] 47)).alloc (.cells #[iv 0, iv 0, iv 0, iv 0] 47)) w')) := hid fun w' hx => ⟨(hx.cell (p := ⟨w.heap.size, 0, none⟩) (by simp; omega)).trans (by simp [go_sem]), (hx.cell (p := ⟨w.heap.size, 1, none⟩) (by simp; omega)).trans (by simp [go_sem]), (hx.cell (p := ⟨w.heap.size, 2, none⟩) (by simp; omega)).trans (by simp [go_sem]), (hx.cell (p := ⟨w.heap.size, 3, none⟩) (by simp; omega)).trans (by simp [go_sem]), hx⟩
  have HV := hid h1
  have HBB := hid hB1
  have H0 := hid h0
  clear h h1 hB1 h0
  have HF := hid hf
  have HF2 := hid hf2
  clear hf hf2
  go_enter Try.func34, Try.ntmps34
  go_wp2_with fail
  refine (specFindKey_any _ _ HV.out HBB.out).mono ?_
  rintro e w1 ⟨rfl, hb1⟩
  have HZ1 := hid (below_step HX hb1)
  rw [HF.out]
  clear hb1
  obtain ⟨c0, c1, c2, c3, -⟩ := HS.out _ HZ1.out
  go_wp2_with fail
  refine (specFindKey_any _ _ (HV.out.below HZ1.out HBB.out) (Nat.le_trans HBB.out HZ1.out.size)).mono ?_
  rintro e w2 ⟨rfl, hb2⟩
  have HZ2 := hid (below_step HZ1.out hb2)
  rw [HF2.out]
  clear hb2 c0 c1 c2 c3
  obtain ⟨c0, c1, c2, c3, -⟩ := HS.out _ HZ2.out
  obtain ⟨A, c, rfl, hca, hcb, -, hcell⟩ := HV.out.below HZ2.out HBB.out
  obtain ⟨b, off, rfl, hbB, hcc⟩ := hcell (by omega)
  have l1 := hcc i 1 hi (by omega)
  have l2 := hcc k 1 hk (by omega)
  have hk0 : (0 : Int) ≤ (k : Int) := Int.natCast_nonneg _
  have hk1 : (k : Int) < (ks.length : Int) := by omega
  have hk2 : decide ((k : Int) < 0) = false := by simp
  have hbl : b < w2.heap.size := by have := HBB.out; have := HZ2.out.size; omega
  have hi0 : (0 : Int) ≤ (i : Int) := Int.natCast_nonneg _
  have hi1 : (i : Int) < (ks.length : Int) := by omega
  have hi2 : decide ((i : Int) < 0) = false := by simp
  have hwl : w.heap.size < w2.heap.size := by have := HZ2.out.size; simp at this; omega
  clear hcc hcell
  go_wp2_with fail
  go_quiet ((go_at_call 76; exact Calls.quiet_of_same (specl4Time_same _ _)))
  rename_i nq
  obtain ⟨w3, hw3⟩ : ∃ w3 : World, w3 = w2.drewN nq := ⟨_, rfl⟩
  rw [← hw3]
  have HZ3 : Hid (Below ((w.alloc (.cells #[iv a0, iv a1, iv a2, iv a3] 47)).alloc (.cells #[iv 0, iv 0, iv 0, iv 0] 47)).heap.size ((w.alloc (.cells #[iv a0, iv a1, iv a2, iv a3] 47)).alloc (.cells #[iv 0, iv 0, iv 0, iv 0] 47)) w3) := hid (hw3 ▸ below_drewN HZ2.out nq)
  clear hw3 hwl c0 c1 c2 c3 l1 hbl l2 
  obtain ⟨c0, c1, c2, c3, -⟩ := HS.out _ HZ3.out
  have fz : w3.frozen? ⟨w.heap.size, 3, none⟩ = false := (HZ3.out.frozen (p := ⟨w.heap.size, 3, none⟩) (by simp; omega)).trans (by simp [go_sem])
  have d0 : w3.cell? ⟨w.heap.size + 1, 0, none⟩ = some (iv 0) := (HZ3.out.cell (p := ⟨w.heap.size + 1, 0, none⟩) (by simp)).trans (by simp [go_sem])
  have fd0 : w3.frozen? ⟨w.heap.size + 1, 0, none⟩ = false := (HZ3.out.frozen (p := ⟨w.heap.size + 1, 0, none⟩) (by simp)).trans (by simp [go_sem])
  have d1 : w3.cell? ⟨w.heap.size + 1, 1, none⟩ = some (iv 0) := (HZ3.out.cell (p := ⟨w.heap.size + 1, 1, none⟩) (by simp)).trans (by simp [go_sem])
  have fd1 : w3.frozen? ⟨w.heap.size + 1, 1, none⟩ = false := (HZ3.out.frozen (p := ⟨w.heap.size + 1, 1, none⟩) (by simp)).trans (by simp [go_sem])
  have d2 : w3.cell? ⟨w.heap.size + 1, 2, none⟩ = some (iv 0) := (HZ3.out.cell (p := ⟨w.heap.size + 1, 2, none⟩) (by simp)).trans (by simp [go_sem])
  have fd2 : w3.frozen? ⟨w.heap.size + 1, 2, none⟩ = false := (HZ3.out.frozen (p := ⟨w.heap.size + 1, 2, none⟩) (by simp)).trans (by simp [go_sem])
  have d3 : w3.cell? ⟨w.heap.size + 1, 3, none⟩ = some (iv 0) := (HZ3.out.cell (p := ⟨w.heap.size + 1, 3, none⟩) (by simp)).trans (by simp [go_sem])
  have fd3 : w3.frozen? ⟨w.heap.size + 1, 3, none⟩ = false := (HZ3.out.frozen (p := ⟨w.heap.size + 1, 3, none⟩) (by simp)).trans (by simp [go_sem])
  go_wp2
  refine bodyPost_ret (v := .tuple #[.agg #[iv 0, iv 0, iv 0, iv 0], .bool false]) (by simp [results, Try.results34, go_sem, d0, d1, d2, d3]) rfl ⟨rfl, ?_⟩
  have HBX := hid (below_step H0.out HZ3.out)
  clear HX HZ3
  repeat (refine Below.setCell ?_ (by simp) _)
  exact HBX.out

set_option maxRecDepth 8000 in
set_option maxHeartbeats 4000000 in
theorem specMakeSuccession_any_D {B : Nat} {ks : List (List Int)} {v : Value} (a0 a1 a2 a3 : Int) (w : World) (h : Sl B w 5 v ks) (hB : B ≤ w.heap.size) (i : Nat) (hi : i < ks.length) (hf : findI 0 a0 ks = (i : Int)) (k : Nat) (hk : k < ks.length) (hf2 : findI 0 a1 ks = (k : Int)) (hne : (a0 == a1) = false) (how : (fld ks i 1 == fld ks k 1) = false) :
    Calls Try.prog 34 #[v, .agg #[iv a0, iv a1, iv a2, iv a3]] w (Ret (.tuple #[.agg #[iv 0, iv 0, iv 0, iv 0], .bool false]) w) := by
  have HX : Below ((w.alloc (.cells #[iv a0, iv a1, iv a2, iv a3] 47)).alloc (.cells #[iv 0, iv 0, iv 0, iv 0] 47)).heap.size ((w.alloc (.cells #[iv a0, iv a1, iv a2, iv a3] 47)).alloc (.cells #[iv 0, iv 0, iv 0, iv 0] 47)) ((w.alloc (.cells #[iv a0, iv a1, iv a2, iv a3] 47)).alloc (.cells #[iv 0, iv 0, iv 0, iv 0] 47)) := Below.refl _ _
  have h0 : Below w.heap.size w ((w.alloc (.cells #[iv a0, iv a1, iv a2, iv a3] 47)).alloc (.cells #[iv 0, iv 0, iv 0, iv 0] 47)) := (below_alloc _ _).alloc (by simp) _
  have hB1 : B ≤ ((w.alloc (.cells #[iv a0, iv a1, iv a2, iv a3] 47)).alloc (.cells #[iv 0, iv 0, iv 0, iv 0] 47)).heap.size := by simp; omega
  have h1 : Sl B ((w.alloc (.cells #[iv a0, iv a1, iv a2, iv a3] 47)).alloc (.cells #[iv 0, iv 0, iv 0, iv 0] 47)) 5 v ks := h.below h0 hB
  have HS : Hid (∀ w' : World, Below ((w.alloc (.cells #[iv a0, iv a1, iv a2, iv a3] 47)).alloc (.cells #[iv 0, iv 0, iv 0, iv 0] 47)).heap.size ((w.alloc (.cells #[iv a0, iv a1, iv a2, iv a3] 47)).alloc (.cells #[iv 0, iv 0, iv 0, iv 0] 47)) w' → (w'.cell? ⟨w.heap.size, 0, none⟩ = some (iv a0) ∧ w'.cell? ⟨w.heap.size, 1, none⟩ = some (iv a1) ∧ w'.cell? ⟨w.heap.size, 2, none⟩ = some (iv a2) ∧ w'.cell? ⟨w.heap.size, 3, none⟩ = some (iv a3) ∧ Below ((w.alloc (.cells #[iv a0, iv a1, iv a2, iv a3] 47)).alloc (.cells #[iv 0, iv 0, iv 0, iv 0] 47)).heap.size ((w.alloc (.cells #[iv a0, iv a1, iv a2, iv a3] 47)).alloc (.cells #[iv 0, iv 0, iv 0, iv 0] 47)) w')) := hid fun w' hx => ⟨(hx.cell (p := ⟨w.heap.size, 0, none⟩) (by simp; omega)).trans (by simp [go_sem]), (hx.cell (p := ⟨w.heap.size, 1, none⟩) (by simp; omega)).trans (by simp [go_sem]), (hx.cell (p := ⟨w.heap.size, 2, none⟩) (by simp; omega)).trans (by simp [go_sem]), (hx.cell (p := ⟨w.heap.size, 3, none⟩) (by simp; omega)).trans (by simp [go_sem]), hx⟩
  have HV := hid h1
  have HBB := hid hB1
  have H0 := hid h0
  clear h h1 hB1 h0
  have HF := hid hf
  have HF2 := hid hf2
  clear hf hf2
  go_enter Try.func34, Try.ntmps34
  go_wp2_with fail
  refine (specFindKey_any _ _ HV.out HBB.out).mono ?_
  rintro e w1 ⟨rfl, hb1⟩
  have HZ1 := hid (below_step HX hb1)
  rw [HF.out]
  clear hb1
  obtain ⟨c0, c1, c2, c3, -⟩ := HS.out _ HZ1.out
  go_wp2_with fail
  refine (specFindKey_any _ _ (HV.out.below HZ1.out HBB.out) (Nat.le_trans HBB.out HZ1.out.size)).mono ?_
  rintro e w2 ⟨rfl, hb2⟩
  have HZ2 := hid (below_step HZ1.out hb2)
  rw [HF2.out]
  clear hb2 c0 c1 c2 c3
  obtain ⟨c0, c1, c2, c3, -⟩ := HS.out _ HZ2.out
  obtain ⟨A, c, rfl, hca, hcb, -, hcell⟩ := HV.out.below HZ2.out HBB.out
  obtain ⟨b, off, rfl, hbB, hcc⟩ := hcell (by omega)
  have l1 := hcc i 1 hi (by omega)
  have l2 := hcc k 1 hk (by omega)
  have hk0 : (0 : Int) ≤ (k : Int) := Int.natCast_nonneg _
  have hk1 : (k : Int) < (ks.length : Int) := by omega
  have hk2 : decide ((k : Int) < 0) = false := by simp
  have hbl : b < w2.heap.size := by have := HBB.out; have := HZ2.out.size; omega
  have hi0 : (0 : Int) ≤ (i : Int) := Int.natCast_nonneg _
  have hi1 : (i : Int) < (ks.length : Int) := by omega
  have hi2 : decide ((i : Int) < 0) = false := by simp
  have how' : (fld ks i 1 != fld ks k 1) = true := by simp [bne, how]
  have hwl : w.heap.size < w2.heap.size := by have := HZ2.out.size; simp at this; omega
  clear hcc hcell
  go_wp2_with fail
  go_quiet ((go_at_call 76; exact Calls.quiet_of_same (specl4Time_same _ _)))
  rename_i nq
  obtain ⟨w3, hw3⟩ : ∃ w3 : World, w3 = w2.drewN nq := ⟨_, rfl⟩
  rw [← hw3]
  have HZ3 : Hid (Below ((w.alloc (.cells #[iv a0, iv a1, iv a2, iv a3] 47)).alloc (.cells #[iv 0, iv 0, iv 0, iv 0] 47)).heap.size ((w.alloc (.cells #[iv a0, iv a1, iv a2, iv a3] 47)).alloc (.cells #[iv 0, iv 0, iv 0, iv 0] 47)) w3) := hid (hw3 ▸ below_drewN HZ2.out nq)
  clear hw3 hwl c0 c1 c2 c3 l1 hbl l2 
  obtain ⟨c0, c1, c2, c3, -⟩ := HS.out _ HZ3.out
  have fz : w3.frozen? ⟨w.heap.size, 3, none⟩ = false := (HZ3.out.frozen (p := ⟨w.heap.size, 3, none⟩) (by simp; omega)).trans (by simp [go_sem])
  have d0 : w3.cell? ⟨w.heap.size + 1, 0, none⟩ = some (iv 0) := (HZ3.out.cell (p := ⟨w.heap.size + 1, 0, none⟩) (by simp)).trans (by simp [go_sem])
  have fd0 : w3.frozen? ⟨w.heap.size + 1, 0, none⟩ = false := (HZ3.out.frozen (p := ⟨w.heap.size + 1, 0, none⟩) (by simp)).trans (by simp [go_sem])
  have d1 : w3.cell? ⟨w.heap.size + 1, 1, none⟩ = some (iv 0) := (HZ3.out.cell (p := ⟨w.heap.size + 1, 1, none⟩) (by simp)).trans (by simp [go_sem])
  have fd1 : w3.frozen? ⟨w.heap.size + 1, 1, none⟩ = false := (HZ3.out.frozen (p := ⟨w.heap.size + 1, 1, none⟩) (by simp)).trans (by simp [go_sem])
  have d2 : w3.cell? ⟨w.heap.size + 1, 2, none⟩ = some (iv 0) := (HZ3.out.cell (p := ⟨w.heap.size + 1, 2, none⟩) (by simp)).trans (by simp [go_sem])
  have fd2 : w3.frozen? ⟨w.heap.size + 1, 2, none⟩ = false := (HZ3.out.frozen (p := ⟨w.heap.size + 1, 2, none⟩) (by simp)).trans (by simp [go_sem])
  have d3 : w3.cell? ⟨w.heap.size + 1, 3, none⟩ = some (iv 0) := (HZ3.out.cell (p := ⟨w.heap.size + 1, 3, none⟩) (by simp)).trans (by simp [go_sem])
  have fd3 : w3.frozen? ⟨w.heap.size + 1, 3, none⟩ = false := (HZ3.out.frozen (p := ⟨w.heap.size + 1, 3, none⟩) (by simp)).trans (by simp [go_sem])
  go_wp2
  refine bodyPost_ret (v := .tuple #[.agg #[iv 0, iv 0, iv 0, iv 0], .bool false]) (by simp [results, Try.results34, go_sem, d0, d1, d2, d3]) rfl ⟨rfl, ?_⟩
  have HBX := hid (below_step H0.out HZ3.out)
  clear HX HZ3
  repeat (refine Below.setCell ?_ (by simp) _)
  exact HBX.out

set_option maxRecDepth 8000 in
set_option maxHeartbeats 4000000 in
theorem specMakeSuccession_any_E {B : Nat} {ks : List (List Int)} {v : Value} (a0 a1 a2 a3 : Int) (w : World) (h : Sl B w 5 v ks) (hB : B ≤ w.heap.size) (i : Nat) (hi : i < ks.length) (hf : findI 0 a0 ks = (i : Int)) (k : Nat) (hk : k < ks.length) (hf2 : findI 0 a1 ks = (k : Int)) (hne : (a0 == a1) = false) (how : (fld ks i 1 == fld ks k 1) = true) (ht : timeB a2 = false) :
    Calls Try.prog 34 #[v, .agg #[iv a0, iv a1, iv a2, iv a3]] w (Ret (.tuple #[.agg #[iv 0, iv 0, iv 0, iv 0], .bool false]) w) := by
  have HX : Below ((w.alloc (.cells #[iv a0, iv a1, iv a2, iv a3] 47)).alloc (.cells #[iv 0, iv 0, iv 0, iv 0] 47)).heap.size ((w.alloc (.cells #[iv a0, iv a1, iv a2, iv a3] 47)).alloc (.cells #[iv 0, iv 0, iv 0, iv 0] 47)) ((w.alloc (.cells #[iv a0, iv a1, iv a2, iv a3] 47)).alloc (.cells #[iv 0, iv 0, iv 0, iv 0] 47)) := Below.refl _ _
  have h0 : Below w.heap.size w ((w.alloc (.cells #[iv a0, iv a1, iv a2, iv a3] 47)).alloc (.cells #[iv 0, iv 0, iv 0, iv 0] 47)) := (below_alloc _ _).alloc (by simp) _
  have hB1 : B ≤ ((w.alloc (.cells #[iv a0, iv a1, iv a2, iv a3] 47)).alloc (.cells #[iv 0, iv 0, iv 0, iv 0] 47)).heap.size := by simp; omega
  have h1 : Sl B ((w.alloc (.cells #[iv a0, iv a1, iv a2, iv a3] 47)).alloc (.cells #[iv 0, iv 0, iv 0, iv 0] 47)) 5 v ks := h.below h0 hB
  have HS : Hid (∀ w' : World, Below ((w.alloc (.cells #[iv a0, iv a1, iv a2, iv a3] 47)).alloc (.cells #[iv 0, iv 0, iv 0, iv 0] 47)).heap.size ((w.alloc (.cells #[iv a0, iv a1, iv a2, iv a3] 47)).alloc (.cells #[iv 0, iv 0, iv 0, iv 0] 47)) w' → (w'.cell? ⟨w.heap.size, 0, none⟩ = some (iv a0) ∧ w'.cell? ⟨w.heap.size, 1, none⟩ = some (iv a1) ∧ w'.cell? ⟨w.heap.size, 2, none⟩ = some (iv a2) ∧ w'.cell? ⟨w.heap.size, 3, none⟩ = some (iv a3) ∧ Below ((w.alloc (.cells #[iv a0, iv a1, iv a2, iv a3] 47)).alloc (.cells #[iv 0, iv 0, iv 0, iv 0] 47)).heap.size ((w.alloc (.cells #[iv a0, iv a1, iv a2, iv a3] 47)).alloc (.cells #[iv 0, iv 0, iv 0, iv 0] 47)) w')) := hid fun w' hx => ⟨(hx.cell (p := ⟨w.heap.size, 0, none⟩) (by simp; omega)).trans (by simp [go_sem]), (hx.cell (p := ⟨w.heap.size, 1, none⟩) (by simp; omega)).trans (by simp [go_sem]), (hx.cell (p := ⟨w.heap.size, 2, none⟩) (by simp; omega)).trans (by simp [go_sem]), (hx.cell (p := ⟨w.heap.size, 3, none⟩) (by simp; omega)).trans (by simp [go_sem]), hx⟩
  have HV := hid h1
  have HBB := hid hB1
  have H0 := hid h0
  clear h h1 hB1 h0
  have HF := hid hf
  have HF2 := hid hf2
  clear hf hf2
  go_enter Try.func34, Try.ntmps34
  go_wp2_with fail
  refine (specFindKey_any _ _ HV.out HBB.out).mono ?_
  rintro e w1 ⟨rfl, hb1⟩
  have HZ1 := hid (below_step HX hb1)
  rw [HF.out]
  clear hb1
  obtain ⟨c0, c1, c2, c3, -⟩ := HS.out _ HZ1.out
  go_wp2_with fail
  refine (specFindKey_any _ _ (HV.out.below HZ1.out HBB.out) (Nat.le_trans HBB.out HZ1.out.size)).mono ?_
  rintro e w2 ⟨rfl, hb2⟩
  have HZ2 := hid (below_step HZ1.out hb2)
  rw [HF2.out]
  clear hb2 c0 c1 c2 c3
  obtain ⟨c0, c1, c2, c3, -⟩ := HS.out _ HZ2.out
  obtain ⟨A, c, rfl, hca, hcb, -, hcell⟩ := HV.out.below HZ2.out HBB.out
  obtain ⟨b, off, rfl, hbB, hcc⟩ := hcell (by omega)
  have l1 := hcc i 1 hi (by omega)
  have l2 := hcc k 1 hk (by omega)
  have hk0 : (0 : Int) ≤ (k : Int) := Int.natCast_nonneg _
  have hk1 : (k : Int) < (ks.length : Int) := by omega
  have hk2 : decide ((k : Int) < 0) = false := by simp
  have hbl : b < w2.heap.size := by have := HBB.out; have := HZ2.out.size; omega
  have hi0 : (0 : Int) ≤ (i : Int) := Int.natCast_nonneg _
  have hi1 : (i : Int) < (ks.length : Int) := by omega
  have hi2 : decide ((i : Int) < 0) = false := by simp
  have how' : (fld ks i 1 != fld ks k 1) = false := by simp [bne, how]
  have hwl : w.heap.size < w2.heap.size := by have := HZ2.out.size; simp at this; omega
  clear hcc hcell
  go_wp2_with fail
  go_quiet ((go_at_call 76; exact Calls.quiet_of_same (specl4Time_same _ _)))
  rename_i nq
  obtain ⟨w3, hw3⟩ : ∃ w3 : World, w3 = w2.drewN nq := ⟨_, rfl⟩
  rw [← hw3]
  have HZ3 : Hid (Below ((w.alloc (.cells #[iv a0, iv a1, iv a2, iv a3] 47)).alloc (.cells #[iv 0, iv 0, iv 0, iv 0] 47)).heap.size ((w.alloc (.cells #[iv a0, iv a1, iv a2, iv a3] 47)).alloc (.cells #[iv 0, iv 0, iv 0, iv 0] 47)) w3) := hid (hw3 ▸ below_drewN HZ2.out nq)
  clear hw3 hwl c0 c1 c2 c3 l1 hbl l2 
  obtain ⟨c0, c1, c2, c3, -⟩ := HS.out _ HZ3.out
  have fz : w3.frozen? ⟨w.heap.size, 3, none⟩ = false := (HZ3.out.frozen (p := ⟨w.heap.size, 3, none⟩) (by simp; omega)).trans (by simp [go_sem])
  have d0 : w3.cell? ⟨w.heap.size + 1, 0, none⟩ = some (iv 0) := (HZ3.out.cell (p := ⟨w.heap.size + 1, 0, none⟩) (by simp)).trans (by simp [go_sem])
  have fd0 : w3.frozen? ⟨w.heap.size + 1, 0, none⟩ = false := (HZ3.out.frozen (p := ⟨w.heap.size + 1, 0, none⟩) (by simp)).trans (by simp [go_sem])
  have d1 : w3.cell? ⟨w.heap.size + 1, 1, none⟩ = some (iv 0) := (HZ3.out.cell (p := ⟨w.heap.size + 1, 1, none⟩) (by simp)).trans (by simp [go_sem])
  have fd1 : w3.frozen? ⟨w.heap.size + 1, 1, none⟩ = false := (HZ3.out.frozen (p := ⟨w.heap.size + 1, 1, none⟩) (by simp)).trans (by simp [go_sem])
  have d2 : w3.cell? ⟨w.heap.size + 1, 2, none⟩ = some (iv 0) := (HZ3.out.cell (p := ⟨w.heap.size + 1, 2, none⟩) (by simp)).trans (by simp [go_sem])
  have fd2 : w3.frozen? ⟨w.heap.size + 1, 2, none⟩ = false := (HZ3.out.frozen (p := ⟨w.heap.size + 1, 2, none⟩) (by simp)).trans (by simp [go_sem])
  have d3 : w3.cell? ⟨w.heap.size + 1, 3, none⟩ = some (iv 0) := (HZ3.out.cell (p := ⟨w.heap.size + 1, 3, none⟩) (by simp)).trans (by simp [go_sem])
  have fd3 : w3.frozen? ⟨w.heap.size + 1, 3, none⟩ = false := (HZ3.out.frozen (p := ⟨w.heap.size + 1, 3, none⟩) (by simp)).trans (by simp [go_sem])
  go_wp2
  refine bodyPost_ret (v := .tuple #[.agg #[iv 0, iv 0, iv 0, iv 0], .bool false]) (by simp [results, Try.results34, go_sem, d0, d1, d2, d3]) rfl ⟨rfl, ?_⟩
  have HBX := hid (below_step H0.out HZ3.out)
  clear HX HZ3
  repeat (refine Below.setCell ?_ (by simp) _)
  exact HBX.out

set_option maxRecDepth 8000 in
set_option maxHeartbeats 4000000 in
theorem specMakeSuccession_any_yes {B : Nat} {ks : List (List Int)} {v : Value} (a0 a1 a2 a3 : Int) (w : World) (h : Sl B w 5 v ks) (hB : B ≤ w.heap.size) (i : Nat) (hi : i < ks.length) (hf : findI 0 a0 ks = (i : Int)) (k : Nat) (hk : k < ks.length) (hf2 : findI 0 a1 ks = (k : Int)) (hne : (a0 == a1) = false) (how : (fld ks i 1 == fld ks k 1) = true) (ht : timeB a2 = true) :
    Calls Try.prog 34 #[v, .agg #[iv a0, iv a1, iv a2, iv a3]] w (Ret (.tuple #[.agg #[iv a0, iv a1, iv a2, iv (markW (fld ks i 2) (fld ks i 4) [106, a0, a1, a2])], .bool true]) w) := by
  obtain ⟨m, hm⟩ : ∃ m : Int, m = (markW (fld ks i 2) (fld ks i 4) [106, a0, a1, a2]) := ⟨_, rfl⟩
  rw [← hm]
  have HM := hid hm
  clear hm
  have HX : Below ((w.alloc (.cells #[iv a0, iv a1, iv a2, iv a3] 47)).alloc (.cells #[iv 0, iv 0, iv 0, iv 0] 47)).heap.size ((w.alloc (.cells #[iv a0, iv a1, iv a2, iv a3] 47)).alloc (.cells #[iv 0, iv 0, iv 0, iv 0] 47)) ((w.alloc (.cells #[iv a0, iv a1, iv a2, iv a3] 47)).alloc (.cells #[iv 0, iv 0, iv 0, iv 0] 47)) := Below.refl _ _
  have h0 : Below w.heap.size w ((w.alloc (.cells #[iv a0, iv a1, iv a2, iv a3] 47)).alloc (.cells #[iv 0, iv 0, iv 0, iv 0] 47)) := (below_alloc _ _).alloc (by simp) _
  have hB1 : B ≤ ((w.alloc (.cells #[iv a0, iv a1, iv a2, iv a3] 47)).alloc (.cells #[iv 0, iv 0, iv 0, iv 0] 47)).heap.size := by simp; omega
  have h1 : Sl B ((w.alloc (.cells #[iv a0, iv a1, iv a2, iv a3] 47)).alloc (.cells #[iv 0, iv 0, iv 0, iv 0] 47)) 5 v ks := h.below h0 hB
  have HS : Hid (∀ w' : World, Below ((w.alloc (.cells #[iv a0, iv a1, iv a2, iv a3] 47)).alloc (.cells #[iv 0, iv 0, iv 0, iv 0] 47)).heap.size ((w.alloc (.cells #[iv a0, iv a1, iv a2, iv a3] 47)).alloc (.cells #[iv 0, iv 0, iv 0, iv 0] 47)) w' → (w'.cell? ⟨w.heap.size, 0, none⟩ = some (iv a0) ∧ w'.cell? ⟨w.heap.size, 1, none⟩ = some (iv a1) ∧ w'.cell? ⟨w.heap.size, 2, none⟩ = some (iv a2) ∧ w'.cell? ⟨w.heap.size, 3, none⟩ = some (iv a3) ∧ Below ((w.alloc (.cells #[iv a0, iv a1, iv a2, iv a3] 47)).alloc (.cells #[iv 0, iv 0, iv 0, iv 0] 47)).heap.size ((w.alloc (.cells #[iv a0, iv a1, iv a2, iv a3] 47)).alloc (.cells #[iv 0, iv 0, iv 0, iv 0] 47)) w')) := hid fun w' hx => ⟨(hx.cell (p := ⟨w.heap.size, 0, none⟩) (by simp; omega)).trans (by simp [go_sem]), (hx.cell (p := ⟨w.heap.size, 1, none⟩) (by simp; omega)).trans (by simp [go_sem]), (hx.cell (p := ⟨w.heap.size, 2, none⟩) (by simp; omega)).trans (by simp [go_sem]), (hx.cell (p := ⟨w.heap.size, 3, none⟩) (by simp; omega)).trans (by simp [go_sem]), hx⟩
  have HV := hid h1
  have HBB := hid hB1
  have H0 := hid h0
  clear h h1 hB1 h0
  have HF := hid hf
  have HF2 := hid hf2
  clear hf hf2
  go_enter Try.func34, Try.ntmps34
  go_wp2_with fail
  refine (specFindKey_any _ _ HV.out HBB.out).mono ?_
  rintro e w1 ⟨rfl, hb1⟩
  have HZ1 := hid (below_step HX hb1)
  rw [HF.out]
  clear hb1
  obtain ⟨c0, c1, c2, c3, -⟩ := HS.out _ HZ1.out
  go_wp2_with fail
  refine (specFindKey_any _ _ (HV.out.below HZ1.out HBB.out) (Nat.le_trans HBB.out HZ1.out.size)).mono ?_
  rintro e w2 ⟨rfl, hb2⟩
  have HZ2 := hid (below_step HZ1.out hb2)
  rw [HF2.out]
  clear hb2 c0 c1 c2 c3
  obtain ⟨c0, c1, c2, c3, -⟩ := HS.out _ HZ2.out
  obtain ⟨A, c, rfl, hca, hcb, -, hcell⟩ := HV.out.below HZ2.out HBB.out
  obtain ⟨b, off, rfl, hbB, hcc⟩ := hcell (by omega)
  have l1 := hcc i 1 hi (by omega)
  have l2 := hcc k 1 hk (by omega)
  have hk0 : (0 : Int) ≤ (k : Int) := Int.natCast_nonneg _
  have hk1 : (k : Int) < (ks.length : Int) := by omega
  have hk2 : decide ((k : Int) < 0) = false := by simp
  have hbl : b < w2.heap.size := by have := HBB.out; have := HZ2.out.size; omega
  have hi0 : (0 : Int) ≤ (i : Int) := Int.natCast_nonneg _
  have hi1 : (i : Int) < (ks.length : Int) := by omega
  have hi2 : decide ((i : Int) < 0) = false := by simp
  have how' : (fld ks i 1 != fld ks k 1) = false := by simp [bne, how]
  have hwl : w.heap.size < w2.heap.size := by have := HZ2.out.size; simp at this; omega
  clear hcc hcell
  go_wp2_with fail
  go_quiet ((go_at_call 76; exact Calls.quiet_of_same (specl4Time_same _ _)))
  rename_i nq
  obtain ⟨w3, hw3⟩ : ∃ w3 : World, w3 = w2.drewN nq := ⟨_, rfl⟩
  rw [← hw3]
  have HZ3 : Hid (Below ((w.alloc (.cells #[iv a0, iv a1, iv a2, iv a3] 47)).alloc (.cells #[iv 0, iv 0, iv 0, iv 0] 47)).heap.size ((w.alloc (.cells #[iv a0, iv a1, iv a2, iv a3] 47)).alloc (.cells #[iv 0, iv 0, iv 0, iv 0] 47)) w3) := hid (hw3 ▸ below_drewN HZ2.out nq)
  clear hw3 hwl c0 c1 c2 c3 l1 hbl l2 
  have hcell := HV.out.below HZ3.out HBB.out
  obtain ⟨A', c', he, -, -, -, hcell⟩ := hcell
  obtain ⟨b', off', hA', hbB', hcc⟩ := hcell (by omega)
  cases he
  cases hA'
  have k0 := hcc i 0 hi (by omega)
  have k1 := hcc i 1 hi (by omega)
  have k2 := hcc i 2 hi (by omega)
  have k3 := hcc i 3 hi (by omega)
  have k4 := hcc i 4 hi (by omega)
  rw [Nat.add_zero] at k0
  have hbl : b < w3.heap.size := by have := HBB.out; have := HZ3.out.size; omega
  have hwl : w.heap.size < w3.heap.size := by have := HZ3.out.size; simp at this; omega
  clear hcc hcell
  obtain ⟨c0, c1, c2, c3, -⟩ := HS.out _ HZ3.out
  have fz : w3.frozen? ⟨w.heap.size, 3, none⟩ = false := (HZ3.out.frozen (p := ⟨w.heap.size, 3, none⟩) (by simp; omega)).trans (by simp [go_sem])
  have d0 : w3.cell? ⟨w.heap.size + 1, 0, none⟩ = some (iv 0) := (HZ3.out.cell (p := ⟨w.heap.size + 1, 0, none⟩) (by simp)).trans (by simp [go_sem])
  have fd0 : w3.frozen? ⟨w.heap.size + 1, 0, none⟩ = false := (HZ3.out.frozen (p := ⟨w.heap.size + 1, 0, none⟩) (by simp)).trans (by simp [go_sem])
  have d1 : w3.cell? ⟨w.heap.size + 1, 1, none⟩ = some (iv 0) := (HZ3.out.cell (p := ⟨w.heap.size + 1, 1, none⟩) (by simp)).trans (by simp [go_sem])
  have fd1 : w3.frozen? ⟨w.heap.size + 1, 1, none⟩ = false := (HZ3.out.frozen (p := ⟨w.heap.size + 1, 1, none⟩) (by simp)).trans (by simp [go_sem])
  have d2 : w3.cell? ⟨w.heap.size + 1, 2, none⟩ = some (iv 0) := (HZ3.out.cell (p := ⟨w.heap.size + 1, 2, none⟩) (by simp)).trans (by simp [go_sem])
  have fd2 : w3.frozen? ⟨w.heap.size + 1, 2, none⟩ = false := (HZ3.out.frozen (p := ⟨w.heap.size + 1, 2, none⟩) (by simp)).trans (by simp [go_sem])
  have d3 : w3.cell? ⟨w.heap.size + 1, 3, none⟩ = some (iv 0) := (HZ3.out.cell (p := ⟨w.heap.size + 1, 3, none⟩) (by simp)).trans (by simp [go_sem])
  have fd3 : w3.frozen? ⟨w.heap.size + 1, 3, none⟩ = false := (HZ3.out.frozen (p := ⟨w.heap.size + 1, 3, none⟩) (by simp)).trans (by simp [go_sem])
  go_wp2_with fail
  go_region_with (first | (go_at_call 77; refine (specSuccessionInts_any _ _ _ _ _).mono ?_; rintro e w5 ⟨v5, rfl, ho5, hb5⟩; have HO5 := hid ho5; have HZ5 := hid hb5; have kk0 := (hb5.cell (p := ⟨b, off + i * 5, none⟩) (by simpa using hbl)).trans k0; have kk1 := (hb5.cell (p := ⟨b, off + i * 5 + 1, none⟩) (by simpa using hbl)).trans k1; have kk2 := (hb5.cell (p := ⟨b, off + i * 5 + 2, none⟩) (by simpa using hbl)).trans k2; have kk3 := (hb5.cell (p := ⟨b, off + i * 5 + 3, none⟩) (by simpa using hbl)).trans k3; have kk4 := (hb5.cell (p := ⟨b, off + i * 5 + 4, none⟩) (by simpa using hbl)).trans k4; obtain ⟨p0, p1, p2, p3, -⟩ := HS.out _ (below_step HZ3.out.drew hb5); clear hb5 ho5) | (go_at_call 58; refine (ret_cast (y := iv m) (by rw [HM.out]) (specMarkWith_any _ _ _ _ _ _ (Own.si (zs := [106, a0, a1, a2]) HO5.out) (Nat.le_refl _) (by simp))).mono ?_; rintro e w6 ⟨rfl, hb6⟩; have HZ7 := hid (below_step HZ3.out.drew (below_step HZ5.out hb6)); clear hb6; obtain ⟨c0, c1, c2, c3, -⟩ := HS.out _ HZ7.out; have fz : w6.frozen? ⟨w.heap.size, 3, none⟩ = false := (HZ7.out.frozen (p := ⟨w.heap.size, 3, none⟩) (by simp; omega)).trans (by simp [go_sem]); have d0 : w6.cell? ⟨w.heap.size + 1, 0, none⟩ = some (iv 0) := (HZ7.out.cell (p := ⟨w.heap.size + 1, 0, none⟩) (by simp)).trans (by simp [go_sem]); have fd0 : w6.frozen? ⟨w.heap.size + 1, 0, none⟩ = false := (HZ7.out.frozen (p := ⟨w.heap.size + 1, 0, none⟩) (by simp)).trans (by simp [go_sem]); have d1 : w6.cell? ⟨w.heap.size + 1, 1, none⟩ = some (iv 0) := (HZ7.out.cell (p := ⟨w.heap.size + 1, 1, none⟩) (by simp)).trans (by simp [go_sem]); have fd1 : w6.frozen? ⟨w.heap.size + 1, 1, none⟩ = false := (HZ7.out.frozen (p := ⟨w.heap.size + 1, 1, none⟩) (by simp)).trans (by simp [go_sem]); have d2 : w6.cell? ⟨w.heap.size + 1, 2, none⟩ = some (iv 0) := (HZ7.out.cell (p := ⟨w.heap.size + 1, 2, none⟩) (by simp)).trans (by simp [go_sem]); have fd2 : w6.frozen? ⟨w.heap.size + 1, 2, none⟩ = false := (HZ7.out.frozen (p := ⟨w.heap.size + 1, 2, none⟩) (by simp)).trans (by simp [go_sem]); have d3 : w6.cell? ⟨w.heap.size + 1, 3, none⟩ = some (iv 0) := (HZ7.out.cell (p := ⟨w.heap.size + 1, 3, none⟩) (by simp)).trans (by simp [go_sem]); have fd3 : w6.frozen? ⟨w.heap.size + 1, 3, none⟩ = false := (HZ7.out.frozen (p := ⟨w.heap.size + 1, 3, none⟩) (by simp)).trans (by simp [go_sem])))
  all_goals
    go_wp2
    refine bodyPost_ret (v := .tuple #[.agg #[iv a0, iv a1, iv a2, iv m], .bool true]) (by simp [results, Try.results34, go_sem, d0, d1, d2, d3]) rfl ⟨rfl, ?_⟩
    have HBX := hid (below_step H0.out HZ7.out)
    clear HX HZ7
    repeat (refine Below.setCell ?_ (by simp) _)
    exact HBX.out

theorem specMakeSuccession_any_no {B : Nat} {ks : List (List Int)} {v : Value} (a0 a1 a2 a3 : Int) (w : World) (h : Sl B w 5 v ks) (hB : B ≤ w.heap.size) (hno : findI 0 a0 ks = -1 ∨ findI 0 a1 ks = -1 ∨ (a0 == a1) = true ∨ (∃ i k : Nat, findI 0 a0 ks = (i : Int) ∧ findI 0 a1 ks = (k : Int) ∧ (fld ks i 1 == fld ks k 1) = false) ∨ timeB a2 = false) :
    Calls Try.prog 34 #[v, .agg #[iv a0, iv a1, iv a2, iv a3]] w (Ret (.tuple #[.agg #[iv 0, iv 0, iv 0, iv 0], .bool false]) w) := by
  rcases findI_range 0 a0 ks with hf | ⟨i, hi, hf, -⟩
  · exact specMakeSuccession_any_A a0 a1 a2 a3 w h hB hf _ rfl
  · rcases findI_range 0 a1 ks with hf2 | ⟨k, hk, hf2, -⟩
    · exact specMakeSuccession_any_B a0 a1 a2 a3 w h hB i hi hf hf2
    · cases hne : (a0 == a1)
      · cases how : (fld ks i 1 == fld ks k 1)
        · exact specMakeSuccession_any_D a0 a1 a2 a3 w h hB i hi hf k hk hf2 hne how
        · cases ht : timeB a2
          · exact specMakeSuccession_any_E a0 a1 a2 a3 w h hB i hi hf k hk hf2 hne how ht
          · exfalso
            rcases hno with q | q | q | ⟨i', k', q1, q2, q3⟩ | q
            · omega
            · omega
            · rw [hne] at q; exact absurd q (by decide)
            · obtain rfl : i = i' := by omega
              obtain rfl : k = k' := by omega
              rw [how] at q3; exact absurd q3 (by decide)
            · rw [ht] at q; exact absurd q (by decide)
      · exact specMakeSuccession_any_C a0 a1 a2 a3 w h hB i hi hf k hk hf2 hne

theorem implisTime_ret {t : Int} {b : Bool} (h : timeB t = b) (w : World) : Calls Try.prog 80 #[iv t] w (Ret (.bool b) w) := by
  refine (implisTime_same t w).mono ?_
  rintro e w' ⟨he, hw⟩
  exact ⟨by rw [he, h], hw ▸ Below.refl _ _⟩

set_option maxRecDepth 8000 in
set_option maxHeartbeats 4000000 in
theorem implMakeSuccession_any_A {B : Nat} {ks : List (List Int)} {v : Value} (a0 a1 a2 a3 : Int) (w : World) (h : Sl B w 5 v ks) (hB : B ≤ w.heap.size) (hf : findI 0 a0 ks = -1) (z : Int) (hf2 : findI 0 a1 ks = z) :
    Calls Try.prog 35 #[v, .agg #[iv a0, iv a1, iv a2, iv a3]] w (Ret (.tuple #[.agg #[iv 0, iv 0, iv 0, iv 0], .bool false]) w) := by
  have HX : Below ((w.alloc (.cells #[iv a0, iv a1, iv a2, iv a3] 47)).alloc (.cells #[iv 0, iv 0, iv 0, iv 0] 47)).heap.size ((w.alloc (.cells #[iv a0, iv a1, iv a2, iv a3] 47)).alloc (.cells #[iv 0, iv 0, iv 0, iv 0] 47)) ((w.alloc (.cells #[iv a0, iv a1, iv a2, iv a3] 47)).alloc (.cells #[iv 0, iv 0, iv 0, iv 0] 47)) := Below.refl _ _
  have h0 : Below w.heap.size w ((w.alloc (.cells #[iv a0, iv a1, iv a2, iv a3] 47)).alloc (.cells #[iv 0, iv 0, iv 0, iv 0] 47)) := (below_alloc _ _).alloc (by simp) _
  have hB1 : B ≤ ((w.alloc (.cells #[iv a0, iv a1, iv a2, iv a3] 47)).alloc (.cells #[iv 0, iv 0, iv 0, iv 0] 47)).heap.size := by simp; omega
  have h1 : Sl B ((w.alloc (.cells #[iv a0, iv a1, iv a2, iv a3] 47)).alloc (.cells #[iv 0, iv 0, iv 0, iv 0] 47)) 5 v ks := h.below h0 hB
  have HS : Hid (∀ w' : World, Below ((w.alloc (.cells #[iv a0, iv a1, iv a2, iv a3] 47)).alloc (.cells #[iv 0, iv 0, iv 0, iv 0] 47)).heap.size ((w.alloc (.cells #[iv a0, iv a1, iv a2, iv a3] 47)).alloc (.cells #[iv 0, iv 0, iv 0, iv 0] 47)) w' → (w'.cell? ⟨w.heap.size, 0, none⟩ = some (iv a0) ∧ w'.cell? ⟨w.heap.size, 1, none⟩ = some (iv a1) ∧ w'.cell? ⟨w.heap.size, 2, none⟩ = some (iv a2) ∧ w'.cell? ⟨w.heap.size, 3, none⟩ = some (iv a3) ∧ Below ((w.alloc (.cells #[iv a0, iv a1, iv a2, iv a3] 47)).alloc (.cells #[iv 0, iv 0, iv 0, iv 0] 47)).heap.size ((w.alloc (.cells #[iv a0, iv a1, iv a2, iv a3] 47)).alloc (.cells #[iv 0, iv 0, iv 0, iv 0] 47)) w')) := hid fun w' hx => ⟨(hx.cell (p := ⟨w.heap.size, 0, none⟩) (by simp; omega)).trans (by simp [go_sem]), (hx.cell (p := ⟨w.heap.size, 1, none⟩) (by simp; omega)).trans (by simp [go_sem]), (hx.cell (p := ⟨w.heap.size, 2, none⟩) (by simp; omega)).trans (by simp [go_sem]), (hx.cell (p := ⟨w.heap.size, 3, none⟩) (by simp; omega)).trans (by simp [go_sem]), hx⟩
  have HV := hid h1
  have HBB := hid hB1
  have H0 := hid h0
  clear h h1 hB1 h0
  have HSc : Hid (∀ w' : World, Below ((w.alloc (.cells #[iv a0, iv a1, iv a2, iv a3] 47)).alloc (.cells #[iv 0, iv 0, iv 0, iv 0] 47)).heap.size ((w.alloc (.cells #[iv a0, iv a1, iv a2, iv a3] 47)).alloc (.cells #[iv 0, iv 0, iv 0, iv 0] 47)) w' → (w'.cell? ⟨w.heap.size, 0, none⟩ = some (iv a0) ∧ w'.cell? ⟨w.heap.size, 1, none⟩ = some (iv a1) ∧ w'.cell? ⟨w.heap.size, 2, none⟩ = some (iv a2) ∧ w'.cell? ⟨w.heap.size, 3, none⟩ = some (iv a3))) := hid fun w' hx => ⟨(hx.cell (p := ⟨w.heap.size, 0, none⟩) (by simp; omega)).trans (by simp [go_sem]), (hx.cell (p := ⟨w.heap.size, 1, none⟩) (by simp; omega)).trans (by simp [go_sem]), (hx.cell (p := ⟨w.heap.size, 2, none⟩) (by simp; omega)).trans (by simp [go_sem]), (hx.cell (p := ⟨w.heap.size, 3, none⟩) (by simp; omega)).trans (by simp [go_sem])⟩
  have HF := hid hf
  have HF2 := hid hf2
  clear hf hf2
  go_enter Try.func35, Try.ntmps35
  go_wp2_with fail
  go_region_held3 (fun w' => w'.cell? ⟨w.heap.size, 0, none⟩ = some (iv a0) ∧ w'.cell? ⟨w.heap.size, 1, none⟩ = some (iv a1) ∧ w'.cell? ⟨w.heap.size, 2, none⟩ = some (iv a2) ∧ w'.cell? ⟨w.heap.size, 3, none⟩ = some (iv a3) ∧ Below ((w.alloc (.cells #[iv a0, iv a1, iv a2, iv a3] 47)).alloc (.cells #[iv 0, iv 0, iv 0, iv 0] 47)).heap.size ((w.alloc (.cells #[iv a0, iv a1, iv a2, iv a3] 47)).alloc (.cells #[iv 0, iv 0, iv 0, iv 0] 47)) w') (first | with_reducible exact HS.out _ HX.drew | with_reducible exact HS.out _ HZ2.out | with_reducible exact HS.out _ HZ3.out | go_keep)
    (first | (go_at_call 78; refine (implSuccessionInts_any _ _ _ _ _).mono ?_; rintro e w2 ⟨v2, rfl, ho2, hb2⟩; have HZ2 := hid (below_step HX.drew hb2); have HO2 := hid ho2; clear hb2 ho2) | (go_at_call 60; refine (implmarkBy_no _ _ ((HV.out.below HZ2.out HBB.out).mono (Nat.le_trans HBB.out HZ2.out.size)) (Own.si (zs := [106, a0, a1, a2]) HO2.out) (Nat.le_refl _) HF.out).mono ?_; rintro e w3 ⟨rfl, hb3⟩; have HZ3 := hid (below_step HZ2.out hb3); clear hb3))
  go_wp2_with fail
  refine wp_region_held_drew (S := fun w' => w'.cell? ⟨w.heap.size, 0, none⟩ = some (iv a0) ∧ w'.cell? ⟨w.heap.size, 1, none⟩ = some (iv a1) ∧ w'.cell? ⟨w.heap.size, 2, none⟩ = some (iv a2) ∧ w'.cell? ⟨w.heap.size, 3, none⟩ = some (iv a3)) (by kernel_rfl) (HSc.out _ HZ3.out.drew) (fun hSx => ?_)
  refine wpAnyH_take (i := 0) (v := .bool false) rfl (by kernel_rfl) (by kernel_rfl) (by kernel_rfl) (fun _ _ _ h => h) (Or.inl ⟨by rfl, fun wq hSw => by go_simp⟩) hSx ?_
  try simp [Act.put]
  refine wpAnyH_take (i := 1) (v := .bool true) rfl (by kernel_rfl) (by kernel_rfl) (by kernel_rfl) (fun _ _ _ h => h) (Or.inl ⟨by rfl, fun wq hSw => by go_simp⟩) hSx ?_
  try simp [Act.put]
  refine wpAnyH_take (i := 2) (v := .bool true) rfl (by kernel_rfl) (by kernel_rfl) (by kernel_rfl) (fun _ _ _ h => h) (Or.inl ⟨by rfl, fun wq hSw => by go_simp⟩) hSx ?_
  try simp [Act.put]
  refine wpAnyH_take (i := 3) (v := undef) rfl (by kernel_rfl) (by kernel_rfl) (by kernel_rfl) (fun _ _ _ h => h) (Or.inr ⟨by rfl, rfl⟩) hSx ?_
  try simp [Act.put]
  refine wpAnyH_take (i := 4) (v := undef) rfl (by kernel_rfl) (by kernel_rfl) (by kernel_rfl) (fun _ _ _ h => h) (Or.inr ⟨by rfl, rfl⟩) hSx ?_
  try simp [Act.put]
  refine wpAnyH_take (i := 5) (v := undef) rfl (by kernel_rfl) (by kernel_rfl) (by kernel_rfl) (fun _ _ _ h => h) (Or.inr ⟨by rfl, rfl⟩) hSx ?_
  try simp [Act.put]
  refine wpAnyH_take (i := 6) (v := undef) rfl (by kernel_rfl) (by kernel_rfl) (by kernel_rfl) (fun _ _ _ h => h) (Or.inr ⟨by rfl, rfl⟩) hSx ?_
  try simp [Act.put]
  refine wpAnyH_take (i := 7) (v := undef) rfl (by kernel_rfl) (by kernel_rfl) (by kernel_rfl) (fun _ _ _ h => h) (Or.inr ⟨by rfl, rfl⟩) hSx ?_
  try simp [Act.put]
  refine wpAnyH_take (i := 8) (v := .bool true) rfl (by kernel_rfl) (by kernel_rfl) (by kernel_rfl) (fun _ _ _ h => h) (Or.inl ⟨by rfl, fun wq hSw => by go_simp⟩) hSx ?_
  try simp [Act.put]
  refine wpAnyH_take (i := 9) (v := .bool true) rfl (by kernel_rfl) (by kernel_rfl) (by kernel_rfl) (fun _ _ _ h => h) (Or.inl ⟨by rfl, fun wq hSw => by go_simp⟩) hSx ?_
  try simp [Act.put]
  refine wpAnyH_take (i := 10) (v := undef) rfl (by kernel_rfl) (by kernel_rfl) (by kernel_rfl) (fun _ _ _ h => h) (Or.inr ⟨by rfl, rfl⟩) hSx ?_
  try simp [Act.put]
  refine wpAnyH_take (i := 11) (v := undef) rfl (by kernel_rfl) (by kernel_rfl) (by kernel_rfl) (fun _ _ _ h => h) (Or.inr ⟨by rfl, rfl⟩) hSx ?_
  try simp [Act.put]
  refine wpAnyH_take (i := 12) (v := undef) rfl (by kernel_rfl) (by kernel_rfl) (by kernel_rfl) (fun _ _ _ h => h) (Or.inr ⟨by rfl, rfl⟩) hSx ?_
  try simp [Act.put]
  refine wpAnyH_take (i := 13) (v := undef) rfl (by kernel_rfl) (by kernel_rfl) (by kernel_rfl) (fun _ _ _ h => h) (Or.inr ⟨by rfl, rfl⟩) hSx ?_
  try simp [Act.put]
  refine wpAnyH_take (i := 14) (v := undef) rfl (by kernel_rfl) (by kernel_rfl) (by kernel_rfl) (fun _ _ _ h => h) (Or.inr ⟨by rfl, rfl⟩) hSx ?_
  try simp [Act.put]
  refine wpAnyH_take (i := 15) (v := .bool true) rfl (by kernel_rfl) (by kernel_rfl) (by kernel_rfl) (fun _ _ _ h => h) (Or.inl ⟨by rfl, fun wq hSw => by go_simp⟩) hSx ?_
  try simp [Act.put]
  refine wpAnyH_take (i := 16) (v := .bool true) rfl (by kernel_rfl) (by kernel_rfl) (by kernel_rfl) (fun _ _ _ h => h) (Or.inl ⟨by rfl, fun wq hSw => by go_simp⟩) hSx ?_
  try simp [Act.put]
  refine wpAnyH_take (i := 17) (v := undef) rfl (by kernel_rfl) (by kernel_rfl) (by kernel_rfl) (fun _ _ _ h => h) (Or.inr ⟨by rfl, rfl⟩) hSx ?_
  try simp [Act.put]
  refine wpAnyH_take (i := 18) (v := undef) rfl (by kernel_rfl) (by kernel_rfl) (by kernel_rfl) (fun _ _ _ h => h) (Or.inr ⟨by rfl, rfl⟩) hSx ?_
  try simp [Act.put]
  refine wpAnyH_take (i := 19) (v := undef) rfl (by kernel_rfl) (by kernel_rfl) (by kernel_rfl) (fun _ _ _ h => h) (Or.inr ⟨by rfl, rfl⟩) hSx ?_
  try simp [Act.put]
  refine wpAnyH_take (i := 20) (v := undef) rfl (by kernel_rfl) (by kernel_rfl) (by kernel_rfl) (fun _ _ _ h => h) (Or.inr ⟨by rfl, rfl⟩) hSx ?_
  try simp [Act.put]
  refine wpAnyH_take (i := 21) (v := undef) rfl (by kernel_rfl) (by kernel_rfl) (by kernel_rfl) (fun _ _ _ h => h) (Or.inr ⟨by rfl, rfl⟩) hSx ?_
  try simp [Act.put]
  refine wpAnyH_take (i := 22) (v := undef) rfl (by kernel_rfl) (by kernel_rfl) (by kernel_rfl) (fun _ _ _ h => h) (Or.inr ⟨by rfl, rfl⟩) hSx ?_
  try simp [Act.put]
  refine wpAnyH_take (i := 23) (v := undef) rfl (by kernel_rfl) (by kernel_rfl) (by kernel_rfl) (fun _ _ _ h => h) (Or.inr ⟨by rfl, rfl⟩) hSx ?_
  try simp [Act.put]
  refine wpAnyH_take (i := 24) (v := undef) rfl (by kernel_rfl) (by kernel_rfl) (by kernel_rfl) (fun _ _ _ h => h) (Or.inr ⟨by rfl, rfl⟩) hSx ?_
  try simp [Act.put]
  refine wpAnyH_take (i := 25) (v := undef) rfl (by kernel_rfl) (by kernel_rfl) (by kernel_rfl) (fun _ _ _ h => h) (Or.inr ⟨by rfl, rfl⟩) hSx ?_
  try simp [Act.put]
  refine wpAnyH_take (i := 26) (v := .bool true) rfl (by kernel_rfl) (by kernel_rfl) (by kernel_rfl) (fun _ _ _ h => h) (Or.inl ⟨by rfl, fun wq hSw => by go_simp⟩) hSx ?_
  try simp [Act.put]
  refine wpAnyH_take (i := 27) (v := .bool true) rfl (by kernel_rfl) (by kernel_rfl) (by kernel_rfl) (fun _ _ _ h => h) (Or.inl ⟨by rfl, fun wq hSw => by go_simp⟩) hSx ?_
  try simp [Act.put]
  refine wpAnyH_take (i := 28) (v := undef) rfl (by kernel_rfl) (by kernel_rfl) (by kernel_rfl) (fun _ _ _ h => h) (Or.inr ⟨by rfl, rfl⟩) hSx ?_
  try simp [Act.put]
  refine wpAnyH_take (i := 29) (v := undef) rfl (by kernel_rfl) (by kernel_rfl) (by kernel_rfl) (fun _ _ _ h => h) (Or.inr ⟨by rfl, rfl⟩) hSx ?_
  try simp [Act.put]
  refine wpAnyH_take (i := 30) (v := undef) rfl (by kernel_rfl) (by kernel_rfl) (by kernel_rfl) (fun _ _ _ h => h) (Or.inr ⟨by rfl, rfl⟩) hSx ?_
  try simp [Act.put]
  refine wpAnyH_take (i := 31) (v := undef) rfl (by kernel_rfl) (by kernel_rfl) (by kernel_rfl) (fun _ _ _ h => h) (Or.inr ⟨by rfl, rfl⟩) hSx ?_
  try simp [Act.put]
  refine wpAnyH_take (i := 32) (v := .bool true) rfl (by kernel_rfl) (by kernel_rfl) (by kernel_rfl) (fun _ _ _ h => h) (Or.inl ⟨by rfl, fun wq hSw => by go_simp⟩) hSx ?_
  try simp [Act.put]
  refine wpAnyH_done (by kernel_rfl) ?_ _
  obtain ⟨w8, hw8⟩ : ∃ w8 : World, w8 = w3.drew := ⟨_, rfl⟩
  rw [← hw8]
  have HZ8 : Hid (Below ((w.alloc (.cells #[iv a0, iv a1, iv a2, iv a3] 47)).alloc (.cells #[iv 0, iv 0, iv 0, iv 0] 47)).heap.size ((w.alloc (.cells #[iv a0, iv a1, iv a2, iv a3] 47)).alloc (.cells #[iv 0, iv 0, iv 0, iv 0] 47)) w8) := hid (hw8 ▸ HZ3.out.drew)
  clear hw8
  obtain ⟨c0, c1, c2, c3, -⟩ := HS.out _ HZ8.out
  have fz : w8.frozen? ⟨w.heap.size, 3, none⟩ = false := (HZ8.out.frozen (p := ⟨w.heap.size, 3, none⟩) (by simp; omega)).trans (by simp [go_sem])
  have d0 : w8.cell? ⟨w.heap.size + 1, 0, none⟩ = some (iv 0) := (HZ8.out.cell (p := ⟨w.heap.size + 1, 0, none⟩) (by simp)).trans (by simp [go_sem])
  have fd0 : w8.frozen? ⟨w.heap.size + 1, 0, none⟩ = false := (HZ8.out.frozen (p := ⟨w.heap.size + 1, 0, none⟩) (by simp)).trans (by simp [go_sem])
  have d1 : w8.cell? ⟨w.heap.size + 1, 1, none⟩ = some (iv 0) := (HZ8.out.cell (p := ⟨w.heap.size + 1, 1, none⟩) (by simp)).trans (by simp [go_sem])
  have fd1 : w8.frozen? ⟨w.heap.size + 1, 1, none⟩ = false := (HZ8.out.frozen (p := ⟨w.heap.size + 1, 1, none⟩) (by simp)).trans (by simp [go_sem])
  have d2 : w8.cell? ⟨w.heap.size + 1, 2, none⟩ = some (iv 0) := (HZ8.out.cell (p := ⟨w.heap.size + 1, 2, none⟩) (by simp)).trans (by simp [go_sem])
  have fd2 : w8.frozen? ⟨w.heap.size + 1, 2, none⟩ = false := (HZ8.out.frozen (p := ⟨w.heap.size + 1, 2, none⟩) (by simp)).trans (by simp [go_sem])
  have d3 : w8.cell? ⟨w.heap.size + 1, 3, none⟩ = some (iv 0) := (HZ8.out.cell (p := ⟨w.heap.size + 1, 3, none⟩) (by simp)).trans (by simp [go_sem])
  have fd3 : w8.frozen? ⟨w.heap.size + 1, 3, none⟩ = false := (HZ8.out.frozen (p := ⟨w.heap.size + 1, 3, none⟩) (by simp)).trans (by simp [go_sem])
  go_wp2
  refine bodyPost_ret (v := .tuple #[.agg #[iv 0, iv 0, iv 0, iv 0], .bool false]) (by simp [results, Try.results35, go_sem, d0, d1, d2, d3]) rfl ⟨rfl, ?_⟩
  have HBX := hid (below_step H0.out HZ8.out)
  clear HX HZ8
  repeat (refine Below.setCell ?_ (by simp) _)
  exact HBX.out

set_option maxRecDepth 8000 in
set_option maxHeartbeats 4000000 in
theorem implMakeSuccession_any_B {B : Nat} {ks : List (List Int)} {v : Value} (a0 a1 a2 a3 : Int) (w : World) (h : Sl B w 5 v ks) (hB : B ≤ w.heap.size) (i : Nat) (hi : i < ks.length) (hf : findI 0 a0 ks = (i : Int)) (hf2 : findI 0 a1 ks = -1) :
    Calls Try.prog 35 #[v, .agg #[iv a0, iv a1, iv a2, iv a3]] w (Ret (.tuple #[.agg #[iv 0, iv 0, iv 0, iv 0], .bool false]) w) := by
  have HX : Below ((w.alloc (.cells #[iv a0, iv a1, iv a2, iv a3] 47)).alloc (.cells #[iv 0, iv 0, iv 0, iv 0] 47)).heap.size ((w.alloc (.cells #[iv a0, iv a1, iv a2, iv a3] 47)).alloc (.cells #[iv 0, iv 0, iv 0, iv 0] 47)) ((w.alloc (.cells #[iv a0, iv a1, iv a2, iv a3] 47)).alloc (.cells #[iv 0, iv 0, iv 0, iv 0] 47)) := Below.refl _ _
  have h0 : Below w.heap.size w ((w.alloc (.cells #[iv a0, iv a1, iv a2, iv a3] 47)).alloc (.cells #[iv 0, iv 0, iv 0, iv 0] 47)) := (below_alloc _ _).alloc (by simp) _
  have hB1 : B ≤ ((w.alloc (.cells #[iv a0, iv a1, iv a2, iv a3] 47)).alloc (.cells #[iv 0, iv 0, iv 0, iv 0] 47)).heap.size := by simp; omega
  have h1 : Sl B ((w.alloc (.cells #[iv a0, iv a1, iv a2, iv a3] 47)).alloc (.cells #[iv 0, iv 0, iv 0, iv 0] 47)) 5 v ks := h.below h0 hB
  have HS : Hid (∀ w' : World, Below ((w.alloc (.cells #[iv a0, iv a1, iv a2, iv a3] 47)).alloc (.cells #[iv 0, iv 0, iv 0, iv 0] 47)).heap.size ((w.alloc (.cells #[iv a0, iv a1, iv a2, iv a3] 47)).alloc (.cells #[iv 0, iv 0, iv 0, iv 0] 47)) w' → (w'.cell? ⟨w.heap.size, 0, none⟩ = some (iv a0) ∧ w'.cell? ⟨w.heap.size, 1, none⟩ = some (iv a1) ∧ w'.cell? ⟨w.heap.size, 2, none⟩ = some (iv a2) ∧ w'.cell? ⟨w.heap.size, 3, none⟩ = some (iv a3) ∧ Below ((w.alloc (.cells #[iv a0, iv a1, iv a2, iv a3] 47)).alloc (.cells #[iv 0, iv 0, iv 0, iv 0] 47)).heap.size ((w.alloc (.cells #[iv a0, iv a1, iv a2, iv a3] 47)).alloc (.cells #[iv 0, iv 0, iv 0, iv 0] 47)) w')) := hid fun w' hx => ⟨(hx.cell (p := ⟨w.heap.size, 0, none⟩) (by simp; omega)).trans (by simp [go_sem]), (hx.cell (p := ⟨w.heap.size, 1, none⟩) (by simp; omega)).trans (by simp [go_sem]), (hx.cell (p := ⟨w.heap.size, 2, none⟩) (by simp; omega)).trans (by simp [go_sem]), (hx.cell (p := ⟨w.heap.size, 3, none⟩) (by simp; omega)).trans (by simp [go_sem]), hx⟩
  have HV := hid h1
  have HBB := hid hB1
  have H0 := hid h0
  clear h h1 hB1 h0
  have HSc : Hid (∀ w' : World, Below ((w.alloc (.cells #[iv a0, iv a1, iv a2, iv a3] 47)).alloc (.cells #[iv 0, iv 0, iv 0, iv 0] 47)).heap.size ((w.alloc (.cells #[iv a0, iv a1, iv a2, iv a3] 47)).alloc (.cells #[iv 0, iv 0, iv 0, iv 0] 47)) w' → (w'.cell? ⟨w.heap.size, 0, none⟩ = some (iv a0) ∧ w'.cell? ⟨w.heap.size, 1, none⟩ = some (iv a1) ∧ w'.cell? ⟨w.heap.size, 2, none⟩ = some (iv a2) ∧ w'.cell? ⟨w.heap.size, 3, none⟩ = some (iv a3))) := hid fun w' hx => ⟨(hx.cell (p := ⟨w.heap.size, 0, none⟩) (by simp; omega)).trans (by simp [go_sem]), (hx.cell (p := ⟨w.heap.size, 1, none⟩) (by simp; omega)).trans (by simp [go_sem]), (hx.cell (p := ⟨w.heap.size, 2, none⟩) (by simp; omega)).trans (by simp [go_sem]), (hx.cell (p := ⟨w.heap.size, 3, none⟩) (by simp; omega)).trans (by simp [go_sem])⟩
  have HF := hid hf
  have HF2 := hid hf2
  clear hf hf2
  go_enter Try.func35, Try.ntmps35
  go_wp2_with fail
  go_region_held3 (fun w' => w'.cell? ⟨w.heap.size, 0, none⟩ = some (iv a0) ∧ w'.cell? ⟨w.heap.size, 1, none⟩ = some (iv a1) ∧ w'.cell? ⟨w.heap.size, 2, none⟩ = some (iv a2) ∧ w'.cell? ⟨w.heap.size, 3, none⟩ = some (iv a3) ∧ Below ((w.alloc (.cells #[iv a0, iv a1, iv a2, iv a3] 47)).alloc (.cells #[iv 0, iv 0, iv 0, iv 0] 47)).heap.size ((w.alloc (.cells #[iv a0, iv a1, iv a2, iv a3] 47)).alloc (.cells #[iv 0, iv 0, iv 0, iv 0] 47)) w') (first | with_reducible exact HS.out _ HX.drew | with_reducible exact HS.out _ HZ2.out | with_reducible exact HS.out _ HZ3.out | go_keep)
    (first | (go_at_call 78; refine (implSuccessionInts_any _ _ _ _ _).mono ?_; rintro e w2 ⟨v2, rfl, ho2, hb2⟩; have HZ2 := hid (below_step HX.drew hb2); have HO2 := hid ho2; clear hb2 ho2) | (go_at_call 60; refine (implmarkBy_yes _ _ ((HV.out.below HZ2.out HBB.out).mono (Nat.le_trans HBB.out HZ2.out.size)) (Own.si (zs := [106, a0, a1, a2]) HO2.out) (Nat.le_refl _) (by simp) i hi HF.out).mono ?_; rintro e w3 ⟨rfl, hb3⟩; have HZ3 := hid (below_step HZ2.out hb3); clear hb3))
  go_wp2_with fail
  refine wp_region_held_drew (S := fun w' => w'.cell? ⟨w.heap.size, 0, none⟩ = some (iv a0) ∧ w'.cell? ⟨w.heap.size, 1, none⟩ = some (iv a1) ∧ w'.cell? ⟨w.heap.size, 2, none⟩ = some (iv a2) ∧ w'.cell? ⟨w.heap.size, 3, none⟩ = some (iv a3)) (by kernel_rfl) (HSc.out _ HZ3.out.drew) (fun hSx => ?_)
  refine wpAnyH_take (i := 0) (v := .bool true) rfl (by kernel_rfl) (by kernel_rfl) (by kernel_rfl) (fun _ _ _ h => h) (Or.inl ⟨by rfl, fun wq hSw => by go_simp⟩) hSx ?_
  try simp [Act.put]
  refine wpAnyH_take (i := 1) (v := .bool false) rfl (by kernel_rfl) (by kernel_rfl) (by kernel_rfl) (fun _ _ _ h => h) (Or.inl ⟨by rfl, fun wq hSw => by go_simp⟩) hSx ?_
  try simp [Act.put]
  refine wpAnyH_take (i := 2) (v := .bool false) rfl (by kernel_rfl) (by kernel_rfl) (by kernel_rfl) (fun _ _ _ h => h) (Or.inl ⟨by rfl, fun wq hSw => by go_simp⟩) hSx ?_
  try simp [Act.put]
  refine wpAnyH_take (i := 3) (v := v) rfl (by kernel_rfl) (by kernel_rfl) (by kernel_rfl) (fun _ _ _ h => h) (Or.inl ⟨by rfl, fun wq hSw => by go_simp⟩) hSx ?_
  try simp [Act.put]
  refine wpAnyH_take (i := 4) (v := .pointer (some ⟨w.heap.size, 1, none⟩)) rfl (by kernel_rfl) (by kernel_rfl) (by kernel_rfl) (fun _ _ _ h => h) (Or.inl ⟨by rfl, fun wq hSw => by go_simp⟩) hSx ?_
  try simp [Act.put]
  refine wpAnyH_take (i := 5) (v := iv a1) rfl (by kernel_rfl) (by kernel_rfl) (by kernel_rfl) (fun _ _ _ h => h) (Or.inl ⟨by rfl, fun wq hSw => by go_simp⟩) hSx ?_
  try simp [Act.put]
  clear hSx
  refine wpAnyH_ready (rs := [6]) (by kernel_rfl) (by simp) ?_
  refine AllReadyH.cons rfl (fun K hK => ?_) AllReadyH.nil
  go_simp
  go_wp2_with ((go_at_call 79; refine (ret_cast (y := iv (-1)) (by rw [HF2.out]) (implFindKey_any a1 _ ((HV.out.below HZ3.out.drew HBB.out).mono (Nat.le_trans HBB.out (HZ3.out.drew).size)) (Nat.le_refl _))).mono ?_; rintro e w4 ⟨rfl, hb4⟩; have HZ4 := hid (below_step HZ3.out.drew hb4); clear hb4))
  refine hK _ _ (by simpa using HSc.out _ HZ4.out) (fun hSx => ?_)
  clear hK K
  try simp [Act.put]
  refine wpAnyH_take (i := 7) (v := .bool true) rfl (by kernel_rfl) (by kernel_rfl) (by kernel_rfl) (fun _ _ _ h => h) (Or.inl ⟨by rfl, fun wq hSw => by go_simp⟩) hSx ?_
  try simp [Act.put]
  refine wpAnyH_take (i := 8) (v := .bool true) rfl (by kernel_rfl) (by kernel_rfl) (by kernel_rfl) (fun _ _ _ h => h) (Or.inl ⟨by rfl, fun wq hSw => by go_simp⟩) hSx ?_
  try simp [Act.put]
  refine wpAnyH_take (i := 9) (v := .bool true) rfl (by kernel_rfl) (by kernel_rfl) (by kernel_rfl) (fun _ _ _ h => h) (Or.inl ⟨by rfl, fun wq hSw => by go_simp⟩) hSx ?_
  try simp [Act.put]
  refine wpAnyH_take (i := 10) (v := undef) rfl (by kernel_rfl) (by kernel_rfl) (by kernel_rfl) (fun _ _ _ h => h) (Or.inr ⟨by rfl, rfl⟩) hSx ?_
  try simp [Act.put]
  refine wpAnyH_take (i := 11) (v := undef) rfl (by kernel_rfl) (by kernel_rfl) (by kernel_rfl) (fun _ _ _ h => h) (Or.inr ⟨by rfl, rfl⟩) hSx ?_
  try simp [Act.put]
  refine wpAnyH_take (i := 12) (v := undef) rfl (by kernel_rfl) (by kernel_rfl) (by kernel_rfl) (fun _ _ _ h => h) (Or.inr ⟨by rfl, rfl⟩) hSx ?_
  try simp [Act.put]
  refine wpAnyH_take (i := 13) (v := undef) rfl (by kernel_rfl) (by kernel_rfl) (by kernel_rfl) (fun _ _ _ h => h) (Or.inr ⟨by rfl, rfl⟩) hSx ?_
  try simp [Act.put]
  refine wpAnyH_take (i := 14) (v := undef) rfl (by kernel_rfl) (by kernel_rfl) (by kernel_rfl) (fun _ _ _ h => h) (Or.inr ⟨by rfl, rfl⟩) hSx ?_
  try simp [Act.put]
  refine wpAnyH_take (i := 15) (v := .bool true) rfl (by kernel_rfl) (by kernel_rfl) (by kernel_rfl) (fun _ _ _ h => h) (Or.inl ⟨by rfl, fun wq hSw => by go_simp⟩) hSx ?_
  try simp [Act.put]
  refine wpAnyH_take (i := 16) (v := .bool true) rfl (by kernel_rfl) (by kernel_rfl) (by kernel_rfl) (fun _ _ _ h => h) (Or.inl ⟨by rfl, fun wq hSw => by go_simp⟩) hSx ?_
  try simp [Act.put]
  refine wpAnyH_take (i := 17) (v := undef) rfl (by kernel_rfl) (by kernel_rfl) (by kernel_rfl) (fun _ _ _ h => h) (Or.inr ⟨by rfl, rfl⟩) hSx ?_
  try simp [Act.put]
  refine wpAnyH_take (i := 18) (v := undef) rfl (by kernel_rfl) (by kernel_rfl) (by kernel_rfl) (fun _ _ _ h => h) (Or.inr ⟨by rfl, rfl⟩) hSx ?_
  try simp [Act.put]
  refine wpAnyH_take (i := 19) (v := undef) rfl (by kernel_rfl) (by kernel_rfl) (by kernel_rfl) (fun _ _ _ h => h) (Or.inr ⟨by rfl, rfl⟩) hSx ?_
  try simp [Act.put]
  refine wpAnyH_take (i := 20) (v := undef) rfl (by kernel_rfl) (by kernel_rfl) (by kernel_rfl) (fun _ _ _ h => h) (Or.inr ⟨by rfl, rfl⟩) hSx ?_
  try simp [Act.put]
  refine wpAnyH_take (i := 21) (v := undef) rfl (by kernel_rfl) (by kernel_rfl) (by kernel_rfl) (fun _ _ _ h => h) (Or.inr ⟨by rfl, rfl⟩) hSx ?_
  try simp [Act.put]
  refine wpAnyH_take (i := 22) (v := undef) rfl (by kernel_rfl) (by kernel_rfl) (by kernel_rfl) (fun _ _ _ h => h) (Or.inr ⟨by rfl, rfl⟩) hSx ?_
  try simp [Act.put]
  refine wpAnyH_take (i := 23) (v := undef) rfl (by kernel_rfl) (by kernel_rfl) (by kernel_rfl) (fun _ _ _ h => h) (Or.inr ⟨by rfl, rfl⟩) hSx ?_
  try simp [Act.put]
  refine wpAnyH_take (i := 24) (v := undef) rfl (by kernel_rfl) (by kernel_rfl) (by kernel_rfl) (fun _ _ _ h => h) (Or.inr ⟨by rfl, rfl⟩) hSx ?_
  try simp [Act.put]
  refine wpAnyH_take (i := 25) (v := undef) rfl (by kernel_rfl) (by kernel_rfl) (by kernel_rfl) (fun _ _ _ h => h) (Or.inr ⟨by rfl, rfl⟩) hSx ?_
  try simp [Act.put]
  refine wpAnyH_take (i := 26) (v := .bool true) rfl (by kernel_rfl) (by kernel_rfl) (by kernel_rfl) (fun _ _ _ h => h) (Or.inl ⟨by rfl, fun wq hSw => by go_simp⟩) hSx ?_
  try simp [Act.put]
  refine wpAnyH_take (i := 27) (v := .bool true) rfl (by kernel_rfl) (by kernel_rfl) (by kernel_rfl) (fun _ _ _ h => h) (Or.inl ⟨by rfl, fun wq hSw => by go_simp⟩) hSx ?_
  try simp [Act.put]
  refine wpAnyH_take (i := 28) (v := undef) rfl (by kernel_rfl) (by kernel_rfl) (by kernel_rfl) (fun _ _ _ h => h) (Or.inr ⟨by rfl, rfl⟩) hSx ?_
  try simp [Act.put]
  refine wpAnyH_take (i := 29) (v := undef) rfl (by kernel_rfl) (by kernel_rfl) (by kernel_rfl) (fun _ _ _ h => h) (Or.inr ⟨by rfl, rfl⟩) hSx ?_
  try simp [Act.put]
  refine wpAnyH_take (i := 30) (v := undef) rfl (by kernel_rfl) (by kernel_rfl) (by kernel_rfl) (fun _ _ _ h => h) (Or.inr ⟨by rfl, rfl⟩) hSx ?_
  try simp [Act.put]
  refine wpAnyH_take (i := 31) (v := undef) rfl (by kernel_rfl) (by kernel_rfl) (by kernel_rfl) (fun _ _ _ h => h) (Or.inr ⟨by rfl, rfl⟩) hSx ?_
  try simp [Act.put]
  refine wpAnyH_take (i := 32) (v := .bool true) rfl (by kernel_rfl) (by kernel_rfl) (by kernel_rfl) (fun _ _ _ h => h) (Or.inl ⟨by rfl, fun wq hSw => by go_simp⟩) hSx ?_
  try simp [Act.put]
  refine wpAnyH_done (by kernel_rfl) ?_ _
  obtain ⟨c0, c1, c2, c3, -⟩ := HS.out _ HZ4.out
  have fz : w4.frozen? ⟨w.heap.size, 3, none⟩ = false := (HZ4.out.frozen (p := ⟨w.heap.size, 3, none⟩) (by simp; omega)).trans (by simp [go_sem])
  have d0 : w4.cell? ⟨w.heap.size + 1, 0, none⟩ = some (iv 0) := (HZ4.out.cell (p := ⟨w.heap.size + 1, 0, none⟩) (by simp)).trans (by simp [go_sem])
  have fd0 : w4.frozen? ⟨w.heap.size + 1, 0, none⟩ = false := (HZ4.out.frozen (p := ⟨w.heap.size + 1, 0, none⟩) (by simp)).trans (by simp [go_sem])
  have d1 : w4.cell? ⟨w.heap.size + 1, 1, none⟩ = some (iv 0) := (HZ4.out.cell (p := ⟨w.heap.size + 1, 1, none⟩) (by simp)).trans (by simp [go_sem])
  have fd1 : w4.frozen? ⟨w.heap.size + 1, 1, none⟩ = false := (HZ4.out.frozen (p := ⟨w.heap.size + 1, 1, none⟩) (by simp)).trans (by simp [go_sem])
  have d2 : w4.cell? ⟨w.heap.size + 1, 2, none⟩ = some (iv 0) := (HZ4.out.cell (p := ⟨w.heap.size + 1, 2, none⟩) (by simp)).trans (by simp [go_sem])
  have fd2 : w4.frozen? ⟨w.heap.size + 1, 2, none⟩ = false := (HZ4.out.frozen (p := ⟨w.heap.size + 1, 2, none⟩) (by simp)).trans (by simp [go_sem])
  have d3 : w4.cell? ⟨w.heap.size + 1, 3, none⟩ = some (iv 0) := (HZ4.out.cell (p := ⟨w.heap.size + 1, 3, none⟩) (by simp)).trans (by simp [go_sem])
  have fd3 : w4.frozen? ⟨w.heap.size + 1, 3, none⟩ = false := (HZ4.out.frozen (p := ⟨w.heap.size + 1, 3, none⟩) (by simp)).trans (by simp [go_sem])
  go_wp2
  refine bodyPost_ret (v := .tuple #[.agg #[iv 0, iv 0, iv 0, iv 0], .bool false]) (by simp [results, Try.results35, go_sem, d0, d1, d2, d3]) rfl ⟨rfl, ?_⟩
  have HBX := hid (below_step H0.out HZ4.out)
  clear HX HZ4
  repeat (refine Below.setCell ?_ (by simp) _)
  exact HBX.out

set_option maxRecDepth 8000 in
set_option maxHeartbeats 4000000 in
theorem implMakeSuccession_any_C {B : Nat} {ks : List (List Int)} {v : Value} (a0 a1 a2 a3 : Int) (w : World) (h : Sl B w 5 v ks) (hB : B ≤ w.heap.size) (i : Nat) (hi : i < ks.length) (hf : findI 0 a0 ks = (i : Int)) (k : Nat) (_hk : k < ks.length) (hf2 : findI 0 a1 ks = (k : Int)) (hne : (a0 == a1) = true) :
    Calls Try.prog 35 #[v, .agg #[iv a0, iv a1, iv a2, iv a3]] w (Ret (.tuple #[.agg #[iv 0, iv 0, iv 0, iv 0], .bool false]) w) := by
  have HX : Below ((w.alloc (.cells #[iv a0, iv a1, iv a2, iv a3] 47)).alloc (.cells #[iv 0, iv 0, iv 0, iv 0] 47)).heap.size ((w.alloc (.cells #[iv a0, iv a1, iv a2, iv a3] 47)).alloc (.cells #[iv 0, iv 0, iv 0, iv 0] 47)) ((w.alloc (.cells #[iv a0, iv a1, iv a2, iv a3] 47)).alloc (.cells #[iv 0, iv 0, iv 0, iv 0] 47)) := Below.refl _ _
  have h0 : Below w.heap.size w ((w.alloc (.cells #[iv a0, iv a1, iv a2, iv a3] 47)).alloc (.cells #[iv 0, iv 0, iv 0, iv 0] 47)) := (below_alloc _ _).alloc (by simp) _
  have hB1 : B ≤ ((w.alloc (.cells #[iv a0, iv a1, iv a2, iv a3] 47)).alloc (.cells #[iv 0, iv 0, iv 0, iv 0] 47)).heap.size := by simp; omega
  have h1 : Sl B ((w.alloc (.cells #[iv a0, iv a1, iv a2, iv a3] 47)).alloc (.cells #[iv 0, iv 0, iv 0, iv 0] 47)) 5 v ks := h.below h0 hB
  have HS : Hid (∀ w' : World, Below ((w.alloc (.cells #[iv a0, iv a1, iv a2, iv a3] 47)).alloc (.cells #[iv 0, iv 0, iv 0, iv 0] 47)).heap.size ((w.alloc (.cells #[iv a0, iv a1, iv a2, iv a3] 47)).alloc (.cells #[iv 0, iv 0, iv 0, iv 0] 47)) w' → (w'.cell? ⟨w.heap.size, 0, none⟩ = some (iv a0) ∧ w'.cell? ⟨w.heap.size, 1, none⟩ = some (iv a1) ∧ w'.cell? ⟨w.heap.size, 2, none⟩ = some (iv a2) ∧ w'.cell? ⟨w.heap.size, 3, none⟩ = some (iv a3) ∧ Below ((w.alloc (.cells #[iv a0, iv a1, iv a2, iv a3] 47)).alloc (.cells #[iv 0, iv 0, iv 0, iv 0] 47)).heap.size ((w.alloc (.cells #[iv a0, iv a1, iv a2, iv a3] 47)).alloc (.cells #[iv 0, iv 0, iv 0, iv 0] 47)) w')) := hid fun w' hx => ⟨(hx.cell (p := ⟨w.heap.size, 0, none⟩) (by simp; omega)).trans (by simp [go_sem]), (hx.cell (p := ⟨w.heap.size, 1, none⟩) (by simp; omega)).trans (by simp [go_sem]), (hx.cell (p := ⟨w.heap.size, 2, none⟩) (by simp; omega)).trans (by simp [go_sem]), (hx.cell (p := ⟨w.heap.size, 3, none⟩) (by simp; omega)).trans (by simp [go_sem]), hx⟩
  have HV := hid h1
  have HBB := hid hB1
  have H0 := hid h0
  clear h h1 hB1 h0
  have HSc : Hid (∀ w' : World, Below ((w.alloc (.cells #[iv a0, iv a1, iv a2, iv a3] 47)).alloc (.cells #[iv 0, iv 0, iv 0, iv 0] 47)).heap.size ((w.alloc (.cells #[iv a0, iv a1, iv a2, iv a3] 47)).alloc (.cells #[iv 0, iv 0, iv 0, iv 0] 47)) w' → (w'.cell? ⟨w.heap.size, 0, none⟩ = some (iv a0) ∧ w'.cell? ⟨w.heap.size, 1, none⟩ = some (iv a1) ∧ w'.cell? ⟨w.heap.size, 2, none⟩ = some (iv a2) ∧ w'.cell? ⟨w.heap.size, 3, none⟩ = some (iv a3))) := hid fun w' hx => ⟨(hx.cell (p := ⟨w.heap.size, 0, none⟩) (by simp; omega)).trans (by simp [go_sem]), (hx.cell (p := ⟨w.heap.size, 1, none⟩) (by simp; omega)).trans (by simp [go_sem]), (hx.cell (p := ⟨w.heap.size, 2, none⟩) (by simp; omega)).trans (by simp [go_sem]), (hx.cell (p := ⟨w.heap.size, 3, none⟩) (by simp; omega)).trans (by simp [go_sem])⟩
  have HF := hid hf
  have HF2 := hid hf2
  clear hf hf2
  have hk2 : decide ((k : Int) < 0) = false := by simp
  go_enter Try.func35, Try.ntmps35
  go_wp2_with fail
  go_region_held3 (fun w' => w'.cell? ⟨w.heap.size, 0, none⟩ = some (iv a0) ∧ w'.cell? ⟨w.heap.size, 1, none⟩ = some (iv a1) ∧ w'.cell? ⟨w.heap.size, 2, none⟩ = some (iv a2) ∧ w'.cell? ⟨w.heap.size, 3, none⟩ = some (iv a3) ∧ Below ((w.alloc (.cells #[iv a0, iv a1, iv a2, iv a3] 47)).alloc (.cells #[iv 0, iv 0, iv 0, iv 0] 47)).heap.size ((w.alloc (.cells #[iv a0, iv a1, iv a2, iv a3] 47)).alloc (.cells #[iv 0, iv 0, iv 0, iv 0] 47)) w') (first | with_reducible exact HS.out _ HX.drew | with_reducible exact HS.out _ HZ2.out | with_reducible exact HS.out _ HZ3.out | go_keep)
    (first | (go_at_call 78; refine (implSuccessionInts_any _ _ _ _ _).mono ?_; rintro e w2 ⟨v2, rfl, ho2, hb2⟩; have HZ2 := hid (below_step HX.drew hb2); have HO2 := hid ho2; clear hb2 ho2) | (go_at_call 60; refine (implmarkBy_yes _ _ ((HV.out.below HZ2.out HBB.out).mono (Nat.le_trans HBB.out HZ2.out.size)) (Own.si (zs := [106, a0, a1, a2]) HO2.out) (Nat.le_refl _) (by simp) i hi HF.out).mono ?_; rintro e w3 ⟨rfl, hb3⟩; have HZ3 := hid (below_step HZ2.out hb3); clear hb3))
  go_wp2_with fail
  refine wp_region_held_drew (S := fun w' => w'.cell? ⟨w.heap.size, 0, none⟩ = some (iv a0) ∧ w'.cell? ⟨w.heap.size, 1, none⟩ = some (iv a1) ∧ w'.cell? ⟨w.heap.size, 2, none⟩ = some (iv a2) ∧ w'.cell? ⟨w.heap.size, 3, none⟩ = some (iv a3)) (by kernel_rfl) (HSc.out _ HZ3.out.drew) (fun hSx => ?_)
  refine wpAnyH_take (i := 0) (v := .bool true) rfl (by kernel_rfl) (by kernel_rfl) (by kernel_rfl) (fun _ _ _ h => h) (Or.inl ⟨by rfl, fun wq hSw => by go_simp⟩) hSx ?_
  try simp [Act.put]
  refine wpAnyH_take (i := 1) (v := .bool false) rfl (by kernel_rfl) (by kernel_rfl) (by kernel_rfl) (fun _ _ _ h => h) (Or.inl ⟨by rfl, fun wq hSw => by go_simp⟩) hSx ?_
  try simp [Act.put]
  refine wpAnyH_take (i := 2) (v := .bool false) rfl (by kernel_rfl) (by kernel_rfl) (by kernel_rfl) (fun _ _ _ h => h) (Or.inl ⟨by rfl, fun wq hSw => by go_simp⟩) hSx ?_
  try simp [Act.put]
  refine wpAnyH_take (i := 3) (v := v) rfl (by kernel_rfl) (by kernel_rfl) (by kernel_rfl) (fun _ _ _ h => h) (Or.inl ⟨by rfl, fun wq hSw => by go_simp⟩) hSx ?_
  try simp [Act.put]
  refine wpAnyH_take (i := 4) (v := .pointer (some ⟨w.heap.size, 1, none⟩)) rfl (by kernel_rfl) (by kernel_rfl) (by kernel_rfl) (fun _ _ _ h => h) (Or.inl ⟨by rfl, fun wq hSw => by go_simp⟩) hSx ?_
  try simp [Act.put]
  refine wpAnyH_take (i := 5) (v := iv a1) rfl (by kernel_rfl) (by kernel_rfl) (by kernel_rfl) (fun _ _ _ h => h) (Or.inl ⟨by rfl, fun wq hSw => by go_simp⟩) hSx ?_
  try simp [Act.put]
  clear hSx
  refine wpAnyH_ready (rs := [6]) (by kernel_rfl) (by simp) ?_
  refine AllReadyH.cons rfl (fun K hK => ?_) AllReadyH.nil
  go_simp
  go_wp2_with ((go_at_call 79; refine (ret_cast (y := iv (k : Int)) (by rw [HF2.out]) (implFindKey_any a1 _ ((HV.out.below HZ3.out.drew HBB.out).mono (Nat.le_trans HBB.out (HZ3.out.drew).size)) (Nat.le_refl _))).mono ?_; rintro e w4 ⟨rfl, hb4⟩; have HZ4 := hid (below_step HZ3.out.drew hb4); clear hb4))
  refine hK _ _ (by simpa using HSc.out _ HZ4.out) (fun hSx => ?_)
  clear hK K
  try simp [Act.put]
  refine wpAnyH_take (i := 7) (v := .bool false) rfl (by kernel_rfl) (by kernel_rfl) (by kernel_rfl) (fun _ _ _ h => h) (Or.inl ⟨by rfl, fun wq hSw => by go_simp⟩) hSx ?_
  try simp [Act.put]
  refine wpAnyH_take (i := 8) (v := .bool false) rfl (by kernel_rfl) (by kernel_rfl) (by kernel_rfl) (fun _ _ _ h => h) (Or.inl ⟨by rfl, fun wq hSw => by go_simp⟩) hSx ?_
  try simp [Act.put]
  refine wpAnyH_take (i := 9) (v := .bool false) rfl (by kernel_rfl) (by kernel_rfl) (by kernel_rfl) (fun _ _ _ h => h) (Or.inl ⟨by rfl, fun wq hSw => by go_simp⟩) hSx ?_
  try simp [Act.put]
  refine wpAnyH_take (i := 10) (v := .pointer (some ⟨w.heap.size, 0, none⟩)) rfl (by kernel_rfl) (by kernel_rfl) (by kernel_rfl) (fun _ _ _ h => h) (Or.inl ⟨by rfl, fun wq hSw => by go_simp⟩) hSx ?_
  try simp [Act.put]
  refine wpAnyH_take (i := 11) (v := iv a0) rfl (by kernel_rfl) (by kernel_rfl) (by kernel_rfl) (fun _ _ _ h => h) (Or.inl ⟨by rfl, fun wq hSw => by go_simp⟩) hSx ?_
  try simp [Act.put]
  refine wpAnyH_take (i := 12) (v := .pointer (some ⟨w.heap.size, 1, none⟩)) rfl (by kernel_rfl) (by kernel_rfl) (by kernel_rfl) (fun _ _ _ h => h) (Or.inl ⟨by rfl, fun wq hSw => by go_simp⟩) hSx ?_
  try simp [Act.put]
  refine wpAnyH_take (i := 13) (v := iv a1) rfl (by kernel_rfl) (by kernel_rfl) (by kernel_rfl) (fun _ _ _ h => h) (Or.inl ⟨by rfl, fun wq hSw => by go_simp⟩) hSx ?_
  try simp [Act.put]
  refine wpAnyH_take (i := 14) (v := .bool true) rfl (by kernel_rfl) (by kernel_rfl) (by kernel_rfl) (fun _ _ _ h => h) (Or.inl ⟨by rfl, fun wq hSw => by go_simp⟩) hSx ?_
  try simp [Act.put]
  refine wpAnyH_take (i := 15) (v := .bool true) rfl (by kernel_rfl) (by kernel_rfl) (by kernel_rfl) (fun _ _ _ h => h) (Or.inl ⟨by rfl, fun wq hSw => by go_simp⟩) hSx ?_
  try simp [Act.put]
  refine wpAnyH_take (i := 16) (v := .bool true) rfl (by kernel_rfl) (by kernel_rfl) (by kernel_rfl) (fun _ _ _ h => h) (Or.inl ⟨by rfl, fun wq hSw => by go_simp⟩) hSx ?_
  try simp [Act.put]
  refine wpAnyH_take (i := 17) (v := undef) rfl (by kernel_rfl) (by kernel_rfl) (by kernel_rfl) (fun _ _ _ h => h) (Or.inr ⟨by rfl, rfl⟩) hSx ?_
  try simp [Act.put]
  refine wpAnyH_take (i := 18) (v := undef) rfl (by kernel_rfl) (by kernel_rfl) (by kernel_rfl) (fun _ _ _ h => h) (Or.inr ⟨by rfl, rfl⟩) hSx ?_
  try simp [Act.put]
  refine wpAnyH_take (i := 19) (v := undef) rfl (by kernel_rfl) (by kernel_rfl) (by kernel_rfl) (fun _ _ _ h => h) (Or.inr ⟨by rfl, rfl⟩) hSx ?_
  try simp [Act.put]
  refine wpAnyH_take (i := 20) (v := undef) rfl (by kernel_rfl) (by kernel_rfl) (by kernel_rfl) (fun _ _ _ h => h) (Or.inr ⟨by rfl, rfl⟩) hSx ?_
  try simp [Act.put]
  refine wpAnyH_take (i := 21) (v := undef) rfl (by kernel_rfl) (by kernel_rfl) (by kernel_rfl) (fun _ _ _ h => h) (Or.inr ⟨by rfl, rfl⟩) hSx ?_
  try simp [Act.put]
  refine wpAnyH_take (i := 22) (v := undef) rfl (by kernel_rfl) (by kernel_rfl) (by kernel_rfl) (fun _ _ _ h => h) (Or.inr ⟨by rfl, rfl⟩) hSx ?_
  try simp [Act.put]
  refine wpAnyH_take (i := 23) (v := undef) rfl (by kernel_rfl) (by kernel_rfl) (by kernel_rfl) (fun _ _ _ h => h) (Or.inr ⟨by rfl, rfl⟩) hSx ?_
  try simp [Act.put]
  refine wpAnyH_take (i := 24) (v := undef) rfl (by kernel_rfl) (by kernel_rfl) (by kernel_rfl) (fun _ _ _ h => h) (Or.inr ⟨by rfl, rfl⟩) hSx ?_
  try simp [Act.put]
  refine wpAnyH_take (i := 25) (v := undef) rfl (by kernel_rfl) (by kernel_rfl) (by kernel_rfl) (fun _ _ _ h => h) (Or.inr ⟨by rfl, rfl⟩) hSx ?_
  try simp [Act.put]
  refine wpAnyH_take (i := 26) (v := .bool true) rfl (by kernel_rfl) (by kernel_rfl) (by kernel_rfl) (fun _ _ _ h => h) (Or.inl ⟨by rfl, fun wq hSw => by go_simp⟩) hSx ?_
  try simp [Act.put]
  refine wpAnyH_take (i := 27) (v := .bool true) rfl (by kernel_rfl) (by kernel_rfl) (by kernel_rfl) (fun _ _ _ h => h) (Or.inl ⟨by rfl, fun wq hSw => by go_simp⟩) hSx ?_
  try simp [Act.put]
  refine wpAnyH_take (i := 28) (v := undef) rfl (by kernel_rfl) (by kernel_rfl) (by kernel_rfl) (fun _ _ _ h => h) (Or.inr ⟨by rfl, rfl⟩) hSx ?_
  try simp [Act.put]
  refine wpAnyH_take (i := 29) (v := undef) rfl (by kernel_rfl) (by kernel_rfl) (by kernel_rfl) (fun _ _ _ h => h) (Or.inr ⟨by rfl, rfl⟩) hSx ?_
  try simp [Act.put]
  refine wpAnyH_take (i := 30) (v := undef) rfl (by kernel_rfl) (by kernel_rfl) (by kernel_rfl) (fun _ _ _ h => h) (Or.inr ⟨by rfl, rfl⟩) hSx ?_
  try simp [Act.put]
  refine wpAnyH_take (i := 31) (v := undef) rfl (by kernel_rfl) (by kernel_rfl) (by kernel_rfl) (fun _ _ _ h => h) (Or.inr ⟨by rfl, rfl⟩) hSx ?_
  try simp [Act.put]
  refine wpAnyH_take (i := 32) (v := .bool true) rfl (by kernel_rfl) (by kernel_rfl) (by kernel_rfl) (fun _ _ _ h => h) (Or.inl ⟨by rfl, fun wq hSw => by go_simp⟩) hSx ?_
  try simp [Act.put]
  refine wpAnyH_done (by kernel_rfl) ?_ _
  obtain ⟨c0, c1, c2, c3, -⟩ := HS.out _ HZ4.out
  have fz : w4.frozen? ⟨w.heap.size, 3, none⟩ = false := (HZ4.out.frozen (p := ⟨w.heap.size, 3, none⟩) (by simp; omega)).trans (by simp [go_sem])
  have d0 : w4.cell? ⟨w.heap.size + 1, 0, none⟩ = some (iv 0) := (HZ4.out.cell (p := ⟨w.heap.size + 1, 0, none⟩) (by simp)).trans (by simp [go_sem])
  have fd0 : w4.frozen? ⟨w.heap.size + 1, 0, none⟩ = false := (HZ4.out.frozen (p := ⟨w.heap.size + 1, 0, none⟩) (by simp)).trans (by simp [go_sem])
  have d1 : w4.cell? ⟨w.heap.size + 1, 1, none⟩ = some (iv 0) := (HZ4.out.cell (p := ⟨w.heap.size + 1, 1, none⟩) (by simp)).trans (by simp [go_sem])
  have fd1 : w4.frozen? ⟨w.heap.size + 1, 1, none⟩ = false := (HZ4.out.frozen (p := ⟨w.heap.size + 1, 1, none⟩) (by simp)).trans (by simp [go_sem])
  have d2 : w4.cell? ⟨w.heap.size + 1, 2, none⟩ = some (iv 0) := (HZ4.out.cell (p := ⟨w.heap.size + 1, 2, none⟩) (by simp)).trans (by simp [go_sem])
  have fd2 : w4.frozen? ⟨w.heap.size + 1, 2, none⟩ = false := (HZ4.out.frozen (p := ⟨w.heap.size + 1, 2, none⟩) (by simp)).trans (by simp [go_sem])
  have d3 : w4.cell? ⟨w.heap.size + 1, 3, none⟩ = some (iv 0) := (HZ4.out.cell (p := ⟨w.heap.size + 1, 3, none⟩) (by simp)).trans (by simp [go_sem])
  have fd3 : w4.frozen? ⟨w.heap.size + 1, 3, none⟩ = false := (HZ4.out.frozen (p := ⟨w.heap.size + 1, 3, none⟩) (by simp)).trans (by simp [go_sem])
  go_wp2
  refine bodyPost_ret (v := .tuple #[.agg #[iv 0, iv 0, iv 0, iv 0], .bool false]) (by simp [results, Try.results35, go_sem, d0, d1, d2, d3]) rfl ⟨rfl, ?_⟩
  have HBX := hid (below_step H0.out HZ4.out)
  clear HX HZ4
  repeat (refine Below.setCell ?_ (by simp) _)
  exact HBX.out

set_option maxRecDepth 8000 in
set_option maxHeartbeats 4000000 in
theorem implMakeSuccession_any_D {B : Nat} {ks : List (List Int)} {v : Value} (a0 a1 a2 a3 : Int) (w : World) (h : Sl B w 5 v ks) (hB : B ≤ w.heap.size) (i : Nat) (hi : i < ks.length) (hf : findI 0 a0 ks = (i : Int)) (k : Nat) (_hk : k < ks.length) (hf2 : findI 0 a1 ks = (k : Int)) (hne : (a0 == a1) = false) (how : (fld ks i 1 == fld ks k 1) = false) :
    Calls Try.prog 35 #[v, .agg #[iv a0, iv a1, iv a2, iv a3]] w (Ret (.tuple #[.agg #[iv 0, iv 0, iv 0, iv 0], .bool false]) w) := by
  have HX : Below ((w.alloc (.cells #[iv a0, iv a1, iv a2, iv a3] 47)).alloc (.cells #[iv 0, iv 0, iv 0, iv 0] 47)).heap.size ((w.alloc (.cells #[iv a0, iv a1, iv a2, iv a3] 47)).alloc (.cells #[iv 0, iv 0, iv 0, iv 0] 47)) ((w.alloc (.cells #[iv a0, iv a1, iv a2, iv a3] 47)).alloc (.cells #[iv 0, iv 0, iv 0, iv 0] 47)) := Below.refl _ _
  have h0 : Below w.heap.size w ((w.alloc (.cells #[iv a0, iv a1, iv a2, iv a3] 47)).alloc (.cells #[iv 0, iv 0, iv 0, iv 0] 47)) := (below_alloc _ _).alloc (by simp) _
  have hB1 : B ≤ ((w.alloc (.cells #[iv a0, iv a1, iv a2, iv a3] 47)).alloc (.cells #[iv 0, iv 0, iv 0, iv 0] 47)).heap.size := by simp; omega
  have h1 : Sl B ((w.alloc (.cells #[iv a0, iv a1, iv a2, iv a3] 47)).alloc (.cells #[iv 0, iv 0, iv 0, iv 0] 47)) 5 v ks := h.below h0 hB
  have HS : Hid (∀ w' : World, Below ((w.alloc (.cells #[iv a0, iv a1, iv a2, iv a3] 47)).alloc (.cells #[iv 0, iv 0, iv 0, iv 0] 47)).heap.size ((w.alloc (.cells #[iv a0, iv a1, iv a2, iv a3] 47)).alloc (.cells #[iv 0, iv 0, iv 0, iv 0] 47)) w' → (w'.cell? ⟨w.heap.size, 0, none⟩ = some (iv a0) ∧ w'.cell? ⟨w.heap.size, 1, none⟩ = some (iv a1) ∧ w'.cell? ⟨w.heap.size, 2, none⟩ = some (iv a2) ∧ w'.cell? ⟨w.heap.size, 3, none⟩ = some (iv a3) ∧ Below ((w.alloc (.cells #[iv a0, iv a1, iv a2, iv a3] 47)).alloc (.cells #[iv 0, iv 0, iv 0, iv 0] 47)).heap.size ((w.alloc (.cells #[iv a0, iv a1, iv a2, iv a3] 47)).alloc (.cells #[iv 0, iv 0, iv 0, iv 0] 47)) w')) := hid fun w' hx => ⟨(hx.cell (p := ⟨w.heap.size, 0, none⟩) (by simp; omega)).trans (by simp [go_sem]), (hx.cell (p := ⟨w.heap.size, 1, none⟩) (by simp; omega)).trans (by simp [go_sem]), (hx.cell (p := ⟨w.heap.size, 2, none⟩) (by simp; omega)).trans (by simp [go_sem]), (hx.cell (p := ⟨w.heap.size, 3, none⟩) (by simp; omega)).trans (by simp [go_sem]), hx⟩
  have HV := hid h1
  have HBB := hid hB1
  have H0 := hid h0
  clear h h1 hB1 h0
  have HSc : Hid (∀ w' : World, Below ((w.alloc (.cells #[iv a0, iv a1, iv a2, iv a3] 47)).alloc (.cells #[iv 0, iv 0, iv 0, iv 0] 47)).heap.size ((w.alloc (.cells #[iv a0, iv a1, iv a2, iv a3] 47)).alloc (.cells #[iv 0, iv 0, iv 0, iv 0] 47)) w' → (w'.cell? ⟨w.heap.size, 0, none⟩ = some (iv a0) ∧ w'.cell? ⟨w.heap.size, 1, none⟩ = some (iv a1) ∧ w'.cell? ⟨w.heap.size, 2, none⟩ = some (iv a2) ∧ w'.cell? ⟨w.heap.size, 3, none⟩ = some (iv a3))) := hid fun w' hx => ⟨(hx.cell (p := ⟨w.heap.size, 0, none⟩) (by simp; omega)).trans (by simp [go_sem]), (hx.cell (p := ⟨w.heap.size, 1, none⟩) (by simp; omega)).trans (by simp [go_sem]), (hx.cell (p := ⟨w.heap.size, 2, none⟩) (by simp; omega)).trans (by simp [go_sem]), (hx.cell (p := ⟨w.heap.size, 3, none⟩) (by simp; omega)).trans (by simp [go_sem])⟩
  have HF := hid hf
  have HF2 := hid hf2
  clear hf hf2
  have how' : (fld ks i 1 != fld ks k 1) = true := by simp [bne, how]
  have hk2 : decide ((k : Int) < 0) = false := by simp
  go_enter Try.func35, Try.ntmps35
  go_wp2_with fail
  go_region_held3 (fun w' => w'.cell? ⟨w.heap.size, 0, none⟩ = some (iv a0) ∧ w'.cell? ⟨w.heap.size, 1, none⟩ = some (iv a1) ∧ w'.cell? ⟨w.heap.size, 2, none⟩ = some (iv a2) ∧ w'.cell? ⟨w.heap.size, 3, none⟩ = some (iv a3) ∧ Below ((w.alloc (.cells #[iv a0, iv a1, iv a2, iv a3] 47)).alloc (.cells #[iv 0, iv 0, iv 0, iv 0] 47)).heap.size ((w.alloc (.cells #[iv a0, iv a1, iv a2, iv a3] 47)).alloc (.cells #[iv 0, iv 0, iv 0, iv 0] 47)) w') (first | with_reducible exact HS.out _ HX.drew | with_reducible exact HS.out _ HZ2.out | with_reducible exact HS.out _ HZ3.out | go_keep)
    (first | (go_at_call 78; refine (implSuccessionInts_any _ _ _ _ _).mono ?_; rintro e w2 ⟨v2, rfl, ho2, hb2⟩; have HZ2 := hid (below_step HX.drew hb2); have HO2 := hid ho2; clear hb2 ho2) | (go_at_call 60; refine (implmarkBy_yes _ _ ((HV.out.below HZ2.out HBB.out).mono (Nat.le_trans HBB.out HZ2.out.size)) (Own.si (zs := [106, a0, a1, a2]) HO2.out) (Nat.le_refl _) (by simp) i hi HF.out).mono ?_; rintro e w3 ⟨rfl, hb3⟩; have HZ3 := hid (below_step HZ2.out hb3); clear hb3))
  go_wp2_with fail
  refine wp_region_held_drew (S := fun w' => w'.cell? ⟨w.heap.size, 0, none⟩ = some (iv a0) ∧ w'.cell? ⟨w.heap.size, 1, none⟩ = some (iv a1) ∧ w'.cell? ⟨w.heap.size, 2, none⟩ = some (iv a2) ∧ w'.cell? ⟨w.heap.size, 3, none⟩ = some (iv a3)) (by kernel_rfl) (HSc.out _ HZ3.out.drew) (fun hSx => ?_)
  refine wpAnyH_take (i := 0) (v := .bool true) rfl (by kernel_rfl) (by kernel_rfl) (by kernel_rfl) (fun _ _ _ h => h) (Or.inl ⟨by rfl, fun wq hSw => by go_simp⟩) hSx ?_
  try simp [Act.put]
  refine wpAnyH_take (i := 1) (v := .bool false) rfl (by kernel_rfl) (by kernel_rfl) (by kernel_rfl) (fun _ _ _ h => h) (Or.inl ⟨by rfl, fun wq hSw => by go_simp⟩) hSx ?_
  try simp [Act.put]
  refine wpAnyH_take (i := 2) (v := .bool false) rfl (by kernel_rfl) (by kernel_rfl) (by kernel_rfl) (fun _ _ _ h => h) (Or.inl ⟨by rfl, fun wq hSw => by go_simp⟩) hSx ?_
  try simp [Act.put]
  refine wpAnyH_take (i := 3) (v := v) rfl (by kernel_rfl) (by kernel_rfl) (by kernel_rfl) (fun _ _ _ h => h) (Or.inl ⟨by rfl, fun wq hSw => by go_simp⟩) hSx ?_
  try simp [Act.put]
  refine wpAnyH_take (i := 4) (v := .pointer (some ⟨w.heap.size, 1, none⟩)) rfl (by kernel_rfl) (by kernel_rfl) (by kernel_rfl) (fun _ _ _ h => h) (Or.inl ⟨by rfl, fun wq hSw => by go_simp⟩) hSx ?_
  try simp [Act.put]
  refine wpAnyH_take (i := 5) (v := iv a1) rfl (by kernel_rfl) (by kernel_rfl) (by kernel_rfl) (fun _ _ _ h => h) (Or.inl ⟨by rfl, fun wq hSw => by go_simp⟩) hSx ?_
  try simp [Act.put]
  clear hSx
  refine wpAnyH_ready (rs := [6]) (by kernel_rfl) (by simp) ?_
  refine AllReadyH.cons rfl (fun K hK => ?_) AllReadyH.nil
  go_simp
  go_wp2_with ((go_at_call 79; refine (ret_cast (y := iv (k : Int)) (by rw [HF2.out]) (implFindKey_any a1 _ ((HV.out.below HZ3.out.drew HBB.out).mono (Nat.le_trans HBB.out (HZ3.out.drew).size)) (Nat.le_refl _))).mono ?_; rintro e w4 ⟨rfl, hb4⟩; have HZ4 := hid (below_step HZ3.out.drew hb4); clear hb4))
  refine hK _ _ (by simpa using HSc.out _ HZ4.out) (fun hSx => ?_)
  clear hK K
  try simp [Act.put]
  refine wpAnyH_take (i := 7) (v := .bool false) rfl (by kernel_rfl) (by kernel_rfl) (by kernel_rfl) (fun _ _ _ h => h) (Or.inl ⟨by rfl, fun wq hSw => by go_simp⟩) hSx ?_
  try simp [Act.put]
  refine wpAnyH_take (i := 8) (v := .bool false) rfl (by kernel_rfl) (by kernel_rfl) (by kernel_rfl) (fun _ _ _ h => h) (Or.inl ⟨by rfl, fun wq hSw => by go_simp⟩) hSx ?_
  try simp [Act.put]
  refine wpAnyH_take (i := 9) (v := .bool false) rfl (by kernel_rfl) (by kernel_rfl) (by kernel_rfl) (fun _ _ _ h => h) (Or.inl ⟨by rfl, fun wq hSw => by go_simp⟩) hSx ?_
  try simp [Act.put]
  refine wpAnyH_take (i := 10) (v := .pointer (some ⟨w.heap.size, 0, none⟩)) rfl (by kernel_rfl) (by kernel_rfl) (by kernel_rfl) (fun _ _ _ h => h) (Or.inl ⟨by rfl, fun wq hSw => by go_simp⟩) hSx ?_
  try simp [Act.put]
  refine wpAnyH_take (i := 11) (v := iv a0) rfl (by kernel_rfl) (by kernel_rfl) (by kernel_rfl) (fun _ _ _ h => h) (Or.inl ⟨by rfl, fun wq hSw => by go_simp⟩) hSx ?_
  try simp [Act.put]
  refine wpAnyH_take (i := 12) (v := .pointer (some ⟨w.heap.size, 1, none⟩)) rfl (by kernel_rfl) (by kernel_rfl) (by kernel_rfl) (fun _ _ _ h => h) (Or.inl ⟨by rfl, fun wq hSw => by go_simp⟩) hSx ?_
  try simp [Act.put]
  refine wpAnyH_take (i := 13) (v := iv a1) rfl (by kernel_rfl) (by kernel_rfl) (by kernel_rfl) (fun _ _ _ h => h) (Or.inl ⟨by rfl, fun wq hSw => by go_simp⟩) hSx ?_
  try simp [Act.put]
  refine wpAnyH_take (i := 14) (v := .bool false) rfl (by kernel_rfl) (by kernel_rfl) (by kernel_rfl) (fun _ _ _ h => h) (Or.inl ⟨by rfl, fun wq hSw => by go_simp⟩) hSx ?_
  try simp [Act.put]
  refine wpAnyH_take (i := 15) (v := .bool false) rfl (by kernel_rfl) (by kernel_rfl) (by kernel_rfl) (fun _ _ _ h => h) (Or.inl ⟨by rfl, fun wq hSw => by go_simp⟩) hSx ?_
  try simp [Act.put]
  refine wpAnyH_take (i := 16) (v := .bool false) rfl (by kernel_rfl) (by kernel_rfl) (by kernel_rfl) (fun _ _ _ h => h) (Or.inl ⟨by rfl, fun wq hSw => by go_simp⟩) hSx ?_
  try simp [Act.put]
  refine wpAnyH_take (i := 17) (v := v) rfl (by kernel_rfl) (by kernel_rfl) (by kernel_rfl) (fun _ _ _ h => h) (Or.inl ⟨by rfl, fun wq hSw => by go_simp⟩) hSx ?_
  try simp [Act.put]
  refine wpAnyH_take (i := 18) (v := .pointer (some ⟨w.heap.size, 0, none⟩)) rfl (by kernel_rfl) (by kernel_rfl) (by kernel_rfl) (fun _ _ _ h => h) (Or.inl ⟨by rfl, fun wq hSw => by go_simp⟩) hSx ?_
  try simp [Act.put]
  refine wpAnyH_take (i := 19) (v := iv a0) rfl (by kernel_rfl) (by kernel_rfl) (by kernel_rfl) (fun _ _ _ h => h) (Or.inl ⟨by rfl, fun wq hSw => by go_simp⟩) hSx ?_
  try simp [Act.put]
  refine wpAnyH_take (i := 21) (v := v) rfl (by kernel_rfl) (by kernel_rfl) (by kernel_rfl) (fun _ _ _ h => h) (Or.inl ⟨by rfl, fun wq hSw => by go_simp⟩) hSx ?_
  try simp [Act.put]
  refine wpAnyH_take (i := 22) (v := .pointer (some ⟨w.heap.size, 1, none⟩)) rfl (by kernel_rfl) (by kernel_rfl) (by kernel_rfl) (fun _ _ _ h => h) (Or.inl ⟨by rfl, fun wq hSw => by go_simp⟩) hSx ?_
  try simp [Act.put]
  refine wpAnyH_take (i := 23) (v := iv a1) rfl (by kernel_rfl) (by kernel_rfl) (by kernel_rfl) (fun _ _ _ h => h) (Or.inl ⟨by rfl, fun wq hSw => by go_simp⟩) hSx ?_
  try simp [Act.put]
  clear hSx
  refine wpAnyH_ready (rs := [20]) (by kernel_rfl) (by simp) ?_
  refine AllReadyH.cons rfl (fun K hK => ?_) AllReadyH.nil
  go_simp
  go_wp2_with ((go_at_call 74; refine (ret_cast (y := iv (fld ks i 1)) (by rw [ownerOf_some HF.out]) (implOwnerOf_any a0 _ ((HV.out.below HZ4.out HBB.out).mono (Nat.le_trans HBB.out (HZ4.out).size)) (Nat.le_refl _))).mono ?_; rintro e w5 ⟨rfl, hb5⟩; have HZ5 := hid (below_step HZ4.out hb5); clear hb5))
  refine hK _ _ (by simpa using HSc.out _ HZ5.out) (fun hSx => ?_)
  clear hK K
  try simp [Act.put]
  clear hSx
  refine wpAnyH_ready (rs := [24]) (by kernel_rfl) (by simp) ?_
  refine AllReadyH.cons rfl (fun K hK => ?_) AllReadyH.nil
  go_simp
  go_wp2_with ((go_at_call 74; refine (ret_cast (y := iv (fld ks k 1)) (by rw [ownerOf_some HF2.out]) (implOwnerOf_any a1 _ ((HV.out.below HZ5.out HBB.out).mono (Nat.le_trans HBB.out (HZ5.out).size)) (Nat.le_refl _))).mono ?_; rintro e w6 ⟨rfl, hb6⟩; have HZ6 := hid (below_step HZ5.out hb6); clear hb6))
  refine hK _ _ (by simpa using HSc.out _ HZ6.out) (fun hSx => ?_)
  clear hK K
  try simp [Act.put]
  refine wpAnyH_take (i := 25) (v := .bool true) rfl (by kernel_rfl) (by kernel_rfl) (by kernel_rfl) (fun _ _ _ h => h) (Or.inl ⟨by rfl, fun wq hSw => by go_simp⟩) hSx ?_
  try simp [Act.put]
  refine wpAnyH_take (i := 26) (v := .bool true) rfl (by kernel_rfl) (by kernel_rfl) (by kernel_rfl) (fun _ _ _ h => h) (Or.inl ⟨by rfl, fun wq hSw => by go_simp⟩) hSx ?_
  try simp [Act.put]
  refine wpAnyH_take (i := 27) (v := .bool true) rfl (by kernel_rfl) (by kernel_rfl) (by kernel_rfl) (fun _ _ _ h => h) (Or.inl ⟨by rfl, fun wq hSw => by go_simp⟩) hSx ?_
  try simp [Act.put]
  refine wpAnyH_take (i := 28) (v := undef) rfl (by kernel_rfl) (by kernel_rfl) (by kernel_rfl) (fun _ _ _ h => h) (Or.inr ⟨by rfl, rfl⟩) hSx ?_
  try simp [Act.put]
  refine wpAnyH_take (i := 29) (v := undef) rfl (by kernel_rfl) (by kernel_rfl) (by kernel_rfl) (fun _ _ _ h => h) (Or.inr ⟨by rfl, rfl⟩) hSx ?_
  try simp [Act.put]
  refine wpAnyH_take (i := 30) (v := undef) rfl (by kernel_rfl) (by kernel_rfl) (by kernel_rfl) (fun _ _ _ h => h) (Or.inr ⟨by rfl, rfl⟩) hSx ?_
  try simp [Act.put]
  refine wpAnyH_take (i := 31) (v := undef) rfl (by kernel_rfl) (by kernel_rfl) (by kernel_rfl) (fun _ _ _ h => h) (Or.inr ⟨by rfl, rfl⟩) hSx ?_
  try simp [Act.put]
  refine wpAnyH_take (i := 32) (v := .bool true) rfl (by kernel_rfl) (by kernel_rfl) (by kernel_rfl) (fun _ _ _ h => h) (Or.inl ⟨by rfl, fun wq hSw => by go_simp⟩) hSx ?_
  try simp [Act.put]
  refine wpAnyH_done (by kernel_rfl) ?_ _
  obtain ⟨c0, c1, c2, c3, -⟩ := HS.out _ HZ6.out
  have fz : w6.frozen? ⟨w.heap.size, 3, none⟩ = false := (HZ6.out.frozen (p := ⟨w.heap.size, 3, none⟩) (by simp; omega)).trans (by simp [go_sem])
  have d0 : w6.cell? ⟨w.heap.size + 1, 0, none⟩ = some (iv 0) := (HZ6.out.cell (p := ⟨w.heap.size + 1, 0, none⟩) (by simp)).trans (by simp [go_sem])
  have fd0 : w6.frozen? ⟨w.heap.size + 1, 0, none⟩ = false := (HZ6.out.frozen (p := ⟨w.heap.size + 1, 0, none⟩) (by simp)).trans (by simp [go_sem])
  have d1 : w6.cell? ⟨w.heap.size + 1, 1, none⟩ = some (iv 0) := (HZ6.out.cell (p := ⟨w.heap.size + 1, 1, none⟩) (by simp)).trans (by simp [go_sem])
  have fd1 : w6.frozen? ⟨w.heap.size + 1, 1, none⟩ = false := (HZ6.out.frozen (p := ⟨w.heap.size + 1, 1, none⟩) (by simp)).trans (by simp [go_sem])
  have d2 : w6.cell? ⟨w.heap.size + 1, 2, none⟩ = some (iv 0) := (HZ6.out.cell (p := ⟨w.heap.size + 1, 2, none⟩) (by simp)).trans (by simp [go_sem])
  have fd2 : w6.frozen? ⟨w.heap.size + 1, 2, none⟩ = false := (HZ6.out.frozen (p := ⟨w.heap.size + 1, 2, none⟩) (by simp)).trans (by simp [go_sem])
  have d3 : w6.cell? ⟨w.heap.size + 1, 3, none⟩ = some (iv 0) := (HZ6.out.cell (p := ⟨w.heap.size + 1, 3, none⟩) (by simp)).trans (by simp [go_sem])
  have fd3 : w6.frozen? ⟨w.heap.size + 1, 3, none⟩ = false := (HZ6.out.frozen (p := ⟨w.heap.size + 1, 3, none⟩) (by simp)).trans (by simp [go_sem])
  go_wp2
  refine bodyPost_ret (v := .tuple #[.agg #[iv 0, iv 0, iv 0, iv 0], .bool false]) (by simp [results, Try.results35, go_sem, d0, d1, d2, d3]) rfl ⟨rfl, ?_⟩
  have HBX := hid (below_step H0.out HZ6.out)
  clear HX HZ6
  repeat (refine Below.setCell ?_ (by simp) _)
  exact HBX.out

set_option maxRecDepth 8000 in
set_option maxHeartbeats 4000000 in
theorem implMakeSuccession_any_E {B : Nat} {ks : List (List Int)} {v : Value} (a0 a1 a2 a3 : Int) (w : World) (h : Sl B w 5 v ks) (hB : B ≤ w.heap.size) (i : Nat) (hi : i < ks.length) (hf : findI 0 a0 ks = (i : Int)) (k : Nat) (_hk : k < ks.length) (hf2 : findI 0 a1 ks = (k : Int)) (hne : (a0 == a1) = false) (how : (fld ks i 1 == fld ks k 1) = true) (ht : timeB a2 = false) :
    Calls Try.prog 35 #[v, .agg #[iv a0, iv a1, iv a2, iv a3]] w (Ret (.tuple #[.agg #[iv 0, iv 0, iv 0, iv 0], .bool false]) w) := by
  have HX : Below ((w.alloc (.cells #[iv a0, iv a1, iv a2, iv a3] 47)).alloc (.cells #[iv 0, iv 0, iv 0, iv 0] 47)).heap.size ((w.alloc (.cells #[iv a0, iv a1, iv a2, iv a3] 47)).alloc (.cells #[iv 0, iv 0, iv 0, iv 0] 47)) ((w.alloc (.cells #[iv a0, iv a1, iv a2, iv a3] 47)).alloc (.cells #[iv 0, iv 0, iv 0, iv 0] 47)) := Below.refl _ _
  have h0 : Below w.heap.size w ((w.alloc (.cells #[iv a0, iv a1, iv a2, iv a3] 47)).alloc (.cells #[iv 0, iv 0, iv 0, iv 0] 47)) := (below_alloc _ _).alloc (by simp) _
  have hB1 : B ≤ ((w.alloc (.cells #[iv a0, iv a1, iv a2, iv a3] 47)).alloc (.cells #[iv 0, iv 0, iv 0, iv 0] 47)).heap.size := by simp; omega
  have h1 : Sl B ((w.alloc (.cells #[iv a0, iv a1, iv a2, iv a3] 47)).alloc (.cells #[iv 0, iv 0, iv 0, iv 0] 47)) 5 v ks := h.below h0 hB
  have HS : Hid (∀ w' : World, Below ((w.alloc (.cells #[iv a0, iv a1, iv a2, iv a3] 47)).alloc (.cells #[iv 0, iv 0, iv 0, iv 0] 47)).heap.size ((w.alloc (.cells #[iv a0, iv a1, iv a2, iv a3] 47)).alloc (.cells #[iv 0, iv 0, iv 0, iv 0] 47)) w' → (w'.cell? ⟨w.heap.size, 0, none⟩ = some (iv a0) ∧ w'.cell? ⟨w.heap.size, 1, none⟩ = some (iv a1) ∧ w'.cell? ⟨w.heap.size, 2, none⟩ = some (iv a2) ∧ w'.cell? ⟨w.heap.size, 3, none⟩ = some (iv a3) ∧ Below ((w.alloc (.cells #[iv a0, iv a1, iv a2, iv a3] 47)).alloc (.cells #[iv 0, iv 0, iv 0, iv 0] 47)).heap.size ((w.alloc (.cells #[iv a0, iv a1, iv a2, iv a3] 47)).alloc (.cells #[iv 0, iv 0, iv 0, iv 0] 47)) w')) := hid fun w' hx => ⟨(hx.cell (p := ⟨w.heap.size, 0, none⟩) (by simp; omega)).trans (by simp [go_sem]), (hx.cell (p := ⟨w.heap.size, 1, none⟩) (by simp; omega)).trans (by simp [go_sem]), (hx.cell (p := ⟨w.heap.size, 2, none⟩) (by simp; omega)).trans (by simp [go_sem]), (hx.cell (p := ⟨w.heap.size, 3, none⟩) (by simp; omega)).trans (by simp [go_sem]), hx⟩
  have HV := hid h1
  have HBB := hid hB1
  have H0 := hid h0
  clear h h1 hB1 h0
  have HSc : Hid (∀ w' : World, Below ((w.alloc (.cells #[iv a0, iv a1, iv a2, iv a3] 47)).alloc (.cells #[iv 0, iv 0, iv 0, iv 0] 47)).heap.size ((w.alloc (.cells #[iv a0, iv a1, iv a2, iv a3] 47)).alloc (.cells #[iv 0, iv 0, iv 0, iv 0] 47)) w' → (w'.cell? ⟨w.heap.size, 0, none⟩ = some (iv a0) ∧ w'.cell? ⟨w.heap.size, 1, none⟩ = some (iv a1) ∧ w'.cell? ⟨w.heap.size, 2, none⟩ = some (iv a2) ∧ w'.cell? ⟨w.heap.size, 3, none⟩ = some (iv a3))) := hid fun w' hx => ⟨(hx.cell (p := ⟨w.heap.size, 0, none⟩) (by simp; omega)).trans (by simp [go_sem]), (hx.cell (p := ⟨w.heap.size, 1, none⟩) (by simp; omega)).trans (by simp [go_sem]), (hx.cell (p := ⟨w.heap.size, 2, none⟩) (by simp; omega)).trans (by simp [go_sem]), (hx.cell (p := ⟨w.heap.size, 3, none⟩) (by simp; omega)).trans (by simp [go_sem])⟩
  have HF := hid hf
  have HF2 := hid hf2
  clear hf hf2
  have HT := hid ht
  clear ht
  have how' : (fld ks i 1 != fld ks k 1) = false := by simp [bne, how]
  have hk2 : decide ((k : Int) < 0) = false := by simp
  go_enter Try.func35, Try.ntmps35
  go_wp2_with fail
  go_region_held3 (fun w' => w'.cell? ⟨w.heap.size, 0, none⟩ = some (iv a0) ∧ w'.cell? ⟨w.heap.size, 1, none⟩ = some (iv a1) ∧ w'.cell? ⟨w.heap.size, 2, none⟩ = some (iv a2) ∧ w'.cell? ⟨w.heap.size, 3, none⟩ = some (iv a3) ∧ Below ((w.alloc (.cells #[iv a0, iv a1, iv a2, iv a3] 47)).alloc (.cells #[iv 0, iv 0, iv 0, iv 0] 47)).heap.size ((w.alloc (.cells #[iv a0, iv a1, iv a2, iv a3] 47)).alloc (.cells #[iv 0, iv 0, iv 0, iv 0] 47)) w') (first | with_reducible exact HS.out _ HX.drew | with_reducible exact HS.out _ HZ2.out | with_reducible exact HS.out _ HZ3.out | go_keep)
    (first | (go_at_call 78; refine (implSuccessionInts_any _ _ _ _ _).mono ?_; rintro e w2 ⟨v2, rfl, ho2, hb2⟩; have HZ2 := hid (below_step HX.drew hb2); have HO2 := hid ho2; clear hb2 ho2) | (go_at_call 60; refine (implmarkBy_yes _ _ ((HV.out.below HZ2.out HBB.out).mono (Nat.le_trans HBB.out HZ2.out.size)) (Own.si (zs := [106, a0, a1, a2]) HO2.out) (Nat.le_refl _) (by simp) i hi HF.out).mono ?_; rintro e w3 ⟨rfl, hb3⟩; have HZ3 := hid (below_step HZ2.out hb3); clear hb3))
  go_wp2_with fail
  refine wp_region_held_drew (S := fun w' => w'.cell? ⟨w.heap.size, 0, none⟩ = some (iv a0) ∧ w'.cell? ⟨w.heap.size, 1, none⟩ = some (iv a1) ∧ w'.cell? ⟨w.heap.size, 2, none⟩ = some (iv a2) ∧ w'.cell? ⟨w.heap.size, 3, none⟩ = some (iv a3)) (by kernel_rfl) (HSc.out _ HZ3.out.drew) (fun hSx => ?_)
  refine wpAnyH_take (i := 0) (v := .bool true) rfl (by kernel_rfl) (by kernel_rfl) (by kernel_rfl) (fun _ _ _ h => h) (Or.inl ⟨by rfl, fun wq hSw => by go_simp⟩) hSx ?_
  try simp [Act.put]
  refine wpAnyH_take (i := 1) (v := .bool false) rfl (by kernel_rfl) (by kernel_rfl) (by kernel_rfl) (fun _ _ _ h => h) (Or.inl ⟨by rfl, fun wq hSw => by go_simp⟩) hSx ?_
  try simp [Act.put]
  refine wpAnyH_take (i := 2) (v := .bool false) rfl (by kernel_rfl) (by kernel_rfl) (by kernel_rfl) (fun _ _ _ h => h) (Or.inl ⟨by rfl, fun wq hSw => by go_simp⟩) hSx ?_
  try simp [Act.put]
  refine wpAnyH_take (i := 3) (v := v) rfl (by kernel_rfl) (by kernel_rfl) (by kernel_rfl) (fun _ _ _ h => h) (Or.inl ⟨by rfl, fun wq hSw => by go_simp⟩) hSx ?_
  try simp [Act.put]
  refine wpAnyH_take (i := 4) (v := .pointer (some ⟨w.heap.size, 1, none⟩)) rfl (by kernel_rfl) (by kernel_rfl) (by kernel_rfl) (fun _ _ _ h => h) (Or.inl ⟨by rfl, fun wq hSw => by go_simp⟩) hSx ?_
  try simp [Act.put]
  refine wpAnyH_take (i := 5) (v := iv a1) rfl (by kernel_rfl) (by kernel_rfl) (by kernel_rfl) (fun _ _ _ h => h) (Or.inl ⟨by rfl, fun wq hSw => by go_simp⟩) hSx ?_
  try simp [Act.put]
  clear hSx
  refine wpAnyH_ready (rs := [6]) (by kernel_rfl) (by simp) ?_
  refine AllReadyH.cons rfl (fun K hK => ?_) AllReadyH.nil
  go_simp
  go_wp2_with ((go_at_call 79; refine (ret_cast (y := iv (k : Int)) (by rw [HF2.out]) (implFindKey_any a1 _ ((HV.out.below HZ3.out.drew HBB.out).mono (Nat.le_trans HBB.out (HZ3.out.drew).size)) (Nat.le_refl _))).mono ?_; rintro e w4 ⟨rfl, hb4⟩; have HZ4 := hid (below_step HZ3.out.drew hb4); clear hb4))
  refine hK _ _ (by simpa using HSc.out _ HZ4.out) (fun hSx => ?_)
  clear hK K
  try simp [Act.put]
  refine wpAnyH_take (i := 7) (v := .bool false) rfl (by kernel_rfl) (by kernel_rfl) (by kernel_rfl) (fun _ _ _ h => h) (Or.inl ⟨by rfl, fun wq hSw => by go_simp⟩) hSx ?_
  try simp [Act.put]
  refine wpAnyH_take (i := 8) (v := .bool false) rfl (by kernel_rfl) (by kernel_rfl) (by kernel_rfl) (fun _ _ _ h => h) (Or.inl ⟨by rfl, fun wq hSw => by go_simp⟩) hSx ?_
  try simp [Act.put]
  refine wpAnyH_take (i := 9) (v := .bool false) rfl (by kernel_rfl) (by kernel_rfl) (by kernel_rfl) (fun _ _ _ h => h) (Or.inl ⟨by rfl, fun wq hSw => by go_simp⟩) hSx ?_
  try simp [Act.put]
  refine wpAnyH_take (i := 10) (v := .pointer (some ⟨w.heap.size, 0, none⟩)) rfl (by kernel_rfl) (by kernel_rfl) (by kernel_rfl) (fun _ _ _ h => h) (Or.inl ⟨by rfl, fun wq hSw => by go_simp⟩) hSx ?_
  try simp [Act.put]
  refine wpAnyH_take (i := 11) (v := iv a0) rfl (by kernel_rfl) (by kernel_rfl) (by kernel_rfl) (fun _ _ _ h => h) (Or.inl ⟨by rfl, fun wq hSw => by go_simp⟩) hSx ?_
  try simp [Act.put]
  refine wpAnyH_take (i := 12) (v := .pointer (some ⟨w.heap.size, 1, none⟩)) rfl (by kernel_rfl) (by kernel_rfl) (by kernel_rfl) (fun _ _ _ h => h) (Or.inl ⟨by rfl, fun wq hSw => by go_simp⟩) hSx ?_
  try simp [Act.put]
  refine wpAnyH_take (i := 13) (v := iv a1) rfl (by kernel_rfl) (by kernel_rfl) (by kernel_rfl) (fun _ _ _ h => h) (Or.inl ⟨by rfl, fun wq hSw => by go_simp⟩) hSx ?_
  try simp [Act.put]
  refine wpAnyH_take (i := 14) (v := .bool false) rfl (by kernel_rfl) (by kernel_rfl) (by kernel_rfl) (fun _ _ _ h => h) (Or.inl ⟨by rfl, fun wq hSw => by go_simp⟩) hSx ?_
  try simp [Act.put]
  refine wpAnyH_take (i := 15) (v := .bool false) rfl (by kernel_rfl) (by kernel_rfl) (by kernel_rfl) (fun _ _ _ h => h) (Or.inl ⟨by rfl, fun wq hSw => by go_simp⟩) hSx ?_
  try simp [Act.put]
  refine wpAnyH_take (i := 16) (v := .bool false) rfl (by kernel_rfl) (by kernel_rfl) (by kernel_rfl) (fun _ _ _ h => h) (Or.inl ⟨by rfl, fun wq hSw => by go_simp⟩) hSx ?_
  try simp [Act.put]
  refine wpAnyH_take (i := 17) (v := v) rfl (by kernel_rfl) (by kernel_rfl) (by kernel_rfl) (fun _ _ _ h => h) (Or.inl ⟨by rfl, fun wq hSw => by go_simp⟩) hSx ?_
  try simp [Act.put]
  refine wpAnyH_take (i := 18) (v := .pointer (some ⟨w.heap.size, 0, none⟩)) rfl (by kernel_rfl) (by kernel_rfl) (by kernel_rfl) (fun _ _ _ h => h) (Or.inl ⟨by rfl, fun wq hSw => by go_simp⟩) hSx ?_
  try simp [Act.put]
  refine wpAnyH_take (i := 19) (v := iv a0) rfl (by kernel_rfl) (by kernel_rfl) (by kernel_rfl) (fun _ _ _ h => h) (Or.inl ⟨by rfl, fun wq hSw => by go_simp⟩) hSx ?_
  try simp [Act.put]
  refine wpAnyH_take (i := 21) (v := v) rfl (by kernel_rfl) (by kernel_rfl) (by kernel_rfl) (fun _ _ _ h => h) (Or.inl ⟨by rfl, fun wq hSw => by go_simp⟩) hSx ?_
  try simp [Act.put]
  refine wpAnyH_take (i := 22) (v := .pointer (some ⟨w.heap.size, 1, none⟩)) rfl (by kernel_rfl) (by kernel_rfl) (by kernel_rfl) (fun _ _ _ h => h) (Or.inl ⟨by rfl, fun wq hSw => by go_simp⟩) hSx ?_
  try simp [Act.put]
  refine wpAnyH_take (i := 23) (v := iv a1) rfl (by kernel_rfl) (by kernel_rfl) (by kernel_rfl) (fun _ _ _ h => h) (Or.inl ⟨by rfl, fun wq hSw => by go_simp⟩) hSx ?_
  try simp [Act.put]
  clear hSx
  refine wpAnyH_ready (rs := [20]) (by kernel_rfl) (by simp) ?_
  refine AllReadyH.cons rfl (fun K hK => ?_) AllReadyH.nil
  go_simp
  go_wp2_with ((go_at_call 74; refine (ret_cast (y := iv (fld ks i 1)) (by rw [ownerOf_some HF.out]) (implOwnerOf_any a0 _ ((HV.out.below HZ4.out HBB.out).mono (Nat.le_trans HBB.out (HZ4.out).size)) (Nat.le_refl _))).mono ?_; rintro e w5 ⟨rfl, hb5⟩; have HZ5 := hid (below_step HZ4.out hb5); clear hb5))
  refine hK _ _ (by simpa using HSc.out _ HZ5.out) (fun hSx => ?_)
  clear hK K
  try simp [Act.put]
  clear hSx
  refine wpAnyH_ready (rs := [24]) (by kernel_rfl) (by simp) ?_
  refine AllReadyH.cons rfl (fun K hK => ?_) AllReadyH.nil
  go_simp
  go_wp2_with ((go_at_call 74; refine (ret_cast (y := iv (fld ks k 1)) (by rw [ownerOf_some HF2.out]) (implOwnerOf_any a1 _ ((HV.out.below HZ5.out HBB.out).mono (Nat.le_trans HBB.out (HZ5.out).size)) (Nat.le_refl _))).mono ?_; rintro e w6 ⟨rfl, hb6⟩; have HZ6 := hid (below_step HZ5.out hb6); clear hb6))
  refine hK _ _ (by simpa using HSc.out _ HZ6.out) (fun hSx => ?_)
  clear hK K
  try simp [Act.put]
  refine wpAnyH_take (i := 25) (v := .bool false) rfl (by kernel_rfl) (by kernel_rfl) (by kernel_rfl) (fun _ _ _ h => h) (Or.inl ⟨by rfl, fun wq hSw => by go_simp⟩) hSx ?_
  try simp [Act.put]
  refine wpAnyH_take (i := 26) (v := .bool false) rfl (by kernel_rfl) (by kernel_rfl) (by kernel_rfl) (fun _ _ _ h => h) (Or.inl ⟨by rfl, fun wq hSw => by go_simp⟩) hSx ?_
  try simp [Act.put]
  refine wpAnyH_take (i := 27) (v := .bool false) rfl (by kernel_rfl) (by kernel_rfl) (by kernel_rfl) (fun _ _ _ h => h) (Or.inl ⟨by rfl, fun wq hSw => by go_simp⟩) hSx ?_
  try simp [Act.put]
  refine wpAnyH_take (i := 28) (v := .pointer (some ⟨w.heap.size, 2, none⟩)) rfl (by kernel_rfl) (by kernel_rfl) (by kernel_rfl) (fun _ _ _ h => h) (Or.inl ⟨by rfl, fun wq hSw => by go_simp⟩) hSx ?_
  try simp [Act.put]
  refine wpAnyH_take (i := 29) (v := iv a2) rfl (by kernel_rfl) (by kernel_rfl) (by kernel_rfl) (fun _ _ _ h => h) (Or.inl ⟨by rfl, fun wq hSw => by go_simp⟩) hSx ?_
  try simp [Act.put]
  clear hSx
  refine wpAnyH_ready (rs := [30]) (by kernel_rfl) (by simp) ?_
  refine AllReadyH.cons rfl (fun K hK => ?_) AllReadyH.nil
  go_simp
  go_wp2_with ((go_at_call 80; refine (implisTime_ret HT.out _).mono ?_; rintro e w7 ⟨rfl, hb7⟩; have HZ7 := hid (below_step HZ6.out hb7); clear hb7))
  refine hK _ _ (by simpa using HSc.out _ HZ7.out) (fun hSx => ?_)
  clear hK K
  try simp [Act.put]
  refine wpAnyH_take (i := 31) (v := .bool true) rfl (by kernel_rfl) (by kernel_rfl) (by kernel_rfl) (fun _ _ _ h => h) (Or.inl ⟨by rfl, fun wq hSw => by go_simp⟩) hSx ?_
  try simp [Act.put]
  refine wpAnyH_take (i := 32) (v := .bool true) rfl (by kernel_rfl) (by kernel_rfl) (by kernel_rfl) (fun _ _ _ h => h) (Or.inl ⟨by rfl, fun wq hSw => by go_simp⟩) hSx ?_
  try simp [Act.put]
  refine wpAnyH_done (by kernel_rfl) ?_ _
  obtain ⟨c0, c1, c2, c3, -⟩ := HS.out _ HZ7.out
  have fz : w7.frozen? ⟨w.heap.size, 3, none⟩ = false := (HZ7.out.frozen (p := ⟨w.heap.size, 3, none⟩) (by simp; omega)).trans (by simp [go_sem])
  have d0 : w7.cell? ⟨w.heap.size + 1, 0, none⟩ = some (iv 0) := (HZ7.out.cell (p := ⟨w.heap.size + 1, 0, none⟩) (by simp)).trans (by simp [go_sem])
  have fd0 : w7.frozen? ⟨w.heap.size + 1, 0, none⟩ = false := (HZ7.out.frozen (p := ⟨w.heap.size + 1, 0, none⟩) (by simp)).trans (by simp [go_sem])
  have d1 : w7.cell? ⟨w.heap.size + 1, 1, none⟩ = some (iv 0) := (HZ7.out.cell (p := ⟨w.heap.size + 1, 1, none⟩) (by simp)).trans (by simp [go_sem])
  have fd1 : w7.frozen? ⟨w.heap.size + 1, 1, none⟩ = false := (HZ7.out.frozen (p := ⟨w.heap.size + 1, 1, none⟩) (by simp)).trans (by simp [go_sem])
  have d2 : w7.cell? ⟨w.heap.size + 1, 2, none⟩ = some (iv 0) := (HZ7.out.cell (p := ⟨w.heap.size + 1, 2, none⟩) (by simp)).trans (by simp [go_sem])
  have fd2 : w7.frozen? ⟨w.heap.size + 1, 2, none⟩ = false := (HZ7.out.frozen (p := ⟨w.heap.size + 1, 2, none⟩) (by simp)).trans (by simp [go_sem])
  have d3 : w7.cell? ⟨w.heap.size + 1, 3, none⟩ = some (iv 0) := (HZ7.out.cell (p := ⟨w.heap.size + 1, 3, none⟩) (by simp)).trans (by simp [go_sem])
  have fd3 : w7.frozen? ⟨w.heap.size + 1, 3, none⟩ = false := (HZ7.out.frozen (p := ⟨w.heap.size + 1, 3, none⟩) (by simp)).trans (by simp [go_sem])
  go_wp2
  refine bodyPost_ret (v := .tuple #[.agg #[iv 0, iv 0, iv 0, iv 0], .bool false]) (by simp [results, Try.results35, go_sem, d0, d1, d2, d3]) rfl ⟨rfl, ?_⟩
  have HBX := hid (below_step H0.out HZ7.out)
  clear HX HZ7
  repeat (refine Below.setCell ?_ (by simp) _)
  exact HBX.out

set_option maxRecDepth 8000 in
set_option maxHeartbeats 4000000 in
theorem implMakeSuccession_any_yes {B : Nat} {ks : List (List Int)} {v : Value} (a0 a1 a2 a3 : Int) (w : World) (h : Sl B w 5 v ks) (hB : B ≤ w.heap.size) (i : Nat) (hi : i < ks.length) (hf : findI 0 a0 ks = (i : Int)) (k : Nat) (_hk : k < ks.length) (hf2 : findI 0 a1 ks = (k : Int)) (hne : (a0 == a1) = false) (how : (fld ks i 1 == fld ks k 1) = true) (ht : timeB a2 = true) :
    Calls Try.prog 35 #[v, .agg #[iv a0, iv a1, iv a2, iv a3]] w (Ret (.tuple #[.agg #[iv a0, iv a1, iv a2, iv (markW (fld ks i 2) (fld ks i 4) [106, a0, a1, a2])], .bool true]) w) := by
  obtain ⟨m, hm⟩ : ∃ m : Int, m = (markW (fld ks i 2) (fld ks i 4) [106, a0, a1, a2]) := ⟨_, rfl⟩
  rw [← hm]
  have HM := hid hm
  clear hm
  have HX : Below ((w.alloc (.cells #[iv a0, iv a1, iv a2, iv a3] 47)).alloc (.cells #[iv 0, iv 0, iv 0, iv 0] 47)).heap.size ((w.alloc (.cells #[iv a0, iv a1, iv a2, iv a3] 47)).alloc (.cells #[iv 0, iv 0, iv 0, iv 0] 47)) ((w.alloc (.cells #[iv a0, iv a1, iv a2, iv a3] 47)).alloc (.cells #[iv 0, iv 0, iv 0, iv 0] 47)) := Below.refl _ _
  have h0 : Below w.heap.size w ((w.alloc (.cells #[iv a0, iv a1, iv a2, iv a3] 47)).alloc (.cells #[iv 0, iv 0, iv 0, iv 0] 47)) := (below_alloc _ _).alloc (by simp) _
  have hB1 : B ≤ ((w.alloc (.cells #[iv a0, iv a1, iv a2, iv a3] 47)).alloc (.cells #[iv 0, iv 0, iv 0, iv 0] 47)).heap.size := by simp; omega
  have h1 : Sl B ((w.alloc (.cells #[iv a0, iv a1, iv a2, iv a3] 47)).alloc (.cells #[iv 0, iv 0, iv 0, iv 0] 47)) 5 v ks := h.below h0 hB
  have HS : Hid (∀ w' : World, Below ((w.alloc (.cells #[iv a0, iv a1, iv a2, iv a3] 47)).alloc (.cells #[iv 0, iv 0, iv 0, iv 0] 47)).heap.size ((w.alloc (.cells #[iv a0, iv a1, iv a2, iv a3] 47)).alloc (.cells #[iv 0, iv 0, iv 0, iv 0] 47)) w' → (w'.cell? ⟨w.heap.size, 0, none⟩ = some (iv a0) ∧ w'.cell? ⟨w.heap.size, 1, none⟩ = some (iv a1) ∧ w'.cell? ⟨w.heap.size, 2, none⟩ = some (iv a2) ∧ w'.cell? ⟨w.heap.size, 3, none⟩ = some (iv a3) ∧ Below ((w.alloc (.cells #[iv a0, iv a1, iv a2, iv a3] 47)).alloc (.cells #[iv 0, iv 0, iv 0, iv 0] 47)).heap.size ((w.alloc (.cells #[iv a0, iv a1, iv a2, iv a3] 47)).alloc (.cells #[iv 0, iv 0, iv 0, iv 0] 47)) w')) := hid fun w' hx => ⟨(hx.cell (p := ⟨w.heap.size, 0, none⟩) (by simp; omega)).trans (by simp [go_sem]), (hx.cell (p := ⟨w.heap.size, 1, none⟩) (by simp; omega)).trans (by simp [go_sem]), (hx.cell (p := ⟨w.heap.size, 2, none⟩) (by simp; omega)).trans (by simp [go_sem]), (hx.cell (p := ⟨w.heap.size, 3, none⟩) (by simp; omega)).trans (by simp [go_sem]), hx⟩
  have HV := hid h1
  have HBB := hid hB1
  have H0 := hid h0
  clear h h1 hB1 h0
  have HSc : Hid (∀ w' : World, Below ((w.alloc (.cells #[iv a0, iv a1, iv a2, iv a3] 47)).alloc (.cells #[iv 0, iv 0, iv 0, iv 0] 47)).heap.size ((w.alloc (.cells #[iv a0, iv a1, iv a2, iv a3] 47)).alloc (.cells #[iv 0, iv 0, iv 0, iv 0] 47)) w' → (w'.cell? ⟨w.heap.size, 0, none⟩ = some (iv a0) ∧ w'.cell? ⟨w.heap.size, 1, none⟩ = some (iv a1) ∧ w'.cell? ⟨w.heap.size, 2, none⟩ = some (iv a2) ∧ w'.cell? ⟨w.heap.size, 3, none⟩ = some (iv a3))) := hid fun w' hx => ⟨(hx.cell (p := ⟨w.heap.size, 0, none⟩) (by simp; omega)).trans (by simp [go_sem]), (hx.cell (p := ⟨w.heap.size, 1, none⟩) (by simp; omega)).trans (by simp [go_sem]), (hx.cell (p := ⟨w.heap.size, 2, none⟩) (by simp; omega)).trans (by simp [go_sem]), (hx.cell (p := ⟨w.heap.size, 3, none⟩) (by simp; omega)).trans (by simp [go_sem])⟩
  have HF := hid hf
  have HF2 := hid hf2
  clear hf hf2
  have HT := hid ht
  clear ht
  have how' : (fld ks i 1 != fld ks k 1) = false := by simp [bne, how]
  have hk2 : decide ((k : Int) < 0) = false := by simp
  go_enter Try.func35, Try.ntmps35
  go_wp2_with fail
  go_region_held3 (fun w' => w'.cell? ⟨w.heap.size, 0, none⟩ = some (iv a0) ∧ w'.cell? ⟨w.heap.size, 1, none⟩ = some (iv a1) ∧ w'.cell? ⟨w.heap.size, 2, none⟩ = some (iv a2) ∧ w'.cell? ⟨w.heap.size, 3, none⟩ = some (iv a3) ∧ Below ((w.alloc (.cells #[iv a0, iv a1, iv a2, iv a3] 47)).alloc (.cells #[iv 0, iv 0, iv 0, iv 0] 47)).heap.size ((w.alloc (.cells #[iv a0, iv a1, iv a2, iv a3] 47)).alloc (.cells #[iv 0, iv 0, iv 0, iv 0] 47)) w') (first | with_reducible exact HS.out _ HX.drew | with_reducible exact HS.out _ HZ2.out | with_reducible exact HS.out _ HZ3.out | go_keep)
    (first | (go_at_call 78; refine (implSuccessionInts_any _ _ _ _ _).mono ?_; rintro e w2 ⟨v2, rfl, ho2, hb2⟩; have HZ2 := hid (below_step HX.drew hb2); have HO2 := hid ho2; clear hb2 ho2) | (go_at_call 60; refine (ret_cast (y := .tuple #[iv m, .bool true]) (by rw [HM.out]) (implmarkBy_yes _ _ ((HV.out.below HZ2.out HBB.out).mono (Nat.le_trans HBB.out HZ2.out.size)) (Own.si (zs := [106, a0, a1, a2]) HO2.out) (Nat.le_refl _) (by simp) i hi HF.out)).mono ?_; rintro e w3 ⟨rfl, hb3⟩; have HZ3 := hid (below_step HZ2.out hb3); clear hb3))
  go_wp2_with fail
  refine wp_region_held_drew (S := fun w' => w'.cell? ⟨w.heap.size, 0, none⟩ = some (iv a0) ∧ w'.cell? ⟨w.heap.size, 1, none⟩ = some (iv a1) ∧ w'.cell? ⟨w.heap.size, 2, none⟩ = some (iv a2) ∧ w'.cell? ⟨w.heap.size, 3, none⟩ = some (iv a3)) (by kernel_rfl) (HSc.out _ HZ3.out.drew) (fun hSx => ?_)
  refine wpAnyH_take (i := 0) (v := .bool true) rfl (by kernel_rfl) (by kernel_rfl) (by kernel_rfl) (fun _ _ _ h => h) (Or.inl ⟨by rfl, fun wq hSw => by go_simp⟩) hSx ?_
  try simp [Act.put]
  refine wpAnyH_take (i := 1) (v := .bool false) rfl (by kernel_rfl) (by kernel_rfl) (by kernel_rfl) (fun _ _ _ h => h) (Or.inl ⟨by rfl, fun wq hSw => by go_simp⟩) hSx ?_
  try simp [Act.put]
  refine wpAnyH_take (i := 2) (v := .bool false) rfl (by kernel_rfl) (by kernel_rfl) (by kernel_rfl) (fun _ _ _ h => h) (Or.inl ⟨by rfl, fun wq hSw => by go_simp⟩) hSx ?_
  try simp [Act.put]
  refine wpAnyH_take (i := 3) (v := v) rfl (by kernel_rfl) (by kernel_rfl) (by kernel_rfl) (fun _ _ _ h => h) (Or.inl ⟨by rfl, fun wq hSw => by go_simp⟩) hSx ?_
  try simp [Act.put]
  refine wpAnyH_take (i := 4) (v := .pointer (some ⟨w.heap.size, 1, none⟩)) rfl (by kernel_rfl) (by kernel_rfl) (by kernel_rfl) (fun _ _ _ h => h) (Or.inl ⟨by rfl, fun wq hSw => by go_simp⟩) hSx ?_
  try simp [Act.put]
  refine wpAnyH_take (i := 5) (v := iv a1) rfl (by kernel_rfl) (by kernel_rfl) (by kernel_rfl) (fun _ _ _ h => h) (Or.inl ⟨by rfl, fun wq hSw => by go_simp⟩) hSx ?_
  try simp [Act.put]
  clear hSx
  refine wpAnyH_ready (rs := [6]) (by kernel_rfl) (by simp) ?_
  refine AllReadyH.cons rfl (fun K hK => ?_) AllReadyH.nil
  go_simp
  go_wp2_with ((go_at_call 79; refine (ret_cast (y := iv (k : Int)) (by rw [HF2.out]) (implFindKey_any a1 _ ((HV.out.below HZ3.out.drew HBB.out).mono (Nat.le_trans HBB.out (HZ3.out.drew).size)) (Nat.le_refl _))).mono ?_; rintro e w4 ⟨rfl, hb4⟩; have HZ4 := hid (below_step HZ3.out.drew hb4); clear hb4))
  refine hK _ _ (by simpa using HSc.out _ HZ4.out) (fun hSx => ?_)
  clear hK K
  try simp [Act.put]
  refine wpAnyH_take (i := 7) (v := .bool false) rfl (by kernel_rfl) (by kernel_rfl) (by kernel_rfl) (fun _ _ _ h => h) (Or.inl ⟨by rfl, fun wq hSw => by go_simp⟩) hSx ?_
  try simp [Act.put]
  refine wpAnyH_take (i := 8) (v := .bool false) rfl (by kernel_rfl) (by kernel_rfl) (by kernel_rfl) (fun _ _ _ h => h) (Or.inl ⟨by rfl, fun wq hSw => by go_simp⟩) hSx ?_
  try simp [Act.put]
  refine wpAnyH_take (i := 9) (v := .bool false) rfl (by kernel_rfl) (by kernel_rfl) (by kernel_rfl) (fun _ _ _ h => h) (Or.inl ⟨by rfl, fun wq hSw => by go_simp⟩) hSx ?_
  try simp [Act.put]
  refine wpAnyH_take (i := 10) (v := .pointer (some ⟨w.heap.size, 0, none⟩)) rfl (by kernel_rfl) (by kernel_rfl) (by kernel_rfl) (fun _ _ _ h => h) (Or.inl ⟨by rfl, fun wq hSw => by go_simp⟩) hSx ?_
  try simp [Act.put]
  refine wpAnyH_take (i := 11) (v := iv a0) rfl (by kernel_rfl) (by kernel_rfl) (by kernel_rfl) (fun _ _ _ h => h) (Or.inl ⟨by rfl, fun wq hSw => by go_simp⟩) hSx ?_
  try simp [Act.put]
  refine wpAnyH_take (i := 12) (v := .pointer (some ⟨w.heap.size, 1, none⟩)) rfl (by kernel_rfl) (by kernel_rfl) (by kernel_rfl) (fun _ _ _ h => h) (Or.inl ⟨by rfl, fun wq hSw => by go_simp⟩) hSx ?_
  try simp [Act.put]
  refine wpAnyH_take (i := 13) (v := iv a1) rfl (by kernel_rfl) (by kernel_rfl) (by kernel_rfl) (fun _ _ _ h => h) (Or.inl ⟨by rfl, fun wq hSw => by go_simp⟩) hSx ?_
  try simp [Act.put]
  refine wpAnyH_take (i := 14) (v := .bool false) rfl (by kernel_rfl) (by kernel_rfl) (by kernel_rfl) (fun _ _ _ h => h) (Or.inl ⟨by rfl, fun wq hSw => by go_simp⟩) hSx ?_
  try simp [Act.put]
  refine wpAnyH_take (i := 15) (v := .bool false) rfl (by kernel_rfl) (by kernel_rfl) (by kernel_rfl) (fun _ _ _ h => h) (Or.inl ⟨by rfl, fun wq hSw => by go_simp⟩) hSx ?_
  try simp [Act.put]
  refine wpAnyH_take (i := 16) (v := .bool false) rfl (by kernel_rfl) (by kernel_rfl) (by kernel_rfl) (fun _ _ _ h => h) (Or.inl ⟨by rfl, fun wq hSw => by go_simp⟩) hSx ?_
  try simp [Act.put]
  refine wpAnyH_take (i := 17) (v := v) rfl (by kernel_rfl) (by kernel_rfl) (by kernel_rfl) (fun _ _ _ h => h) (Or.inl ⟨by rfl, fun wq hSw => by go_simp⟩) hSx ?_
  try simp [Act.put]
  refine wpAnyH_take (i := 18) (v := .pointer (some ⟨w.heap.size, 0, none⟩)) rfl (by kernel_rfl) (by kernel_rfl) (by kernel_rfl) (fun _ _ _ h => h) (Or.inl ⟨by rfl, fun wq hSw => by go_simp⟩) hSx ?_
  try simp [Act.put]
  refine wpAnyH_take (i := 19) (v := iv a0) rfl (by kernel_rfl) (by kernel_rfl) (by kernel_rfl) (fun _ _ _ h => h) (Or.inl ⟨by rfl, fun wq hSw => by go_simp⟩) hSx ?_
  try simp [Act.put]
  refine wpAnyH_take (i := 21) (v := v) rfl (by kernel_rfl) (by kernel_rfl) (by kernel_rfl) (fun _ _ _ h => h) (Or.inl ⟨by rfl, fun wq hSw => by go_simp⟩) hSx ?_
  try simp [Act.put]
  refine wpAnyH_take (i := 22) (v := .pointer (some ⟨w.heap.size, 1, none⟩)) rfl (by kernel_rfl) (by kernel_rfl) (by kernel_rfl) (fun _ _ _ h => h) (Or.inl ⟨by rfl, fun wq hSw => by go_simp⟩) hSx ?_
  try simp [Act.put]
  refine wpAnyH_take (i := 23) (v := iv a1) rfl (by kernel_rfl) (by kernel_rfl) (by kernel_rfl) (fun _ _ _ h => h) (Or.inl ⟨by rfl, fun wq hSw => by go_simp⟩) hSx ?_
  try simp [Act.put]
  clear hSx
  refine wpAnyH_ready (rs := [20]) (by kernel_rfl) (by simp) ?_
  refine AllReadyH.cons rfl (fun K hK => ?_) AllReadyH.nil
  go_simp
  go_wp2_with ((go_at_call 74; refine (ret_cast (y := iv (fld ks i 1)) (by rw [ownerOf_some HF.out]) (implOwnerOf_any a0 _ ((HV.out.below HZ4.out HBB.out).mono (Nat.le_trans HBB.out (HZ4.out).size)) (Nat.le_refl _))).mono ?_; rintro e w5 ⟨rfl, hb5⟩; have HZ5 := hid (below_step HZ4.out hb5); clear hb5))
  refine hK _ _ (by simpa using HSc.out _ HZ5.out) (fun hSx => ?_)
  clear hK K
  try simp [Act.put]
  clear hSx
  refine wpAnyH_ready (rs := [24]) (by kernel_rfl) (by simp) ?_
  refine AllReadyH.cons rfl (fun K hK => ?_) AllReadyH.nil
  go_simp
  go_wp2_with ((go_at_call 74; refine (ret_cast (y := iv (fld ks k 1)) (by rw [ownerOf_some HF2.out]) (implOwnerOf_any a1 _ ((HV.out.below HZ5.out HBB.out).mono (Nat.le_trans HBB.out (HZ5.out).size)) (Nat.le_refl _))).mono ?_; rintro e w6 ⟨rfl, hb6⟩; have HZ6 := hid (below_step HZ5.out hb6); clear hb6))
  refine hK _ _ (by simpa using HSc.out _ HZ6.out) (fun hSx => ?_)
  clear hK K
  try simp [Act.put]
  refine wpAnyH_take (i := 25) (v := .bool false) rfl (by kernel_rfl) (by kernel_rfl) (by kernel_rfl) (fun _ _ _ h => h) (Or.inl ⟨by rfl, fun wq hSw => by go_simp⟩) hSx ?_
  try simp [Act.put]
  refine wpAnyH_take (i := 26) (v := .bool false) rfl (by kernel_rfl) (by kernel_rfl) (by kernel_rfl) (fun _ _ _ h => h) (Or.inl ⟨by rfl, fun wq hSw => by go_simp⟩) hSx ?_
  try simp [Act.put]
  refine wpAnyH_take (i := 27) (v := .bool false) rfl (by kernel_rfl) (by kernel_rfl) (by kernel_rfl) (fun _ _ _ h => h) (Or.inl ⟨by rfl, fun wq hSw => by go_simp⟩) hSx ?_
  try simp [Act.put]
  refine wpAnyH_take (i := 28) (v := .pointer (some ⟨w.heap.size, 2, none⟩)) rfl (by kernel_rfl) (by kernel_rfl) (by kernel_rfl) (fun _ _ _ h => h) (Or.inl ⟨by rfl, fun wq hSw => by go_simp⟩) hSx ?_
  try simp [Act.put]
  refine wpAnyH_take (i := 29) (v := iv a2) rfl (by kernel_rfl) (by kernel_rfl) (by kernel_rfl) (fun _ _ _ h => h) (Or.inl ⟨by rfl, fun wq hSw => by go_simp⟩) hSx ?_
  try simp [Act.put]
  clear hSx
  refine wpAnyH_ready (rs := [30]) (by kernel_rfl) (by simp) ?_
  refine AllReadyH.cons rfl (fun K hK => ?_) AllReadyH.nil
  go_simp
  go_wp2_with ((go_at_call 80; refine (implisTime_ret HT.out _).mono ?_; rintro e w7 ⟨rfl, hb7⟩; have HZ7 := hid (below_step HZ6.out hb7); clear hb7))
  refine hK _ _ (by simpa using HSc.out _ HZ7.out) (fun hSx => ?_)
  clear hK K
  try simp [Act.put]
  refine wpAnyH_take (i := 31) (v := .bool false) rfl (by kernel_rfl) (by kernel_rfl) (by kernel_rfl) (fun _ _ _ h => h) (Or.inl ⟨by rfl, fun wq hSw => by go_simp⟩) hSx ?_
  try simp [Act.put]
  refine wpAnyH_take (i := 32) (v := .bool false) rfl (by kernel_rfl) (by kernel_rfl) (by kernel_rfl) (fun _ _ _ h => h) (Or.inl ⟨by rfl, fun wq hSw => by go_simp⟩) hSx ?_
  try simp [Act.put]
  refine wpAnyH_done (by kernel_rfl) ?_ _
  obtain ⟨c0, c1, c2, c3, -⟩ := HS.out _ HZ7.out
  have fz : w7.frozen? ⟨w.heap.size, 3, none⟩ = false := (HZ7.out.frozen (p := ⟨w.heap.size, 3, none⟩) (by simp; omega)).trans (by simp [go_sem])
  have d0 : w7.cell? ⟨w.heap.size + 1, 0, none⟩ = some (iv 0) := (HZ7.out.cell (p := ⟨w.heap.size + 1, 0, none⟩) (by simp)).trans (by simp [go_sem])
  have fd0 : w7.frozen? ⟨w.heap.size + 1, 0, none⟩ = false := (HZ7.out.frozen (p := ⟨w.heap.size + 1, 0, none⟩) (by simp)).trans (by simp [go_sem])
  have d1 : w7.cell? ⟨w.heap.size + 1, 1, none⟩ = some (iv 0) := (HZ7.out.cell (p := ⟨w.heap.size + 1, 1, none⟩) (by simp)).trans (by simp [go_sem])
  have fd1 : w7.frozen? ⟨w.heap.size + 1, 1, none⟩ = false := (HZ7.out.frozen (p := ⟨w.heap.size + 1, 1, none⟩) (by simp)).trans (by simp [go_sem])
  have d2 : w7.cell? ⟨w.heap.size + 1, 2, none⟩ = some (iv 0) := (HZ7.out.cell (p := ⟨w.heap.size + 1, 2, none⟩) (by simp)).trans (by simp [go_sem])
  have fd2 : w7.frozen? ⟨w.heap.size + 1, 2, none⟩ = false := (HZ7.out.frozen (p := ⟨w.heap.size + 1, 2, none⟩) (by simp)).trans (by simp [go_sem])
  have d3 : w7.cell? ⟨w.heap.size + 1, 3, none⟩ = some (iv 0) := (HZ7.out.cell (p := ⟨w.heap.size + 1, 3, none⟩) (by simp)).trans (by simp [go_sem])
  have fd3 : w7.frozen? ⟨w.heap.size + 1, 3, none⟩ = false := (HZ7.out.frozen (p := ⟨w.heap.size + 1, 3, none⟩) (by simp)).trans (by simp [go_sem])
  go_wp2
  refine bodyPost_ret (v := .tuple #[.agg #[iv a0, iv a1, iv a2, iv m], .bool true]) (by simp [results, Try.results35, go_sem, d0, d1, d2, d3]) rfl ⟨rfl, ?_⟩
  have HBX := hid (below_step H0.out HZ7.out)
  clear HX HZ7
  repeat (refine Below.setCell ?_ (by simp) _)
  exact HBX.out

theorem implMakeSuccession_any_no {B : Nat} {ks : List (List Int)} {v : Value} (a0 a1 a2 a3 : Int) (w : World) (h : Sl B w 5 v ks) (hB : B ≤ w.heap.size) (hno : findI 0 a0 ks = -1 ∨ findI 0 a1 ks = -1 ∨ (a0 == a1) = true ∨ (∃ i k : Nat, findI 0 a0 ks = (i : Int) ∧ findI 0 a1 ks = (k : Int) ∧ (fld ks i 1 == fld ks k 1) = false) ∨ timeB a2 = false) :
    Calls Try.prog 35 #[v, .agg #[iv a0, iv a1, iv a2, iv a3]] w (Ret (.tuple #[.agg #[iv 0, iv 0, iv 0, iv 0], .bool false]) w) := by
  rcases findI_range 0 a0 ks with hf | ⟨i, hi, hf, -⟩
  · exact implMakeSuccession_any_A a0 a1 a2 a3 w h hB hf _ rfl
  · rcases findI_range 0 a1 ks with hf2 | ⟨k, hk, hf2, -⟩
    · exact implMakeSuccession_any_B a0 a1 a2 a3 w h hB i hi hf hf2
    · cases hne : (a0 == a1)
      · cases how : (fld ks i 1 == fld ks k 1)
        · exact implMakeSuccession_any_D a0 a1 a2 a3 w h hB i hi hf k hk hf2 hne how
        · cases ht : timeB a2
          · exact implMakeSuccession_any_E a0 a1 a2 a3 w h hB i hi hf k hk hf2 hne how ht
          · exfalso
            rcases hno with q | q | q | ⟨i', k', q1, q2, q3⟩ | q
            · omega
            · omega
            · rw [hne] at q; exact absurd q (by decide)
            · obtain rfl : i = i' := by omega
              obtain rfl : k = k' := by omega
              rw [how] at q3; exact absurd q3 (by decide)
            · rw [ht] at q; exact absurd q (by decide)
      · exact implMakeSuccession_any_C a0 a1 a2 a3 w h hB i hi hf k hk hf2 hne

end Go.Proofs.Ytjacbpmkdlngaaa
