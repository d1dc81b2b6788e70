/- MakeStamp of the program and of the reference return the marked stamp and true where the authority, the times and the key are there, else the zero value and false. No condition. -/
import Derived.Test.YtkdpfbodmfjkkaaRows
import Derived.Test.YtkdpfbodmfjkkaaPlain
import Derived.Test.YtkdpfbodmfjkkaaMark
import Derived.Test.YtkdpfbodmfjkkaaTime
import Derived.Test.YtkdpfbodmfjkkaaFindAuthority
import Derived.Test.YtkdpfbodmfjkkaaIntsStamp
namespace Go.Proofs.Ytkdpfbodmfjkkaa
open Go.RowKit

set_option maxHeartbeats 4000000 in
theorem implMakeStamp_any_n1 {B : Nat} {ks ls : List (List Int)} {v u : Value} (a0 a1 a2 a3 a4 : Int) (w : World) (h : Sl B w 5 v ks) (g : Sl B w 3 u ls) (hB : B ≤ w.heap.size) (hf : findI 0 a0 ls = -1) :
    Calls Try.prog 65 #[v, u, .agg #[iv a0, iv a1, iv a2, iv a3, iv a4]] w (Ret (.tuple #[.agg #[iv 0, iv 0, iv 0, iv 0, iv 0], .bool false]) w) := by
  have HX : Below ((w.alloc (.cells #[iv a0, iv a1, iv a2, iv a3, iv a4] 101)).alloc (.cells #[iv 0, iv 0, iv 0, iv 0, iv 0] 101)).heap.size ((w.alloc (.cells #[iv a0, iv a1, iv a2, iv a3, iv a4] 101)).alloc (.cells #[iv 0, iv 0, iv 0, iv 0, iv 0] 101)) ((w.alloc (.cells #[iv a0, iv a1, iv a2, iv a3, iv a4] 101)).alloc (.cells #[iv 0, iv 0, iv 0, iv 0, iv 0] 101)) := Below.refl _ _
  have h0 : Below w.heap.size w ((w.alloc (.cells #[iv a0, iv a1, iv a2, iv a3, iv a4] 101)).alloc (.cells #[iv 0, iv 0, iv 0, iv 0, iv 0] 101)) := (below_alloc _ _).alloc (by simp) _
  have hB1 : B ≤ ((w.alloc (.cells #[iv a0, iv a1, iv a2, iv a3, iv a4] 101)).alloc (.cells #[iv 0, iv 0, iv 0, iv 0, iv 0] 101)).heap.size := by simp; omega
  have h1 : Sl B ((w.alloc (.cells #[iv a0, iv a1, iv a2, iv a3, iv a4] 101)).alloc (.cells #[iv 0, iv 0, iv 0, iv 0, iv 0] 101)) 5 v ks := h.below h0 hB
  have g1 := g.below h0 hB
  have H0 := hid h0
  have HS : Hid (∀ w' : World, Below ((w.alloc (.cells #[iv a0, iv a1, iv a2, iv a3, iv a4] 101)).alloc (.cells #[iv 0, iv 0, iv 0, iv 0, iv 0] 101)).heap.size ((w.alloc (.cells #[iv a0, iv a1, iv a2, iv a3, iv a4] 101)).alloc (.cells #[iv 0, iv 0, iv 0, iv 0, iv 0] 101)) w' → (w'.cell? ⟨w.heap.size, 0, none⟩ = some (iv a0) ∧ w'.cell? ⟨w.heap.size, 1, none⟩ = some (iv a1) ∧ w'.cell? ⟨w.heap.size, 2, none⟩ = some (iv a2) ∧ w'.cell? ⟨w.heap.size, 3, none⟩ = some (iv a3) ∧ w'.cell? ⟨w.heap.size, 4, none⟩ = some (iv a4) ∧ Below ((w.alloc (.cells #[iv a0, iv a1, iv a2, iv a3, iv a4] 101)).alloc (.cells #[iv 0, iv 0, iv 0, iv 0, iv 0] 101)).heap.size ((w.alloc (.cells #[iv a0, iv a1, iv a2, iv a3, iv a4] 101)).alloc (.cells #[iv 0, iv 0, iv 0, iv 0, iv 0] 101)) w')) := hid fun w' hx => ⟨(hx.cell (p := ⟨w.heap.size, 0, none⟩) (by simp; omega)).trans (by simp [go_sem]), (hx.cell (p := ⟨w.heap.size, 1, none⟩) (by simp; omega)).trans (by simp [go_sem]), (hx.cell (p := ⟨w.heap.size, 2, none⟩) (by simp; omega)).trans (by simp [go_sem]), (hx.cell (p := ⟨w.heap.size, 3, none⟩) (by simp; omega)).trans (by simp [go_sem]), (hx.cell (p := ⟨w.heap.size, 4, none⟩) (by simp; omega)).trans (by simp [go_sem]), hx⟩
  have HV := hid h1
  have GV := hid g1
  have HBB := hid hB1
  clear h h1 hB1 h0 g g1
  have GF := hid hf
  clear hf
  go_enter Try.func65, Try.ntmps65
  go_wp2_with fail
  refine (implFindAuthority_any _ _ GV.out HBB.out).mono ?_
  rintro e w1 ⟨rfl, hb1⟩
  have HZ1 := hid (below_step HX hb1)
  rw [GF.out]
  clear hb1
  obtain ⟨c0, c1, c2, c3, c4, -⟩ := HS.out _ HZ1.out
  have fz : w1.frozen? ⟨w.heap.size, 4, none⟩ = false := (HZ1.out.frozen (p := ⟨w.heap.size, 4, none⟩) (by simp; omega)).trans (by simp [go_sem])
  have d0 : w1.cell? ⟨w.heap.size + 1, 0, none⟩ = some (iv 0) := (HZ1.out.cell (p := ⟨w.heap.size + 1, 0, none⟩) (by simp)).trans (by simp [go_sem])
  have fd0 : w1.frozen? ⟨w.heap.size + 1, 0, none⟩ = false := (HZ1.out.frozen (p := ⟨w.heap.size + 1, 0, none⟩) (by simp)).trans (by simp [go_sem])
  have d1 : w1.cell? ⟨w.heap.size + 1, 1, none⟩ = some (iv 0) := (HZ1.out.cell (p := ⟨w.heap.size + 1, 1, none⟩) (by simp)).trans (by simp [go_sem])
  have fd1 : w1.frozen? ⟨w.heap.size + 1, 1, none⟩ = false := (HZ1.out.frozen (p := ⟨w.heap.size + 1, 1, none⟩) (by simp)).trans (by simp [go_sem])
  have d2 : w1.cell? ⟨w.heap.size + 1, 2, none⟩ = some (iv 0) := (HZ1.out.cell (p := ⟨w.heap.size + 1, 2, none⟩) (by simp)).trans (by simp [go_sem])
  have fd2 : w1.frozen? ⟨w.heap.size + 1, 2, none⟩ = false := (HZ1.out.frozen (p := ⟨w.heap.size + 1, 2, none⟩) (by simp)).trans (by simp [go_sem])
  have d3 : w1.cell? ⟨w.heap.size + 1, 3, none⟩ = some (iv 0) := (HZ1.out.cell (p := ⟨w.heap.size + 1, 3, none⟩) (by simp)).trans (by simp [go_sem])
  have fd3 : w1.frozen? ⟨w.heap.size + 1, 3, none⟩ = false := (HZ1.out.frozen (p := ⟨w.heap.size + 1, 3, none⟩) (by simp)).trans (by simp [go_sem])
  have d4 : w1.cell? ⟨w.heap.size + 1, 4, none⟩ = some (iv 0) := (HZ1.out.cell (p := ⟨w.heap.size + 1, 4, none⟩) (by simp)).trans (by simp [go_sem])
  have fd4 : w1.frozen? ⟨w.heap.size + 1, 4, none⟩ = false := (HZ1.out.frozen (p := ⟨w.heap.size + 1, 4, none⟩) (by simp)).trans (by simp [go_sem])
  go_wp2
  refine bodyPost_ret (v := .tuple #[.agg #[iv 0, iv 0, iv 0, iv 0, iv 0], .bool false]) (by simp [results, Try.results65, go_sem, d0, d1, d2, d3, d4]) rfl ⟨rfl, ?_⟩
  have HBX := hid (below_step H0.out HZ1.out)
  clear HX HZ1
  repeat (refine Below.setCell ?_ (by simp) _)
  exact HBX.out

set_option maxHeartbeats 4000000 in
theorem implMakeStamp_any_n2 {B : Nat} {ks ls : List (List Int)} {v u : Value} (a0 a1 a2 a3 a4 : Int) (w : World) (h : Sl B w 5 v ks) (g : Sl B w 3 u ls) (hB : B ≤ w.heap.size) (i : Nat) (hi : i < ls.length) (hf : findI 0 a0 ls = (i : Int)) (ht : a1 < 0) :
    Calls Try.prog 65 #[v, u, .agg #[iv a0, iv a1, iv a2, iv a3, iv a4]] w (Ret (.tuple #[.agg #[iv 0, iv 0, iv 0, iv 0, iv 0], .bool false]) w) := by
  have HX : Below ((w.alloc (.cells #[iv a0, iv a1, iv a2, iv a3, iv a4] 101)).alloc (.cells #[iv 0, iv 0, iv 0, iv 0, iv 0] 101)).heap.size ((w.alloc (.cells #[iv a0, iv a1, iv a2, iv a3, iv a4] 101)).alloc (.cells #[iv 0, iv 0, iv 0, iv 0, iv 0] 101)) ((w.alloc (.cells #[iv a0, iv a1, iv a2, iv a3, iv a4] 101)).alloc (.cells #[iv 0, iv 0, iv 0, iv 0, iv 0] 101)) := Below.refl _ _
  have h0 : Below w.heap.size w ((w.alloc (.cells #[iv a0, iv a1, iv a2, iv a3, iv a4] 101)).alloc (.cells #[iv 0, iv 0, iv 0, iv 0, iv 0] 101)) := (below_alloc _ _).alloc (by simp) _
  have hB1 : B ≤ ((w.alloc (.cells #[iv a0, iv a1, iv a2, iv a3, iv a4] 101)).alloc (.cells #[iv 0, iv 0, iv 0, iv 0, iv 0] 101)).heap.size := by simp; omega
  have h1 : Sl B ((w.alloc (.cells #[iv a0, iv a1, iv a2, iv a3, iv a4] 101)).alloc (.cells #[iv 0, iv 0, iv 0, iv 0, iv 0] 101)) 5 v ks := h.below h0 hB
  obtain ⟨Al, cl, rfl, hq1, hq2, -, hcell⟩ := id g
  obtain ⟨b, off, rfl, hbB, hcc⟩ := hcell (by omega)
  have l1 := hcc i 1 hi (by omega)
  have hi0 : (0 : Int) ≤ (i : Int) := Int.natCast_nonneg _
  have hi1 : (i : Int) < (ls.length : Int) := by omega
  have g1 := g.below h0 hB
  have H0 := hid h0
  have HS : Hid (∀ w' : World, Below ((w.alloc (.cells #[iv a0, iv a1, iv a2, iv a3, iv a4] 101)).alloc (.cells #[iv 0, iv 0, iv 0, iv 0, iv 0] 101)).heap.size ((w.alloc (.cells #[iv a0, iv a1, iv a2, iv a3, iv a4] 101)).alloc (.cells #[iv 0, iv 0, iv 0, iv 0, iv 0] 101)) w' → (w'.cell? ⟨w.heap.size, 0, none⟩ = some (iv a0) ∧ w'.cell? ⟨w.heap.size, 1, none⟩ = some (iv a1) ∧ w'.cell? ⟨w.heap.size, 2, none⟩ = some (iv a2) ∧ w'.cell? ⟨w.heap.size, 3, none⟩ = some (iv a3) ∧ w'.cell? ⟨w.heap.size, 4, none⟩ = some (iv a4) ∧ w'.cell? ⟨b, off + i * 3 + 1, none⟩ = some (iv (fld ls i 1)) ∧ Below ((w.alloc (.cells #[iv a0, iv a1, iv a2, iv a3, iv a4] 101)).alloc (.cells #[iv 0, iv 0, iv 0, iv 0, iv 0] 101)).heap.size ((w.alloc (.cells #[iv a0, iv a1, iv a2, iv a3, iv a4] 101)).alloc (.cells #[iv 0, iv 0, iv 0, iv 0, iv 0] 101)) w')) := hid fun w' hx => ⟨(hx.cell (p := ⟨w.heap.size, 0, none⟩) (by simp; omega)).trans (by simp [go_sem]), (hx.cell (p := ⟨w.heap.size, 1, none⟩) (by simp; omega)).trans (by simp [go_sem]), (hx.cell (p := ⟨w.heap.size, 2, none⟩) (by simp; omega)).trans (by simp [go_sem]), (hx.cell (p := ⟨w.heap.size, 3, none⟩) (by simp; omega)).trans (by simp [go_sem]), (hx.cell (p := ⟨w.heap.size, 4, none⟩) (by simp; omega)).trans (by simp [go_sem]), cell_at (below_step H0.out hx) hbB hB l1, hx⟩
  have HV := hid h1
  have GV := hid g1
  have HBB := hid hB1
  clear hcc hcell l1
  clear h h1 hB1 h0 g g1
  have GF := hid hf
  clear hf
  go_enter Try.func65, Try.ntmps65
  go_wp2_with fail
  refine (implFindAuthority_any _ _ GV.out HBB.out).mono ?_
  rintro e w1 ⟨rfl, hb1⟩
  have HZ1 := hid (below_step HX hb1)
  rw [GF.out]
  clear hb1
  obtain ⟨c0, c1, c2, c3, c4, e1, -⟩ := HS.out _ HZ1.out
  have fz : w1.frozen? ⟨w.heap.size, 4, none⟩ = false := (HZ1.out.frozen (p := ⟨w.heap.size, 4, none⟩) (by simp; omega)).trans (by simp [go_sem])
  have d0 : w1.cell? ⟨w.heap.size + 1, 0, none⟩ = some (iv 0) := (HZ1.out.cell (p := ⟨w.heap.size + 1, 0, none⟩) (by simp)).trans (by simp [go_sem])
  have fd0 : w1.frozen? ⟨w.heap.size + 1, 0, none⟩ = false := (HZ1.out.frozen (p := ⟨w.heap.size + 1, 0, none⟩) (by simp)).trans (by simp [go_sem])
  have d1 : w1.cell? ⟨w.heap.size + 1, 1, none⟩ = some (iv 0) := (HZ1.out.cell (p := ⟨w.heap.size + 1, 1, none⟩) (by simp)).trans (by simp [go_sem])
  have fd1 : w1.frozen? ⟨w.heap.size + 1, 1, none⟩ = false := (HZ1.out.frozen (p := ⟨w.heap.size + 1, 1, none⟩) (by simp)).trans (by simp [go_sem])
  have d2 : w1.cell? ⟨w.heap.size + 1, 2, none⟩ = some (iv 0) := (HZ1.out.cell (p := ⟨w.heap.size + 1, 2, none⟩) (by simp)).trans (by simp [go_sem])
  have fd2 : w1.frozen? ⟨w.heap.size + 1, 2, none⟩ = false := (HZ1.out.frozen (p := ⟨w.heap.size + 1, 2, none⟩) (by simp)).trans (by simp [go_sem])
  have d3 : w1.cell? ⟨w.heap.size + 1, 3, none⟩ = some (iv 0) := (HZ1.out.cell (p := ⟨w.heap.size + 1, 3, none⟩) (by simp)).trans (by simp [go_sem])
  have fd3 : w1.frozen? ⟨w.heap.size + 1, 3, none⟩ = false := (HZ1.out.frozen (p := ⟨w.heap.size + 1, 3, none⟩) (by simp)).trans (by simp [go_sem])
  have d4 : w1.cell? ⟨w.heap.size + 1, 4, none⟩ = some (iv 0) := (HZ1.out.cell (p := ⟨w.heap.size + 1, 4, none⟩) (by simp)).trans (by simp [go_sem])
  have fd4 : w1.frozen? ⟨w.heap.size + 1, 4, none⟩ = false := (HZ1.out.frozen (p := ⟨w.heap.size + 1, 4, none⟩) (by simp)).trans (by simp [go_sem])
  go_wp2
  refine bodyPost_ret (v := .tuple #[.agg #[iv 0, iv 0, iv 0, iv 0, iv 0], .bool false]) (by simp [results, Try.results65, go_sem, d0, d1, d2, d3, d4]) rfl ⟨rfl, ?_⟩
  have HBX := hid (below_step H0.out HZ1.out)
  clear HX HZ1
  repeat (refine Below.setCell ?_ (by simp) _)
  exact HBX.out

set_option maxHeartbeats 4000000 in
theorem implMakeStamp_any_n3 {B : Nat} {ks ls : List (List Int)} {v u : Value} (a0 a1 a2 a3 a4 : Int) (w : World) (h : Sl B w 5 v ks) (g : Sl B w 3 u ls) (hB : B ≤ w.heap.size) (i : Nat) (hi : i < ls.length) (hf : findI 0 a0 ls = (i : Int)) (ht : 0 ≤ a1) (ht2 : timeB a2 = false) :
    Calls Try.prog 65 #[v, u, .agg #[iv a0, iv a1, iv a2, iv a3, iv a4]] w (Ret (.tuple #[.agg #[iv 0, iv 0, iv 0, iv 0, iv 0], .bool false]) w) := by
  have HX : Below ((w.alloc (.cells #[iv a0, iv a1, iv a2, iv a3, iv a4] 101)).alloc (.cells #[iv 0, iv 0, iv 0, iv 0, iv 0] 101)).heap.size ((w.alloc (.cells #[iv a0, iv a1, iv a2, iv a3, iv a4] 101)).alloc (.cells #[iv 0, iv 0, iv 0, iv 0, iv 0] 101)) ((w.alloc (.cells #[iv a0, iv a1, iv a2, iv a3, iv a4] 101)).alloc (.cells #[iv 0, iv 0, iv 0, iv 0, iv 0] 101)) := Below.refl _ _
  have h0 : Below w.heap.size w ((w.alloc (.cells #[iv a0, iv a1, iv a2, iv a3, iv a4] 101)).alloc (.cells #[iv 0, iv 0, iv 0, iv 0, iv 0] 101)) := (below_alloc _ _).alloc (by simp) _
  have hB1 : B ≤ ((w.alloc (.cells #[iv a0, iv a1, iv a2, iv a3, iv a4] 101)).alloc (.cells #[iv 0, iv 0, iv 0, iv 0, iv 0] 101)).heap.size := by simp; omega
  have h1 : Sl B ((w.alloc (.cells #[iv a0, iv a1, iv a2, iv a3, iv a4] 101)).alloc (.cells #[iv 0, iv 0, iv 0, iv 0, iv 0] 101)) 5 v ks := h.below h0 hB
  obtain ⟨Al, cl, rfl, hq1, hq2, -, hcell⟩ := id g
  obtain ⟨b, off, rfl, hbB, hcc⟩ := hcell (by omega)
  have l1 := hcc i 1 hi (by omega)
  have hi0 : (0 : Int) ≤ (i : Int) := Int.natCast_nonneg _
  have hi1 : (i : Int) < (ls.length : Int) := by omega
  have g1 := g.below h0 hB
  have H0 := hid h0
  have HS : Hid (∀ w' : World, Below ((w.alloc (.cells #[iv a0, iv a1, iv a2, iv a3, iv a4] 101)).alloc (.cells #[iv 0, iv 0, iv 0, iv 0, iv 0] 101)).heap.size ((w.alloc (.cells #[iv a0, iv a1, iv a2, iv a3, iv a4] 101)).alloc (.cells #[iv 0, iv 0, iv 0, iv 0, iv 0] 101)) w' → (w'.cell? ⟨w.heap.size, 0, none⟩ = some (iv a0) ∧ w'.cell? ⟨w.heap.size, 1, none⟩ = some (iv a1) ∧ w'.cell? ⟨w.heap.size, 2, none⟩ = some (iv a2) ∧ w'.cell? ⟨w.heap.size, 3, none⟩ = some (iv a3) ∧ w'.cell? ⟨w.heap.size, 4, none⟩ = some (iv a4) ∧ w'.cell? ⟨b, off + i * 3 + 1, none⟩ = some (iv (fld ls i 1)) ∧ Below ((w.alloc (.cells #[iv a0, iv a1, iv a2, iv a3, iv a4] 101)).alloc (.cells #[iv 0, iv 0, iv 0, iv 0, iv 0] 101)).heap.size ((w.alloc (.cells #[iv a0, iv a1, iv a2, iv a3, iv a4] 101)).alloc (.cells #[iv 0, iv 0, iv 0, iv 0, iv 0] 101)) w')) := hid fun w' hx => ⟨(hx.cell (p := ⟨w.heap.size, 0, none⟩) (by simp; omega)).trans (by simp [go_sem]), (hx.cell (p := ⟨w.heap.size, 1, none⟩) (by simp; omega)).trans (by simp [go_sem]), (hx.cell (p := ⟨w.heap.size, 2, none⟩) (by simp; omega)).trans (by simp [go_sem]), (hx.cell (p := ⟨w.heap.size, 3, none⟩) (by simp; omega)).trans (by simp [go_sem]), (hx.cell (p := ⟨w.heap.size, 4, none⟩) (by simp; omega)).trans (by simp [go_sem]), cell_at (below_step H0.out hx) hbB hB l1, hx⟩
  have HV := hid h1
  have GV := hid g1
  have HBB := hid hB1
  clear hcc hcell l1
  clear h h1 hB1 h0 g g1
  have GF := hid hf
  clear hf
  have HT := hid ht2
  clear ht2
  go_enter Try.func65, Try.ntmps65
  go_wp2_with fail
  refine (implFindAuthority_any _ _ GV.out HBB.out).mono ?_
  rintro e w1 ⟨rfl, hb1⟩
  have HZ1 := hid (below_step HX hb1)
  rw [GF.out]
  clear hb1
  obtain ⟨c0, c1, c2, c3, c4, e1, -⟩ := HS.out _ HZ1.out
  go_wp2_with fail
  refine (implisTime_any _ _).mono ?_
  rintro e w2 ⟨rfl, hb2⟩
  have HZ2 := hid (below_step HZ1.out hb2)
  rw [HT.out]
  clear hb2 c0 c1 c2 c3 c4 e1
  obtain ⟨c0, c1, c2, c3, c4, e1, -⟩ := HS.out _ HZ2.out
  have fz : w2.frozen? ⟨w.heap.size, 4, none⟩ = false := (HZ2.out.frozen (p := ⟨w.heap.size, 4, none⟩) (by simp; omega)).trans (by simp [go_sem])
  have d0 : w2.cell? ⟨w.heap.size + 1, 0, none⟩ = some (iv 0) := (HZ2.out.cell (p := ⟨w.heap.size + 1, 0, none⟩) (by simp)).trans (by simp [go_sem])
  have fd0 : w2.frozen? ⟨w.heap.size + 1, 0, none⟩ = false := (HZ2.out.frozen (p := ⟨w.heap.size + 1, 0, none⟩) (by simp)).trans (by simp [go_sem])
  have d1 : w2.cell? ⟨w.heap.size + 1, 1, none⟩ = some (iv 0) := (HZ2.out.cell (p := ⟨w.heap.size + 1, 1, none⟩) (by simp)).trans (by simp [go_sem])
  have fd1 : w2.frozen? ⟨w.heap.size + 1, 1, none⟩ = false := (HZ2.out.frozen (p := ⟨w.heap.size + 1, 1, none⟩) (by simp)).trans (by simp [go_sem])
  have d2 : w2.cell? ⟨w.heap.size + 1, 2, none⟩ = some (iv 0) := (HZ2.out.cell (p := ⟨w.heap.size + 1, 2, none⟩) (by simp)).trans (by simp [go_sem])
  have fd2 : w2.frozen? ⟨w.heap.size + 1, 2, none⟩ = false := (HZ2.out.frozen (p := ⟨w.heap.size + 1, 2, none⟩) (by simp)).trans (by simp [go_sem])
  have d3 : w2.cell? ⟨w.heap.size + 1, 3, none⟩ = some (iv 0) := (HZ2.out.cell (p := ⟨w.heap.size + 1, 3, none⟩) (by simp)).trans (by simp [go_sem])
  have fd3 : w2.frozen? ⟨w.heap.size + 1, 3, none⟩ = false := (HZ2.out.frozen (p := ⟨w.heap.size + 1, 3, none⟩) (by simp)).trans (by simp [go_sem])
  have d4 : w2.cell? ⟨w.heap.size + 1, 4, none⟩ = some (iv 0) := (HZ2.out.cell (p := ⟨w.heap.size + 1, 4, none⟩) (by simp)).trans (by simp [go_sem])
  have fd4 : w2.frozen? ⟨w.heap.size + 1, 4, none⟩ = false := (HZ2.out.frozen (p := ⟨w.heap.size + 1, 4, none⟩) (by simp)).trans (by simp [go_sem])
  go_wp2
  refine bodyPost_ret (v := .tuple #[.agg #[iv 0, iv 0, iv 0, iv 0, iv 0], .bool false]) (by simp [results, Try.results65, go_sem, d0, d1, d2, d3, d4]) rfl ⟨rfl, ?_⟩
  have HBX := hid (below_step H0.out HZ2.out)
  clear HX HZ2
  repeat (refine Below.setCell ?_ (by simp) _)
  exact HBX.out

set_option maxHeartbeats 4000000 in
theorem implMakeStamp_any_n4 {B : Nat} {ks ls : List (List Int)} {v u : Value} (a0 a1 a2 a3 a4 : Int) (w : World) (h : Sl B w 5 v ks) (g : Sl B w 3 u ls) (hB : B ≤ w.heap.size) (i : Nat) (hi : i < ls.length) (hf : findI 0 a0 ls = (i : Int)) (ht : 0 ≤ a1) (ht2 : timeB a2 = true) (hf2 : findI 0 (fld ls i 1) ks = -1) :
    Calls Try.prog 65 #[v, u, .agg #[iv a0, iv a1, iv a2, iv a3, iv a4]] w (Ret (.tuple #[.agg #[iv 0, iv 0, iv 0, iv 0, iv 0], .bool false]) w) := by
  have HX : Below ((w.alloc (.cells #[iv a0, iv a1, iv a2, iv a3, iv a4] 101)).alloc (.cells #[iv 0, iv 0, iv 0, iv 0, iv 0] 101)).heap.size ((w.alloc (.cells #[iv a0, iv a1, iv a2, iv a3, iv a4] 101)).alloc (.cells #[iv 0, iv 0, iv 0, iv 0, iv 0] 101)) ((w.alloc (.cells #[iv a0, iv a1, iv a2, iv a3, iv a4] 101)).alloc (.cells #[iv 0, iv 0, iv 0, iv 0, iv 0] 101)) := Below.refl _ _
  have h0 : Below w.heap.size w ((w.alloc (.cells #[iv a0, iv a1, iv a2, iv a3, iv a4] 101)).alloc (.cells #[iv 0, iv 0, iv 0, iv 0, iv 0] 101)) := (below_alloc _ _).alloc (by simp) _
  have hB1 : B ≤ ((w.alloc (.cells #[iv a0, iv a1, iv a2, iv a3, iv a4] 101)).alloc (.cells #[iv 0, iv 0, iv 0, iv 0, iv 0] 101)).heap.size := by simp; omega
  have h1 : Sl B ((w.alloc (.cells #[iv a0, iv a1, iv a2, iv a3, iv a4] 101)).alloc (.cells #[iv 0, iv 0, iv 0, iv 0, iv 0] 101)) 5 v ks := h.below h0 hB
  obtain ⟨Al, cl, rfl, hq1, hq2, -, hcell⟩ := id g
  obtain ⟨b, off, rfl, hbB, hcc⟩ := hcell (by omega)
  have l1 := hcc i 1 hi (by omega)
  have hi0 : (0 : Int) ≤ (i : Int) := Int.natCast_nonneg _
  have hi1 : (i : Int) < (ls.length : Int) := by omega
  have g1 := g.below h0 hB
  have H0 := hid h0
  have HS : Hid (∀ w' : World, Below ((w.alloc (.cells #[iv a0, iv a1, iv a2, iv a3, iv a4] 101)).alloc (.cells #[iv 0, iv 0, iv 0, iv 0, iv 0] 101)).heap.size ((w.alloc (.cells #[iv a0, iv a1, iv a2, iv a3, iv a4] 101)).alloc (.cells #[iv 0, iv 0, iv 0, iv 0, iv 0] 101)) w' → (w'.cell? ⟨w.heap.size, 0, none⟩ = some (iv a0) ∧ w'.cell? ⟨w.heap.size, 1, none⟩ = some (iv a1) ∧ w'.cell? ⟨w.heap.size, 2, none⟩ = some (iv a2) ∧ w'.cell? ⟨w.heap.size, 3, none⟩ = some (iv a3) ∧ w'.cell? ⟨w.heap.size, 4, none⟩ = some (iv a4) ∧ w'.cell? ⟨b, off + i * 3 + 1, none⟩ = some (iv (fld ls i 1)) ∧ Below ((w.alloc (.cells #[iv a0, iv a1, iv a2, iv a3, iv a4] 101)).alloc (.cells #[iv 0, iv 0, iv 0, iv 0, iv 0] 101)).heap.size ((w.alloc (.cells #[iv a0, iv a1, iv a2, iv a3, iv a4] 101)).alloc (.cells #[iv 0, iv 0, iv 0, iv 0, iv 0] 101)) w')) := hid fun w' hx => ⟨(hx.cell (p := ⟨w.heap.size, 0, none⟩) (by simp; omega)).trans (by simp [go_sem]), (hx.cell (p := ⟨w.heap.size, 1, none⟩) (by simp; omega)).trans (by simp [go_sem]), (hx.cell (p := ⟨w.heap.size, 2, none⟩) (by simp; omega)).trans (by simp [go_sem]), (hx.cell (p := ⟨w.heap.size, 3, none⟩) (by simp; omega)).trans (by simp [go_sem]), (hx.cell (p := ⟨w.heap.size, 4, none⟩) (by simp; omega)).trans (by simp [go_sem]), cell_at (below_step H0.out hx) hbB hB l1, hx⟩
  have HV := hid h1
  have GV := hid g1
  have HBB := hid hB1
  clear hcc hcell l1
  clear h h1 hB1 h0 g g1
  have GF := hid hf
  clear hf
  have HT := hid ht2
  clear ht2
  have HF := hid hf2
  clear hf2
  go_enter Try.func65, Try.ntmps65
  go_wp2_with fail
  refine (implFindAuthority_any _ _ GV.out HBB.out).mono ?_
  rintro e w1 ⟨rfl, hb1⟩
  have HZ1 := hid (below_step HX hb1)
  rw [GF.out]
  clear hb1
  obtain ⟨c0, c1, c2, c3, c4, e1, -⟩ := HS.out _ HZ1.out
  go_wp2_with fail
  refine (implisTime_any _ _).mono ?_
  rintro e w2 ⟨rfl, hb2⟩
  have HZ2 := hid (below_step HZ1.out hb2)
  rw [HT.out]
  clear hb2 c0 c1 c2 c3 c4 e1
  obtain ⟨c0, c1, c2, c3, c4, e1, -⟩ := HS.out _ HZ2.out
  go_wp2_with fail
  clear c0 c1 c2 c3 c4 e1
  go_region_held3 (fun w' => w'.cell? ⟨w.heap.size, 0, none⟩ = some (iv a0) ∧ w'.cell? ⟨w.heap.size, 1, none⟩ = some (iv a1) ∧ w'.cell? ⟨w.heap.size, 2, none⟩ = some (iv a2) ∧ w'.cell? ⟨w.heap.size, 3, none⟩ = some (iv a3) ∧ w'.cell? ⟨w.heap.size, 4, none⟩ = some (iv a4) ∧ w'.cell? ⟨b, off + i * 3 + 1, none⟩ = some (iv (fld ls i 1)) ∧ Below ((w.alloc (.cells #[iv a0, iv a1, iv a2, iv a3, iv a4] 101)).alloc (.cells #[iv 0, iv 0, iv 0, iv 0, iv 0] 101)).heap.size ((w.alloc (.cells #[iv a0, iv a1, iv a2, iv a3, iv a4] 101)).alloc (.cells #[iv 0, iv 0, iv 0, iv 0, iv 0] 101)) w') (first | with_reducible exact HS.out _ HZ2.out | with_reducible exact HS.out _ HZ2.out.drew | with_reducible exact HS.out _ HZ3.out | with_reducible exact HS.out _ HZ4.out | go_keep)
    (first | (go_at_call 132; refine (implStampInts_any _ _ _ _ _ _).mono ?_; rintro e w3 ⟨v3, rfl, ho3, hb3⟩; have HZ3 := hid (below_step HZ2.out.drew hb3); have HO3 := hid ho3; clear hb3 ho3) | (go_at_call 114; refine (implmarkBy_no _ _ ((HV.out.below HZ3.out HBB.out).mono (Nat.le_trans HBB.out HZ3.out.size)) (Own.si (zs := [103, a0, a1, a2, a3]) HO3.out) (Nat.le_refl _) HF.out).mono ?_; rintro e w4 ⟨rfl, hb4⟩; have HZ4 := hid (below_step HZ3.out hb4); clear hb4))
  obtain ⟨c0, c1, c2, c3, c4, e1, -⟩ := HS.out _ HZ4.out
  have fz : w4.frozen? ⟨w.heap.size, 4, none⟩ = false := (HZ4.out.frozen (p := ⟨w.heap.size, 4, none⟩) (by simp; omega)).trans (by simp [go_sem])
  have d0 : w4.cell? ⟨w.heap.size + 1, 0, none⟩ = some (iv 0) := (HZ4.out.cell (p := ⟨w.heap.size + 1, 0, none⟩) (by simp)).trans (by simp [go_sem])
  have fd0 : w4.frozen? ⟨w.heap.size + 1, 0, none⟩ = false := (HZ4.out.frozen (p := ⟨w.heap.size + 1, 0, none⟩) (by simp)).trans (by simp [go_sem])
  have d1 : w4.cell? ⟨w.heap.size + 1, 1, none⟩ = some (iv 0) := (HZ4.out.cell (p := ⟨w.heap.size + 1, 1, none⟩) (by simp)).trans (by simp [go_sem])
  have fd1 : w4.frozen? ⟨w.heap.size + 1, 1, none⟩ = false := (HZ4.out.frozen (p := ⟨w.heap.size + 1, 1, none⟩) (by simp)).trans (by simp [go_sem])
  have d2 : w4.cell? ⟨w.heap.size + 1, 2, none⟩ = some (iv 0) := (HZ4.out.cell (p := ⟨w.heap.size + 1, 2, none⟩) (by simp)).trans (by simp [go_sem])
  have fd2 : w4.frozen? ⟨w.heap.size + 1, 2, none⟩ = false := (HZ4.out.frozen (p := ⟨w.heap.size + 1, 2, none⟩) (by simp)).trans (by simp [go_sem])
  have d3 : w4.cell? ⟨w.heap.size + 1, 3, none⟩ = some (iv 0) := (HZ4.out.cell (p := ⟨w.heap.size + 1, 3, none⟩) (by simp)).trans (by simp [go_sem])
  have fd3 : w4.frozen? ⟨w.heap.size + 1, 3, none⟩ = false := (HZ4.out.frozen (p := ⟨w.heap.size + 1, 3, none⟩) (by simp)).trans (by simp [go_sem])
  have d4 : w4.cell? ⟨w.heap.size + 1, 4, none⟩ = some (iv 0) := (HZ4.out.cell (p := ⟨w.heap.size + 1, 4, none⟩) (by simp)).trans (by simp [go_sem])
  have fd4 : w4.frozen? ⟨w.heap.size + 1, 4, none⟩ = false := (HZ4.out.frozen (p := ⟨w.heap.size + 1, 4, none⟩) (by simp)).trans (by simp [go_sem])
  go_wp2
  refine bodyPost_ret (v := .tuple #[.agg #[iv 0, iv 0, iv 0, iv 0, iv 0], .bool false]) (by simp [results, Try.results65, go_sem, d0, d1, d2, d3, d4]) rfl ⟨rfl, ?_⟩
  have HBX := hid (below_step H0.out HZ4.out)
  clear HX HZ4
  repeat (refine Below.setCell ?_ (by simp) _)
  exact HBX.out

set_option maxHeartbeats 4000000 in
theorem implMakeStamp_any_yes {B : Nat} {ks ls : List (List Int)} {v u : Value} (a0 a1 a2 a3 a4 : Int) (w : World) (h : Sl B w 5 v ks) (g : Sl B w 3 u ls) (hB : B ≤ w.heap.size) (i : Nat) (hi : i < ls.length) (hf : findI 0 a0 ls = (i : Int)) (ht : 0 ≤ a1) (ht2 : timeB a2 = true) (k : Nat) (hk : k < ks.length) (hf2 : findI 0 (fld ls i 1) ks = (k : Int)) :
    Calls Try.prog 65 #[v, u, .agg #[iv a0, iv a1, iv a2, iv a3, iv a4]] w (Ret (.tuple #[.agg #[iv a0, iv a1, iv a2, iv a3, iv (markW (fld ks k 2) (fld ks k 4) [103, a0, a1, a2, a3])], .bool true]) w) := by
  obtain ⟨m, hm⟩ : ∃ m : Int, m = (markW (fld ks k 2) (fld ks k 4) [103, a0, a1, a2, a3]) := ⟨_, rfl⟩
  rw [← hm]
  have HM := hid hm
  clear hm
  have HX : Below ((w.alloc (.cells #[iv a0, iv a1, iv a2, iv a3, iv a4] 101)).alloc (.cells #[iv 0, iv 0, iv 0, iv 0, iv 0] 101)).heap.size ((w.alloc (.cells #[iv a0, iv a1, iv a2, iv a3, iv a4] 101)).alloc (.cells #[iv 0, iv 0, iv 0, iv 0, iv 0] 101)) ((w.alloc (.cells #[iv a0, iv a1, iv a2, iv a3, iv a4] 101)).alloc (.cells #[iv 0, iv 0, iv 0, iv 0, iv 0] 101)) := Below.refl _ _
  have h0 : Below w.heap.size w ((w.alloc (.cells #[iv a0, iv a1, iv a2, iv a3, iv a4] 101)).alloc (.cells #[iv 0, iv 0, iv 0, iv 0, iv 0] 101)) := (below_alloc _ _).alloc (by simp) _
  have hB1 : B ≤ ((w.alloc (.cells #[iv a0, iv a1, iv a2, iv a3, iv a4] 101)).alloc (.cells #[iv 0, iv 0, iv 0, iv 0, iv 0] 101)).heap.size := by simp; omega
  have h1 : Sl B ((w.alloc (.cells #[iv a0, iv a1, iv a2, iv a3, iv a4] 101)).alloc (.cells #[iv 0, iv 0, iv 0, iv 0, iv 0] 101)) 5 v ks := h.below h0 hB
  obtain ⟨Al, cl, rfl, hq1, hq2, -, hcell⟩ := id g
  obtain ⟨b, off, rfl, hbB, hcc⟩ := hcell (by omega)
  have l1 := hcc i 1 hi (by omega)
  have hi0 : (0 : Int) ≤ (i : Int) := Int.natCast_nonneg _
  have hi1 : (i : Int) < (ls.length : Int) := by omega
  have g1 := g.below h0 hB
  have H0 := hid h0
  have HS : Hid (∀ w' : World, Below ((w.alloc (.cells #[iv a0, iv a1, iv a2, iv a3, iv a4] 101)).alloc (.cells #[iv 0, iv 0, iv 0, iv 0, iv 0] 101)).heap.size ((w.alloc (.cells #[iv a0, iv a1, iv a2, iv a3, iv a4] 101)).alloc (.cells #[iv 0, iv 0, iv 0, iv 0, iv 0] 101)) w' → (w'.cell? ⟨w.heap.size, 0, none⟩ = some (iv a0) ∧ w'.cell? ⟨w.heap.size, 1, none⟩ = some (iv a1) ∧ w'.cell? ⟨w.heap.size, 2, none⟩ = some (iv a2) ∧ w'.cell? ⟨w.heap.size, 3, none⟩ = some (iv a3) ∧ w'.cell? ⟨w.heap.size, 4, none⟩ = some (iv a4) ∧ w'.cell? ⟨b, off + i * 3 + 1, none⟩ = some (iv (fld ls i 1)) ∧ Below ((w.alloc (.cells #[iv a0, iv a1, iv a2, iv a3, iv a4] 101)).alloc (.cells #[iv 0, iv 0, iv 0, iv 0, iv 0] 101)).heap.size ((w.alloc (.cells #[iv a0, iv a1, iv a2, iv a3, iv a4] 101)).alloc (.cells #[iv 0, iv 0, iv 0, iv 0, iv 0] 101)) w')) := hid fun w' hx => ⟨(hx.cell (p := ⟨w.heap.size, 0, none⟩) (by simp; omega)).trans (by simp [go_sem]), (hx.cell (p := ⟨w.heap.size, 1, none⟩) (by simp; omega)).trans (by simp [go_sem]), (hx.cell (p := ⟨w.heap.size, 2, none⟩) (by simp; omega)).trans (by simp [go_sem]), (hx.cell (p := ⟨w.heap.size, 3, none⟩) (by simp; omega)).trans (by simp [go_sem]), (hx.cell (p := ⟨w.heap.size, 4, none⟩) (by simp; omega)).trans (by simp [go_sem]), cell_at (below_step H0.out hx) hbB hB l1, hx⟩
  have HV := hid h1
  have GV := hid g1
  have HBB := hid hB1
  clear hcc hcell l1
  clear h h1 hB1 h0 g g1
  have GF := hid hf
  clear hf
  have HT := hid ht2
  clear ht2
  have HF := hid hf2
  clear hf2
  go_enter Try.func65, Try.ntmps65
  go_wp2_with fail
  refine (implFindAuthority_any _ _ GV.out HBB.out).mono ?_
  rintro e w1 ⟨rfl, hb1⟩
  have HZ1 := hid (below_step HX hb1)
  rw [GF.out]
  clear hb1
  obtain ⟨c0, c1, c2, c3, c4, e1, -⟩ := HS.out _ HZ1.out
  go_wp2_with fail
  refine (implisTime_any _ _).mono ?_
  rintro e w2 ⟨rfl, hb2⟩
  have HZ2 := hid (below_step HZ1.out hb2)
  rw [HT.out]
  clear hb2 c0 c1 c2 c3 c4 e1
  obtain ⟨c0, c1, c2, c3, c4, e1, -⟩ := HS.out _ HZ2.out
  go_wp2_with fail
  clear c0 c1 c2 c3 c4 e1
  go_region_held3 (fun w' => w'.cell? ⟨w.heap.size, 0, none⟩ = some (iv a0) ∧ w'.cell? ⟨w.heap.size, 1, none⟩ = some (iv a1) ∧ w'.cell? ⟨w.heap.size, 2, none⟩ = some (iv a2) ∧ w'.cell? ⟨w.heap.size, 3, none⟩ = some (iv a3) ∧ w'.cell? ⟨w.heap.size, 4, none⟩ = some (iv a4) ∧ w'.cell? ⟨b, off + i * 3 + 1, none⟩ = some (iv (fld ls i 1)) ∧ Below ((w.alloc (.cells #[iv a0, iv a1, iv a2, iv a3, iv a4] 101)).alloc (.cells #[iv 0, iv 0, iv 0, iv 0, iv 0] 101)).heap.size ((w.alloc (.cells #[iv a0, iv a1, iv a2, iv a3, iv a4] 101)).alloc (.cells #[iv 0, iv 0, iv 0, iv 0, iv 0] 101)) w') (first | with_reducible exact HS.out _ HZ2.out | with_reducible exact HS.out _ HZ2.out.drew | with_reducible exact HS.out _ HZ3.out | with_reducible exact HS.out _ HZ4.out | go_keep)
    (first | (go_at_call 132; refine (implStampInts_any _ _ _ _ _ _).mono ?_; rintro e w3 ⟨v3, rfl, ho3, hb3⟩; have HZ3 := hid (below_step HZ2.out.drew hb3); have HO3 := hid ho3; clear hb3 ho3) | (go_at_call 114; refine (ret_cast (y := .tuple #[iv m, .bool true]) (by rw [HM.out]) (implmarkBy_yes _ _ ((HV.out.below HZ3.out HBB.out).mono (Nat.le_trans HBB.out HZ3.out.size)) (Own.si (zs := [103, a0, a1, a2, a3]) HO3.out) (Nat.le_refl _) (by simp) k hk HF.out)).mono ?_; rintro e w4 ⟨rfl, hb4⟩; have HZ4 := hid (below_step HZ3.out hb4); clear hb4))
  obtain ⟨c0, c1, c2, c3, c4, e1, -⟩ := HS.out _ HZ4.out
  have fz : w4.frozen? ⟨w.heap.size, 4, none⟩ = false := (HZ4.out.frozen (p := ⟨w.heap.size, 4, none⟩) (by simp; omega)).trans (by simp [go_sem])
  have d0 : w4.cell? ⟨w.heap.size + 1, 0, none⟩ = some (iv 0) := (HZ4.out.cell (p := ⟨w.heap.size + 1, 0, none⟩) (by simp)).trans (by simp [go_sem])
  have fd0 : w4.frozen? ⟨w.heap.size + 1, 0, none⟩ = false := (HZ4.out.frozen (p := ⟨w.heap.size + 1, 0, none⟩) (by simp)).trans (by simp [go_sem])
  have d1 : w4.cell? ⟨w.heap.size + 1, 1, none⟩ = some (iv 0) := (HZ4.out.cell (p := ⟨w.heap.size + 1, 1, none⟩) (by simp)).trans (by simp [go_sem])
  have fd1 : w4.frozen? ⟨w.heap.size + 1, 1, none⟩ = false := (HZ4.out.frozen (p := ⟨w.heap.size + 1, 1, none⟩) (by simp)).trans (by simp [go_sem])
  have d2 : w4.cell? ⟨w.heap.size + 1, 2, none⟩ = some (iv 0) := (HZ4.out.cell (p := ⟨w.heap.size + 1, 2, none⟩) (by simp)).trans (by simp [go_sem])
  have fd2 : w4.frozen? ⟨w.heap.size + 1, 2, none⟩ = false := (HZ4.out.frozen (p := ⟨w.heap.size + 1, 2, none⟩) (by simp)).trans (by simp [go_sem])
  have d3 : w4.cell? ⟨w.heap.size + 1, 3, none⟩ = some (iv 0) := (HZ4.out.cell (p := ⟨w.heap.size + 1, 3, none⟩) (by simp)).trans (by simp [go_sem])
  have fd3 : w4.frozen? ⟨w.heap.size + 1, 3, none⟩ = false := (HZ4.out.frozen (p := ⟨w.heap.size + 1, 3, none⟩) (by simp)).trans (by simp [go_sem])
  have d4 : w4.cell? ⟨w.heap.size + 1, 4, none⟩ = some (iv 0) := (HZ4.out.cell (p := ⟨w.heap.size + 1, 4, none⟩) (by simp)).trans (by simp [go_sem])
  have fd4 : w4.frozen? ⟨w.heap.size + 1, 4, none⟩ = false := (HZ4.out.frozen (p := ⟨w.heap.size + 1, 4, none⟩) (by simp)).trans (by simp [go_sem])
  go_wp2
  refine bodyPost_ret (v := .tuple #[.agg #[iv a0, iv a1, iv a2, iv a3, iv m], .bool true]) (by simp [results, Try.results65, go_sem, d0, d1, d2, d3, d4]) rfl ⟨rfl, ?_⟩
  have HBX := hid (below_step H0.out HZ4.out)
  clear HX HZ4
  repeat (refine Below.setCell ?_ (by simp) _)
  exact HBX.out

theorem implMakeStamp_any_no {B : Nat} {ks ls : List (List Int)} {v u : Value} (a0 a1 a2 a3 a4 : Int) (w : World) (h : Sl B w 5 v ks) (g : Sl B w 3 u ls) (hB : B ≤ w.heap.size) (hno : findI 0 a0 ls = -1 ∨ a1 < 0 ∨ timeB a2 = false ∨ ∃ i : Nat, findI 0 a0 ls = (i : Int) ∧ findI 0 (fld ls i 1) ks = -1) :
    Calls Try.prog 65 #[v, u, .agg #[iv a0, iv a1, iv a2, iv a3, iv a4]] w (Ret (.tuple #[.agg #[iv 0, iv 0, iv 0, iv 0, iv 0], .bool false]) w) := by
  rcases findI_range 0 a0 ls with hf | ⟨i, hi, hf, -⟩
  · exact implMakeStamp_any_n1 a0 a1 a2 a3 a4 w h g hB hf
  · by_cases h1 : a1 < 0
    · exact implMakeStamp_any_n2 a0 a1 a2 a3 a4 w h g hB i hi hf h1
    · cases h2 : timeB a2
      · exact implMakeStamp_any_n3 a0 a1 a2 a3 a4 w h g hB i hi hf (by omega) h2
      · rcases hno with q | q | q | ⟨i', q, q'⟩
        · exfalso; omega
        · exfalso; omega
        · rw [h2] at q; exact absurd q (by decide)
        · obtain rfl : i = i' := by omega
          exact implMakeStamp_any_n4 a0 a1 a2 a3 a4 w h g hB i hi hf (by omega) h2 q'
set_option maxHeartbeats 4000000 in
theorem specMakeStamp_any_n1 {B : Nat} {ks ls : List (List Int)} {v u : Value} (a0 a1 a2 a3 a4 : Int) (w : World) (h : Sl B w 5 v ks) (g : Sl B w 3 u ls) (hB : B ≤ w.heap.size) (hf : findI 0 a0 ls = -1) :
    Calls Try.prog 66 #[v, u, .agg #[iv a0, iv a1, iv a2, iv a3, iv a4]] w (Ret (.tuple #[.agg #[iv 0, iv 0, iv 0, iv 0, iv 0], .bool false]) w) := by
  have HX : Below ((w.alloc (.cells #[iv a0, iv a1, iv a2, iv a3, iv a4] 101)).alloc (.cells #[iv 0, iv 0, iv 0, iv 0, iv 0] 101)).heap.size ((w.alloc (.cells #[iv a0, iv a1, iv a2, iv a3, iv a4] 101)).alloc (.cells #[iv 0, iv 0, iv 0, iv 0, iv 0] 101)) ((w.alloc (.cells #[iv a0, iv a1, iv a2, iv a3, iv a4] 101)).alloc (.cells #[iv 0, iv 0, iv 0, iv 0, iv 0] 101)) := Below.refl _ _
  have h0 : Below w.heap.size w ((w.alloc (.cells #[iv a0, iv a1, iv a2, iv a3, iv a4] 101)).alloc (.cells #[iv 0, iv 0, iv 0, iv 0, iv 0] 101)) := (below_alloc _ _).alloc (by simp) _
  have hB1 : B ≤ ((w.alloc (.cells #[iv a0, iv a1, iv a2, iv a3, iv a4] 101)).alloc (.cells #[iv 0, iv 0, iv 0, iv 0, iv 0] 101)).heap.size := by simp; omega
  have h1 : Sl B ((w.alloc (.cells #[iv a0, iv a1, iv a2, iv a3, iv a4] 101)).alloc (.cells #[iv 0, iv 0, iv 0, iv 0, iv 0] 101)) 5 v ks := h.below h0 hB
  have g1 := g.below h0 hB
  have H0 := hid h0
  have HS : Hid (∀ w' : World, Below ((w.alloc (.cells #[iv a0, iv a1, iv a2, iv a3, iv a4] 101)).alloc (.cells #[iv 0, iv 0, iv 0, iv 0, iv 0] 101)).heap.size ((w.alloc (.cells #[iv a0, iv a1, iv a2, iv a3, iv a4] 101)).alloc (.cells #[iv 0, iv 0, iv 0, iv 0, iv 0] 101)) w' → (w'.cell? ⟨w.heap.size, 0, none⟩ = some (iv a0) ∧ w'.cell? ⟨w.heap.size, 1, none⟩ = some (iv a1) ∧ w'.cell? ⟨w.heap.size, 2, none⟩ = some (iv a2) ∧ w'.cell? ⟨w.heap.size, 3, none⟩ = some (iv a3) ∧ w'.cell? ⟨w.heap.size, 4, none⟩ = some (iv a4) ∧ Below ((w.alloc (.cells #[iv a0, iv a1, iv a2, iv a3, iv a4] 101)).alloc (.cells #[iv 0, iv 0, iv 0, iv 0, iv 0] 101)).heap.size ((w.alloc (.cells #[iv a0, iv a1, iv a2, iv a3, iv a4] 101)).alloc (.cells #[iv 0, iv 0, iv 0, iv 0, iv 0] 101)) w')) := hid fun w' hx => ⟨(hx.cell (p := ⟨w.heap.size, 0, none⟩) (by simp; omega)).trans (by simp [go_sem]), (hx.cell (p := ⟨w.heap.size, 1, none⟩) (by simp; omega)).trans (by simp [go_sem]), (hx.cell (p := ⟨w.heap.size, 2, none⟩) (by simp; omega)).trans (by simp [go_sem]), (hx.cell (p := ⟨w.heap.size, 3, none⟩) (by simp; omega)).trans (by simp [go_sem]), (hx.cell (p := ⟨w.heap.size, 4, none⟩) (by simp; omega)).trans (by simp [go_sem]), hx⟩
  have HV := hid h1
  have GV := hid g1
  have HBB := hid hB1
  clear h h1 hB1 h0 g g1
  have GF := hid hf
  clear hf
  go_enter Try.func66, Try.ntmps66
  go_wp2_with fail
  refine (specFindAuthority_any _ _ GV.out HBB.out).mono ?_
  rintro e w1 ⟨rfl, hb1⟩
  have HZ1 := hid (below_step HX hb1)
  rw [GF.out]
  clear hb1
  obtain ⟨c0, c1, c2, c3, c4, -⟩ := HS.out _ HZ1.out
  have fz : w1.frozen? ⟨w.heap.size, 4, none⟩ = false := (HZ1.out.frozen (p := ⟨w.heap.size, 4, none⟩) (by simp; omega)).trans (by simp [go_sem])
  have d0 : w1.cell? ⟨w.heap.size + 1, 0, none⟩ = some (iv 0) := (HZ1.out.cell (p := ⟨w.heap.size + 1, 0, none⟩) (by simp)).trans (by simp [go_sem])
  have fd0 : w1.frozen? ⟨w.heap.size + 1, 0, none⟩ = false := (HZ1.out.frozen (p := ⟨w.heap.size + 1, 0, none⟩) (by simp)).trans (by simp [go_sem])
  have d1 : w1.cell? ⟨w.heap.size + 1, 1, none⟩ = some (iv 0) := (HZ1.out.cell (p := ⟨w.heap.size + 1, 1, none⟩) (by simp)).trans (by simp [go_sem])
  have fd1 : w1.frozen? ⟨w.heap.size + 1, 1, none⟩ = false := (HZ1.out.frozen (p := ⟨w.heap.size + 1, 1, none⟩) (by simp)).trans (by simp [go_sem])
  have d2 : w1.cell? ⟨w.heap.size + 1, 2, none⟩ = some (iv 0) := (HZ1.out.cell (p := ⟨w.heap.size + 1, 2, none⟩) (by simp)).trans (by simp [go_sem])
  have fd2 : w1.frozen? ⟨w.heap.size + 1, 2, none⟩ = false := (HZ1.out.frozen (p := ⟨w.heap.size + 1, 2, none⟩) (by simp)).trans (by simp [go_sem])
  have d3 : w1.cell? ⟨w.heap.size + 1, 3, none⟩ = some (iv 0) := (HZ1.out.cell (p := ⟨w.heap.size + 1, 3, none⟩) (by simp)).trans (by simp [go_sem])
  have fd3 : w1.frozen? ⟨w.heap.size + 1, 3, none⟩ = false := (HZ1.out.frozen (p := ⟨w.heap.size + 1, 3, none⟩) (by simp)).trans (by simp [go_sem])
  have d4 : w1.cell? ⟨w.heap.size + 1, 4, none⟩ = some (iv 0) := (HZ1.out.cell (p := ⟨w.heap.size + 1, 4, none⟩) (by simp)).trans (by simp [go_sem])
  have fd4 : w1.frozen? ⟨w.heap.size + 1, 4, none⟩ = false := (HZ1.out.frozen (p := ⟨w.heap.size + 1, 4, none⟩) (by simp)).trans (by simp [go_sem])
  go_wp2
  refine bodyPost_ret (v := .tuple #[.agg #[iv 0, iv 0, iv 0, iv 0, iv 0], .bool false]) (by simp [results, Try.results66, go_sem, d0, d1, d2, d3, d4]) rfl ⟨rfl, ?_⟩
  have HBX := hid (below_step H0.out HZ1.out)
  clear HX HZ1
  repeat (refine Below.setCell ?_ (by simp) _)
  exact HBX.out

set_option maxHeartbeats 4000000 in
theorem specMakeStamp_any_n2 {B : Nat} {ks ls : List (List Int)} {v u : Value} (a0 a1 a2 a3 a4 : Int) (w : World) (h : Sl B w 5 v ks) (g : Sl B w 3 u ls) (hB : B ≤ w.heap.size) (i : Nat) (hi : i < ls.length) (hf : findI 0 a0 ls = (i : Int)) (ht : a1 < 0) :
    Calls Try.prog 66 #[v, u, .agg #[iv a0, iv a1, iv a2, iv a3, iv a4]] w (Ret (.tuple #[.agg #[iv 0, iv 0, iv 0, iv 0, iv 0], .bool false]) w) := by
  have HX : Below ((w.alloc (.cells #[iv a0, iv a1, iv a2, iv a3, iv a4] 101)).alloc (.cells #[iv 0, iv 0, iv 0, iv 0, iv 0] 101)).heap.size ((w.alloc (.cells #[iv a0, iv a1, iv a2, iv a3, iv a4] 101)).alloc (.cells #[iv 0, iv 0, iv 0, iv 0, iv 0] 101)) ((w.alloc (.cells #[iv a0, iv a1, iv a2, iv a3, iv a4] 101)).alloc (.cells #[iv 0, iv 0, iv 0, iv 0, iv 0] 101)) := Below.refl _ _
  have h0 : Below w.heap.size w ((w.alloc (.cells #[iv a0, iv a1, iv a2, iv a3, iv a4] 101)).alloc (.cells #[iv 0, iv 0, iv 0, iv 0, iv 0] 101)) := (below_alloc _ _).alloc (by simp) _
  have hB1 : B ≤ ((w.alloc (.cells #[iv a0, iv a1, iv a2, iv a3, iv a4] 101)).alloc (.cells #[iv 0, iv 0, iv 0, iv 0, iv 0] 101)).heap.size := by simp; omega
  have h1 : Sl B ((w.alloc (.cells #[iv a0, iv a1, iv a2, iv a3, iv a4] 101)).alloc (.cells #[iv 0, iv 0, iv 0, iv 0, iv 0] 101)) 5 v ks := h.below h0 hB
  obtain ⟨Al, cl, rfl, hq1, hq2, -, hcell⟩ := id g
  obtain ⟨b, off, rfl, hbB, hcc⟩ := hcell (by omega)
  have l1 := hcc i 1 hi (by omega)
  have hi0 : (0 : Int) ≤ (i : Int) := Int.natCast_nonneg _
  have hi1 : (i : Int) < (ls.length : Int) := by omega
  have g1 := g.below h0 hB
  have H0 := hid h0
  have HS : Hid (∀ w' : World, Below ((w.alloc (.cells #[iv a0, iv a1, iv a2, iv a3, iv a4] 101)).alloc (.cells #[iv 0, iv 0, iv 0, iv 0, iv 0] 101)).heap.size ((w.alloc (.cells #[iv a0, iv a1, iv a2, iv a3, iv a4] 101)).alloc (.cells #[iv 0, iv 0, iv 0, iv 0, iv 0] 101)) w' → (w'.cell? ⟨w.heap.size, 0, none⟩ = some (iv a0) ∧ w'.cell? ⟨w.heap.size, 1, none⟩ = some (iv a1) ∧ w'.cell? ⟨w.heap.size, 2, none⟩ = some (iv a2) ∧ w'.cell? ⟨w.heap.size, 3, none⟩ = some (iv a3) ∧ w'.cell? ⟨w.heap.size, 4, none⟩ = some (iv a4) ∧ w'.cell? ⟨b, off + i * 3 + 1, none⟩ = some (iv (fld ls i 1)) ∧ Below ((w.alloc (.cells #[iv a0, iv a1, iv a2, iv a3, iv a4] 101)).alloc (.cells #[iv 0, iv 0, iv 0, iv 0, iv 0] 101)).heap.size ((w.alloc (.cells #[iv a0, iv a1, iv a2, iv a3, iv a4] 101)).alloc (.cells #[iv 0, iv 0, iv 0, iv 0, iv 0] 101)) w')) := hid fun w' hx => ⟨(hx.cell (p := ⟨w.heap.size, 0, none⟩) (by simp; omega)).trans (by simp [go_sem]), (hx.cell (p := ⟨w.heap.size, 1, none⟩) (by simp; omega)).trans (by simp [go_sem]), (hx.cell (p := ⟨w.heap.size, 2, none⟩) (by simp; omega)).trans (by simp [go_sem]), (hx.cell (p := ⟨w.heap.size, 3, none⟩) (by simp; omega)).trans (by simp [go_sem]), (hx.cell (p := ⟨w.heap.size, 4, none⟩) (by simp; omega)).trans (by simp [go_sem]), cell_at (below_step H0.out hx) hbB hB l1, hx⟩
  have HV := hid h1
  have GV := hid g1
  have HBB := hid hB1
  clear hcc hcell l1
  clear h h1 hB1 h0 g g1
  have GF := hid hf
  clear hf
  go_enter Try.func66, Try.ntmps66
  go_wp2_with fail
  refine (specFindAuthority_any _ _ GV.out HBB.out).mono ?_
  rintro e w1 ⟨rfl, hb1⟩
  have HZ1 := hid (below_step HX hb1)
  rw [GF.out]
  clear hb1
  obtain ⟨c0, c1, c2, c3, c4, e1, -⟩ := HS.out _ HZ1.out
  have fz : w1.frozen? ⟨w.heap.size, 4, none⟩ = false := (HZ1.out.frozen (p := ⟨w.heap.size, 4, none⟩) (by simp; omega)).trans (by simp [go_sem])
  have d0 : w1.cell? ⟨w.heap.size + 1, 0, none⟩ = some (iv 0) := (HZ1.out.cell (p := ⟨w.heap.size + 1, 0, none⟩) (by simp)).trans (by simp [go_sem])
  have fd0 : w1.frozen? ⟨w.heap.size + 1, 0, none⟩ = false := (HZ1.out.frozen (p := ⟨w.heap.size + 1, 0, none⟩) (by simp)).trans (by simp [go_sem])
  have d1 : w1.cell? ⟨w.heap.size + 1, 1, none⟩ = some (iv 0) := (HZ1.out.cell (p := ⟨w.heap.size + 1, 1, none⟩) (by simp)).trans (by simp [go_sem])
  have fd1 : w1.frozen? ⟨w.heap.size + 1, 1, none⟩ = false := (HZ1.out.frozen (p := ⟨w.heap.size + 1, 1, none⟩) (by simp)).trans (by simp [go_sem])
  have d2 : w1.cell? ⟨w.heap.size + 1, 2, none⟩ = some (iv 0) := (HZ1.out.cell (p := ⟨w.heap.size + 1, 2, none⟩) (by simp)).trans (by simp [go_sem])
  have fd2 : w1.frozen? ⟨w.heap.size + 1, 2, none⟩ = false := (HZ1.out.frozen (p := ⟨w.heap.size + 1, 2, none⟩) (by simp)).trans (by simp [go_sem])
  have d3 : w1.cell? ⟨w.heap.size + 1, 3, none⟩ = some (iv 0) := (HZ1.out.cell (p := ⟨w.heap.size + 1, 3, none⟩) (by simp)).trans (by simp [go_sem])
  have fd3 : w1.frozen? ⟨w.heap.size + 1, 3, none⟩ = false := (HZ1.out.frozen (p := ⟨w.heap.size + 1, 3, none⟩) (by simp)).trans (by simp [go_sem])
  have d4 : w1.cell? ⟨w.heap.size + 1, 4, none⟩ = some (iv 0) := (HZ1.out.cell (p := ⟨w.heap.size + 1, 4, none⟩) (by simp)).trans (by simp [go_sem])
  have fd4 : w1.frozen? ⟨w.heap.size + 1, 4, none⟩ = false := (HZ1.out.frozen (p := ⟨w.heap.size + 1, 4, none⟩) (by simp)).trans (by simp [go_sem])
  go_wp2
  refine bodyPost_ret (v := .tuple #[.agg #[iv 0, iv 0, iv 0, iv 0, iv 0], .bool false]) (by simp [results, Try.results66, go_sem, d0, d1, d2, d3, d4]) rfl ⟨rfl, ?_⟩
  have HBX := hid (below_step H0.out HZ1.out)
  clear HX HZ1
  repeat (refine Below.setCell ?_ (by simp) _)
  exact HBX.out

set_option maxHeartbeats 4000000 in
theorem specMakeStamp_any_n3 {B : Nat} {ks ls : List (List Int)} {v u : Value} (a0 a1 a2 a3 a4 : Int) (w : World) (h : Sl B w 5 v ks) (g : Sl B w 3 u ls) (hB : B ≤ w.heap.size) (i : Nat) (hi : i < ls.length) (hf : findI 0 a0 ls = (i : Int)) (ht : 0 ≤ a1) (ht2 : timeB a2 = false) :
    Calls Try.prog 66 #[v, u, .agg #[iv a0, iv a1, iv a2, iv a3, iv a4]] w (Ret (.tuple #[.agg #[iv 0, iv 0, iv 0, iv 0, iv 0], .bool false]) w) := by
  have HX : Below ((w.alloc (.cells #[iv a0, iv a1, iv a2, iv a3, iv a4] 101)).alloc (.cells #[iv 0, iv 0, iv 0, iv 0, iv 0] 101)).heap.size ((w.alloc (.cells #[iv a0, iv a1, iv a2, iv a3, iv a4] 101)).alloc (.cells #[iv 0, iv 0, iv 0, iv 0, iv 0] 101)) ((w.alloc (.cells #[iv a0, iv a1, iv a2, iv a3, iv a4] 101)).alloc (.cells #[iv 0, iv 0, iv 0, iv 0, iv 0] 101)) := Below.refl _ _
  have h0 : Below w.heap.size w ((w.alloc (.cells #[iv a0, iv a1, iv a2, iv a3, iv a4] 101)).alloc (.cells #[iv 0, iv 0, iv 0, iv 0, iv 0] 101)) := (below_alloc _ _).alloc (by simp) _
  have hB1 : B ≤ ((w.alloc (.cells #[iv a0, iv a1, iv a2, iv a3, iv a4] 101)).alloc (.cells #[iv 0, iv 0, iv 0, iv 0, iv 0] 101)).heap.size := by simp; omega
  have h1 : Sl B ((w.alloc (.cells #[iv a0, iv a1, iv a2, iv a3, iv a4] 101)).alloc (.cells #[iv 0, iv 0, iv 0, iv 0, iv 0] 101)) 5 v ks := h.below h0 hB
  obtain ⟨Al, cl, rfl, hq1, hq2, -, hcell⟩ := id g
  obtain ⟨b, off, rfl, hbB, hcc⟩ := hcell (by omega)
  have l1 := hcc i 1 hi (by omega)
  have hi0 : (0 : Int) ≤ (i : Int) := Int.natCast_nonneg _
  have hi1 : (i : Int) < (ls.length : Int) := by omega
  have g1 := g.below h0 hB
  have H0 := hid h0
  have HS : Hid (∀ w' : World, Below ((w.alloc (.cells #[iv a0, iv a1, iv a2, iv a3, iv a4] 101)).alloc (.cells #[iv 0, iv 0, iv 0, iv 0, iv 0] 101)).heap.size ((w.alloc (.cells #[iv a0, iv a1, iv a2, iv a3, iv a4] 101)).alloc (.cells #[iv 0, iv 0, iv 0, iv 0, iv 0] 101)) w' → (w'.cell? ⟨w.heap.size, 0, none⟩ = some (iv a0) ∧ w'.cell? ⟨w.heap.size, 1, none⟩ = some (iv a1) ∧ w'.cell? ⟨w.heap.size, 2, none⟩ = some (iv a2) ∧ w'.cell? ⟨w.heap.size, 3, none⟩ = some (iv a3) ∧ w'.cell? ⟨w.heap.size, 4, none⟩ = some (iv a4) ∧ w'.cell? ⟨b, off + i * 3 + 1, none⟩ = some (iv (fld ls i 1)) ∧ Below ((w.alloc (.cells #[iv a0, iv a1, iv a2, iv a3, iv a4] 101)).alloc (.cells #[iv 0, iv 0, iv 0, iv 0, iv 0] 101)).heap.size ((w.alloc (.cells #[iv a0, iv a1, iv a2, iv a3, iv a4] 101)).alloc (.cells #[iv 0, iv 0, iv 0, iv 0, iv 0] 101)) w')) := hid fun w' hx => ⟨(hx.cell (p := ⟨w.heap.size, 0, none⟩) (by simp; omega)).trans (by simp [go_sem]), (hx.cell (p := ⟨w.heap.size, 1, none⟩) (by simp; omega)).trans (by simp [go_sem]), (hx.cell (p := ⟨w.heap.size, 2, none⟩) (by simp; omega)).trans (by simp [go_sem]), (hx.cell (p := ⟨w.heap.size, 3, none⟩) (by simp; omega)).trans (by simp [go_sem]), (hx.cell (p := ⟨w.heap.size, 4, none⟩) (by simp; omega)).trans (by simp [go_sem]), cell_at (below_step H0.out hx) hbB hB l1, hx⟩
  have HV := hid h1
  have GV := hid g1
  have HBB := hid hB1
  clear hcc hcell l1
  clear h h1 hB1 h0 g g1
  have GF := hid hf
  clear hf
  have HT := hid ht2
  clear ht2
  go_enter Try.func66, Try.ntmps66
  go_wp2_with fail
  refine (specFindAuthority_any _ _ GV.out HBB.out).mono ?_
  rintro e w1 ⟨rfl, hb1⟩
  have HZ1 := hid (below_step HX hb1)
  rw [GF.out]
  clear hb1
  obtain ⟨c0, c1, c2, c3, c4, e1, -⟩ := HS.out _ HZ1.out
  go_wp2_with fail
  refine (specl4Time_any _ _).mono ?_
  rintro e w2 ⟨rfl, hb2⟩
  have HZ2 := hid (below_step HZ1.out hb2)
  rw [HT.out]
  clear hb2 c0 c1 c2 c3 c4 e1
  obtain ⟨c0, c1, c2, c3, c4, e1, -⟩ := HS.out _ HZ2.out
  have fz : w2.frozen? ⟨w.heap.size, 4, none⟩ = false := (HZ2.out.frozen (p := ⟨w.heap.size, 4, none⟩) (by simp; omega)).trans (by simp [go_sem])
  have d0 : w2.cell? ⟨w.heap.size + 1, 0, none⟩ = some (iv 0) := (HZ2.out.cell (p := ⟨w.heap.size + 1, 0, none⟩) (by simp)).trans (by simp [go_sem])
  have fd0 : w2.frozen? ⟨w.heap.size + 1, 0, none⟩ = false := (HZ2.out.frozen (p := ⟨w.heap.size + 1, 0, none⟩) (by simp)).trans (by simp [go_sem])
  have d1 : w2.cell? ⟨w.heap.size + 1, 1, none⟩ = some (iv 0) := (HZ2.out.cell (p := ⟨w.heap.size + 1, 1, none⟩) (by simp)).trans (by simp [go_sem])
  have fd1 : w2.frozen? ⟨w.heap.size + 1, 1, none⟩ = false := (HZ2.out.frozen (p := ⟨w.heap.size + 1, 1, none⟩) (by simp)).trans (by simp [go_sem])
  have d2 : w2.cell? ⟨w.heap.size + 1, 2, none⟩ = some (iv 0) := (HZ2.out.cell (p := ⟨w.heap.size + 1, 2, none⟩) (by simp)).trans (by simp [go_sem])
  have fd2 : w2.frozen? ⟨w.heap.size + 1, 2, none⟩ = false := (HZ2.out.frozen (p := ⟨w.heap.size + 1, 2, none⟩) (by simp)).trans (by simp [go_sem])
  have d3 : w2.cell? ⟨w.heap.size + 1, 3, none⟩ = some (iv 0) := (HZ2.out.cell (p := ⟨w.heap.size + 1, 3, none⟩) (by simp)).trans (by simp [go_sem])
  have fd3 : w2.frozen? ⟨w.heap.size + 1, 3, none⟩ = false := (HZ2.out.frozen (p := ⟨w.heap.size + 1, 3, none⟩) (by simp)).trans (by simp [go_sem])
  have d4 : w2.cell? ⟨w.heap.size + 1, 4, none⟩ = some (iv 0) := (HZ2.out.cell (p := ⟨w.heap.size + 1, 4, none⟩) (by simp)).trans (by simp [go_sem])
  have fd4 : w2.frozen? ⟨w.heap.size + 1, 4, none⟩ = false := (HZ2.out.frozen (p := ⟨w.heap.size + 1, 4, none⟩) (by simp)).trans (by simp [go_sem])
  go_wp2
  refine bodyPost_ret (v := .tuple #[.agg #[iv 0, iv 0, iv 0, iv 0, iv 0], .bool false]) (by simp [results, Try.results66, go_sem, d0, d1, d2, d3, d4]) rfl ⟨rfl, ?_⟩
  have HBX := hid (below_step H0.out HZ2.out)
  clear HX HZ2
  repeat (refine Below.setCell ?_ (by simp) _)
  exact HBX.out

set_option maxHeartbeats 4000000 in
theorem specMakeStamp_any_n4 {B : Nat} {ks ls : List (List Int)} {v u : Value} (a0 a1 a2 a3 a4 : Int) (w : World) (h : Sl B w 5 v ks) (g : Sl B w 3 u ls) (hB : B ≤ w.heap.size) (i : Nat) (hi : i < ls.length) (hf : findI 0 a0 ls = (i : Int)) (ht : 0 ≤ a1) (ht2 : timeB a2 = true) (hf2 : findI 0 (fld ls i 1) ks = -1) :
    Calls Try.prog 66 #[v, u, .agg #[iv a0, iv a1, iv a2, iv a3, iv a4]] w (Ret (.tuple #[.agg #[iv 0, iv 0, iv 0, iv 0, iv 0], .bool false]) w) := by
  have HX : Below ((w.alloc (.cells #[iv a0, iv a1, iv a2, iv a3, iv a4] 101)).alloc (.cells #[iv 0, iv 0, iv 0, iv 0, iv 0] 101)).heap.size ((w.alloc (.cells #[iv a0, iv a1, iv a2, iv a3, iv a4] 101)).alloc (.cells #[iv 0, iv 0, iv 0, iv 0, iv 0] 101)) ((w.alloc (.cells #[iv a0, iv a1, iv a2, iv a3, iv a4] 101)).alloc (.cells #[iv 0, iv 0, iv 0, iv 0, iv 0] 101)) := Below.refl _ _
  have h0 : Below w.heap.size w ((w.alloc (.cells #[iv a0, iv a1, iv a2, iv a3, iv a4] 101)).alloc (.cells #[iv 0, iv 0, iv 0, iv 0, iv 0] 101)) := (below_alloc _ _).alloc (by simp) _
  have hB1 : B ≤ ((w.alloc (.cells #[iv a0, iv a1, iv a2, iv a3, iv a4] 101)).alloc (.cells #[iv 0, iv 0, iv 0, iv 0, iv 0] 101)).heap.size := by simp; omega
  have h1 : Sl B ((w.alloc (.cells #[iv a0, iv a1, iv a2, iv a3, iv a4] 101)).alloc (.cells #[iv 0, iv 0, iv 0, iv 0, iv 0] 101)) 5 v ks := h.below h0 hB
  obtain ⟨Al, cl, rfl, hq1, hq2, -, hcell⟩ := id g
  obtain ⟨b, off, rfl, hbB, hcc⟩ := hcell (by omega)
  have l1 := hcc i 1 hi (by omega)
  have hi0 : (0 : Int) ≤ (i : Int) := Int.natCast_nonneg _
  have hi1 : (i : Int) < (ls.length : Int) := by omega
  have g1 := g.below h0 hB
  have H0 := hid h0
  have HS : Hid (∀ w' : World, Below ((w.alloc (.cells #[iv a0, iv a1, iv a2, iv a3, iv a4] 101)).alloc (.cells #[iv 0, iv 0, iv 0, iv 0, iv 0] 101)).heap.size ((w.alloc (.cells #[iv a0, iv a1, iv a2, iv a3, iv a4] 101)).alloc (.cells #[iv 0, iv 0, iv 0, iv 0, iv 0] 101)) w' → (w'.cell? ⟨w.heap.size, 0, none⟩ = some (iv a0) ∧ w'.cell? ⟨w.heap.size, 1, none⟩ = some (iv a1) ∧ w'.cell? ⟨w.heap.size, 2, none⟩ = some (iv a2) ∧ w'.cell? ⟨w.heap.size, 3, none⟩ = some (iv a3) ∧ w'.cell? ⟨w.heap.size, 4, none⟩ = some (iv a4) ∧ w'.cell? ⟨b, off + i * 3 + 1, none⟩ = some (iv (fld ls i 1)) ∧ Below ((w.alloc (.cells #[iv a0, iv a1, iv a2, iv a3, iv a4] 101)).alloc (.cells #[iv 0, iv 0, iv 0, iv 0, iv 0] 101)).heap.size ((w.alloc (.cells #[iv a0, iv a1, iv a2, iv a3, iv a4] 101)).alloc (.cells #[iv 0, iv 0, iv 0, iv 0, iv 0] 101)) w')) := hid fun w' hx => ⟨(hx.cell (p := ⟨w.heap.size, 0, none⟩) (by simp; omega)).trans (by simp [go_sem]), (hx.cell (p := ⟨w.heap.size, 1, none⟩) (by simp; omega)).trans (by simp [go_sem]), (hx.cell (p := ⟨w.heap.size, 2, none⟩) (by simp; omega)).trans (by simp [go_sem]), (hx.cell (p := ⟨w.heap.size, 3, none⟩) (by simp; omega)).trans (by simp [go_sem]), (hx.cell (p := ⟨w.heap.size, 4, none⟩) (by simp; omega)).trans (by simp [go_sem]), cell_at (below_step H0.out hx) hbB hB l1, hx⟩
  have HV := hid h1
  have GV := hid g1
  have HBB := hid hB1
  clear hcc hcell l1
  clear h h1 hB1 h0 g g1
  have GF := hid hf
  clear hf
  have HT := hid ht2
  clear ht2
  have HF := hid hf2
  clear hf2
  go_enter Try.func66, Try.ntmps66
  go_wp2_with fail
  refine (specFindAuthority_any _ _ GV.out HBB.out).mono ?_
  rintro e w1 ⟨rfl, hb1⟩
  have HZ1 := hid (below_step HX hb1)
  rw [GF.out]
  clear hb1
  obtain ⟨c0, c1, c2, c3, c4, e1, -⟩ := HS.out _ HZ1.out
  go_wp2_with fail
  refine (specl4Time_any _ _).mono ?_
  rintro e w2 ⟨rfl, hb2⟩
  have HZ2 := hid (below_step HZ1.out hb2)
  rw [HT.out]
  clear hb2 c0 c1 c2 c3 c4 e1
  obtain ⟨c0, c1, c2, c3, c4, e1, -⟩ := HS.out _ HZ2.out
  go_wp2_with fail
  refine (specFindKey_any _ _ (HV.out.below HZ2.out HBB.out) (Nat.le_trans HBB.out HZ2.out.size)).mono ?_
  rintro e w3 ⟨rfl, hb3⟩
  have HZ3 := hid (below_step HZ2.out hb3)
  rw [HF.out]
  clear hb3 c0 c1 c2 c3 c4 e1
  obtain ⟨c0, c1, c2, c3, c4, e1, -⟩ := HS.out _ HZ3.out
  have fz : w3.frozen? ⟨w.heap.size, 4, none⟩ = false := (HZ3.out.frozen (p := ⟨w.heap.size, 4, none⟩) (by simp; omega)).trans (by simp [go_sem])
  have d0 : w3.cell? ⟨w.heap.size + 1, 0, none⟩ = some (iv 0) := (HZ3.out.cell (p := ⟨w.heap.size + 1, 0, none⟩) (by simp)).trans (by simp [go_sem])
  have fd0 : w3.frozen? ⟨w.heap.size + 1, 0, none⟩ = false := (HZ3.out.frozen (p := ⟨w.heap.size + 1, 0, none⟩) (by simp)).trans (by simp [go_sem])
  have d1 : w3.cell? ⟨w.heap.size + 1, 1, none⟩ = some (iv 0) := (HZ3.out.cell (p := ⟨w.heap.size + 1, 1, none⟩) (by simp)).trans (by simp [go_sem])
  have fd1 : w3.frozen? ⟨w.heap.size + 1, 1, none⟩ = false := (HZ3.out.frozen (p := ⟨w.heap.size + 1, 1, none⟩) (by simp)).trans (by simp [go_sem])
  have d2 : w3.cell? ⟨w.heap.size + 1, 2, none⟩ = some (iv 0) := (HZ3.out.cell (p := ⟨w.heap.size + 1, 2, none⟩) (by simp)).trans (by simp [go_sem])
  have fd2 : w3.frozen? ⟨w.heap.size + 1, 2, none⟩ = false := (HZ3.out.frozen (p := ⟨w.heap.size + 1, 2, none⟩) (by simp)).trans (by simp [go_sem])
  have d3 : w3.cell? ⟨w.heap.size + 1, 3, none⟩ = some (iv 0) := (HZ3.out.cell (p := ⟨w.heap.size + 1, 3, none⟩) (by simp)).trans (by simp [go_sem])
  have fd3 : w3.frozen? ⟨w.heap.size + 1, 3, none⟩ = false := (HZ3.out.frozen (p := ⟨w.heap.size + 1, 3, none⟩) (by simp)).trans (by simp [go_sem])
  have d4 : w3.cell? ⟨w.heap.size + 1, 4, none⟩ = some (iv 0) := (HZ3.out.cell (p := ⟨w.heap.size + 1, 4, none⟩) (by simp)).trans (by simp [go_sem])
  have fd4 : w3.frozen? ⟨w.heap.size + 1, 4, none⟩ = false := (HZ3.out.frozen (p := ⟨w.heap.size + 1, 4, none⟩) (by simp)).trans (by simp [go_sem])
  go_wp2
  refine bodyPost_ret (v := .tuple #[.agg #[iv 0, iv 0, iv 0, iv 0, iv 0], .bool false]) (by simp [results, Try.results66, go_sem, d0, d1, d2, d3, d4]) rfl ⟨rfl, ?_⟩
  have HBX := hid (below_step H0.out HZ3.out)
  clear HX HZ3
  repeat (refine Below.setCell ?_ (by simp) _)
  exact HBX.out

set_option maxHeartbeats 4000000 in
theorem specMakeStamp_any_yes {B : Nat} {ks ls : List (List Int)} {v u : Value} (a0 a1 a2 a3 a4 : Int) (w : World) (h : Sl B w 5 v ks) (g : Sl B w 3 u ls) (hB : B ≤ w.heap.size) (i : Nat) (hi : i < ls.length) (hf : findI 0 a0 ls = (i : Int)) (ht : 0 ≤ a1) (ht2 : timeB a2 = true) (k : Nat) (hk : k < ks.length) (hf2 : findI 0 (fld ls i 1) ks = (k : Int)) :
    Calls Try.prog 66 #[v, u, .agg #[iv a0, iv a1, iv a2, iv a3, iv a4]] w (Ret (.tuple #[.agg #[iv a0, iv a1, iv a2, iv a3, iv (markW (fld ks k 2) (fld ks k 4) [103, a0, a1, a2, a3])], .bool true]) w) := by
  obtain ⟨m, hm⟩ : ∃ m : Int, m = (markW (fld ks k 2) (fld ks k 4) [103, a0, a1, a2, a3]) := ⟨_, rfl⟩
  rw [← hm]
  have HM := hid hm
  clear hm
  have HX : Below ((w.alloc (.cells #[iv a0, iv a1, iv a2, iv a3, iv a4] 101)).alloc (.cells #[iv 0, iv 0, iv 0, iv 0, iv 0] 101)).heap.size ((w.alloc (.cells #[iv a0, iv a1, iv a2, iv a3, iv a4] 101)).alloc (.cells #[iv 0, iv 0, iv 0, iv 0, iv 0] 101)) ((w.alloc (.cells #[iv a0, iv a1, iv a2, iv a3, iv a4] 101)).alloc (.cells #[iv 0, iv 0, iv 0, iv 0, iv 0] 101)) := Below.refl _ _
  have h0 : Below w.heap.size w ((w.alloc (.cells #[iv a0, iv a1, iv a2, iv a3, iv a4] 101)).alloc (.cells #[iv 0, iv 0, iv 0, iv 0, iv 0] 101)) := (below_alloc _ _).alloc (by simp) _
  have hB1 : B ≤ ((w.alloc (.cells #[iv a0, iv a1, iv a2, iv a3, iv a4] 101)).alloc (.cells #[iv 0, iv 0, iv 0, iv 0, iv 0] 101)).heap.size := by simp; omega
  have h1 : Sl B ((w.alloc (.cells #[iv a0, iv a1, iv a2, iv a3, iv a4] 101)).alloc (.cells #[iv 0, iv 0, iv 0, iv 0, iv 0] 101)) 5 v ks := h.below h0 hB
  obtain ⟨Al, cl, rfl, hq1, hq2, -, hcell⟩ := id g
  obtain ⟨b, off, rfl, hbB, hcc⟩ := hcell (by omega)
  have l1 := hcc i 1 hi (by omega)
  have hi0 : (0 : Int) ≤ (i : Int) := Int.natCast_nonneg _
  have hi1 : (i : Int) < (ls.length : Int) := by omega
  have g1 := g.below h0 hB
  have H0 := hid h0
  have HS : Hid (∀ w' : World, Below ((w.alloc (.cells #[iv a0, iv a1, iv a2, iv a3, iv a4] 101)).alloc (.cells #[iv 0, iv 0, iv 0, iv 0, iv 0] 101)).heap.size ((w.alloc (.cells #[iv a0, iv a1, iv a2, iv a3, iv a4] 101)).alloc (.cells #[iv 0, iv 0, iv 0, iv 0, iv 0] 101)) w' → (w'.cell? ⟨w.heap.size, 0, none⟩ = some (iv a0) ∧ w'.cell? ⟨w.heap.size, 1, none⟩ = some (iv a1) ∧ w'.cell? ⟨w.heap.size, 2, none⟩ = some (iv a2) ∧ w'.cell? ⟨w.heap.size, 3, none⟩ = some (iv a3) ∧ w'.cell? ⟨w.heap.size, 4, none⟩ = some (iv a4) ∧ w'.cell? ⟨b, off + i * 3 + 1, none⟩ = some (iv (fld ls i 1)) ∧ Below ((w.alloc (.cells #[iv a0, iv a1, iv a2, iv a3, iv a4] 101)).alloc (.cells #[iv 0, iv 0, iv 0, iv 0, iv 0] 101)).heap.size ((w.alloc (.cells #[iv a0, iv a1, iv a2, iv a3, iv a4] 101)).alloc (.cells #[iv 0, iv 0, iv 0, iv 0, iv 0] 101)) w')) := hid fun w' hx => ⟨(hx.cell (p := ⟨w.heap.size, 0, none⟩) (by simp; omega)).trans (by simp [go_sem]), (hx.cell (p := ⟨w.heap.size, 1, none⟩) (by simp; omega)).trans (by simp [go_sem]), (hx.cell (p := ⟨w.heap.size, 2, none⟩) (by simp; omega)).trans (by simp [go_sem]), (hx.cell (p := ⟨w.heap.size, 3, none⟩) (by simp; omega)).trans (by simp [go_sem]), (hx.cell (p := ⟨w.heap.size, 4, none⟩) (by simp; omega)).trans (by simp [go_sem]), cell_at (below_step H0.out hx) hbB hB l1, hx⟩
  have HV := hid h1
  have GV := hid g1
  have HBB := hid hB1
  clear hcc hcell l1
  clear h h1 hB1 h0 g g1
  have GF := hid hf
  clear hf
  have HT := hid ht2
  clear ht2
  have HF := hid hf2
  clear hf2
  go_enter Try.func66, Try.ntmps66
  go_wp2_with fail
  refine (specFindAuthority_any _ _ GV.out HBB.out).mono ?_
  rintro e w1 ⟨rfl, hb1⟩
  have HZ1 := hid (below_step HX hb1)
  rw [GF.out]
  clear hb1
  obtain ⟨c0, c1, c2, c3, c4, e1, -⟩ := HS.out _ HZ1.out
  go_wp2_with fail
  refine (specl4Time_any _ _).mono ?_
  rintro e w2 ⟨rfl, hb2⟩
  have HZ2 := hid (below_step HZ1.out hb2)
  rw [HT.out]
  clear hb2 c0 c1 c2 c3 c4 e1
  obtain ⟨c0, c1, c2, c3, c4, e1, -⟩ := HS.out _ HZ2.out
  go_wp2_with fail
  refine (specFindKey_any _ _ (HV.out.below HZ2.out HBB.out) (Nat.le_trans HBB.out HZ2.out.size)).mono ?_
  rintro e w3 ⟨rfl, hb3⟩
  have HZ3 := hid (below_step HZ2.out hb3)
  rw [HF.out]
  clear hb3 c0 c1 c2 c3 c4 e1
  obtain ⟨c0, c1, c2, c3, c4, e1, -⟩ := HS.out _ HZ3.out
  have fz : w3.frozen? ⟨w.heap.size, 4, none⟩ = false := (HZ3.out.frozen (p := ⟨w.heap.size, 4, none⟩) (by simp; omega)).trans (by simp [go_sem])
  have d0 : w3.cell? ⟨w.heap.size + 1, 0, none⟩ = some (iv 0) := (HZ3.out.cell (p := ⟨w.heap.size + 1, 0, none⟩) (by simp)).trans (by simp [go_sem])
  have fd0 : w3.frozen? ⟨w.heap.size + 1, 0, none⟩ = false := (HZ3.out.frozen (p := ⟨w.heap.size + 1, 0, none⟩) (by simp)).trans (by simp [go_sem])
  have d1 : w3.cell? ⟨w.heap.size + 1, 1, none⟩ = some (iv 0) := (HZ3.out.cell (p := ⟨w.heap.size + 1, 1, none⟩) (by simp)).trans (by simp [go_sem])
  have fd1 : w3.frozen? ⟨w.heap.size + 1, 1, none⟩ = false := (HZ3.out.frozen (p := ⟨w.heap.size + 1, 1, none⟩) (by simp)).trans (by simp [go_sem])
  have d2 : w3.cell? ⟨w.heap.size + 1, 2, none⟩ = some (iv 0) := (HZ3.out.cell (p := ⟨w.heap.size + 1, 2, none⟩) (by simp)).trans (by simp [go_sem])
  have fd2 : w3.frozen? ⟨w.heap.size + 1, 2, none⟩ = false := (HZ3.out.frozen (p := ⟨w.heap.size + 1, 2, none⟩) (by simp)).trans (by simp [go_sem])
  have d3 : w3.cell? ⟨w.heap.size + 1, 3, none⟩ = some (iv 0) := (HZ3.out.cell (p := ⟨w.heap.size + 1, 3, none⟩) (by simp)).trans (by simp [go_sem])
  have fd3 : w3.frozen? ⟨w.heap.size + 1, 3, none⟩ = false := (HZ3.out.frozen (p := ⟨w.heap.size + 1, 3, none⟩) (by simp)).trans (by simp [go_sem])
  have d4 : w3.cell? ⟨w.heap.size + 1, 4, none⟩ = some (iv 0) := (HZ3.out.cell (p := ⟨w.heap.size + 1, 4, none⟩) (by simp)).trans (by simp [go_sem])
  have fd4 : w3.frozen? ⟨w.heap.size + 1, 4, none⟩ = false := (HZ3.out.frozen (p := ⟨w.heap.size + 1, 4, none⟩) (by simp)).trans (by simp [go_sem])
  obtain ⟨A, c, rfl, hca, hcb, -, hcell⟩ := HV.out.below HZ3.out HBB.out
  obtain ⟨b5, off5, rfl, hbB5, hcc⟩ := hcell (by omega)
  have k0 := hcc k 0 hk (by omega)
  have k1 := hcc k 1 hk (by omega)
  have k2 := hcc k 2 hk (by omega)
  have k3 := hcc k 3 hk (by omega)
  have k4 := hcc k 4 hk (by omega)
  rw [Nat.add_zero] at k0
  have hbl : b5 < w3.heap.size := by have := HBB.out; have := HZ3.out.size; omega
  have hwl : w.heap.size < w3.heap.size := by have := HZ3.out.size; simp at this; omega
  clear hcc hcell
  go_wp2_with fail
  go_region_with (first | (go_at_call 135; refine (specStampInts_any _ _ _ _ _ _).mono ?_; rintro e w5 ⟨v5, rfl, ho5, hb5⟩; have HO5 := hid ho5; have HZ5 := hid hb5; have kk0 := (hb5.cell (p := ⟨b5, off5 + k * 5, none⟩) (by simpa using hbl)).trans k0; have kk1 := (hb5.cell (p := ⟨b5, off5 + k * 5 + 1, none⟩) (by simpa using hbl)).trans k1; have kk2 := (hb5.cell (p := ⟨b5, off5 + k * 5 + 2, none⟩) (by simpa using hbl)).trans k2; have kk3 := (hb5.cell (p := ⟨b5, off5 + k * 5 + 3, none⟩) (by simpa using hbl)).trans k3; have kk4 := (hb5.cell (p := ⟨b5, off5 + k * 5 + 4, none⟩) (by simpa using hbl)).trans k4; obtain ⟨p0, p1, p2, p3, p4, p5, -⟩ := HS.out _ (below_step HZ3.out.drew hb5); clear hb5 ho5) | (go_at_call 113; refine (ret_cast (y := iv m) (by rw [HM.out]) (specMarkWith_any _ _ _ _ _ _ (Own.si (zs := [103, a0, a1, a2, a3]) HO5.out) (Nat.le_refl _) (by simp))).mono ?_; rintro e w6 ⟨rfl, hb6⟩; have HZ7 := hid (below_step HZ3.out.drew (below_step HZ5.out hb6)); clear hb6; obtain ⟨c0, c1, c2, c3, c4, e1, -⟩ := HS.out _ HZ7.out; have fz : w6.frozen? ⟨w.heap.size, 4, none⟩ = false := (HZ7.out.frozen (p := ⟨w.heap.size, 4, none⟩) (by simp; omega)).trans (by simp [go_sem]); have d0 : w6.cell? ⟨w.heap.size + 1, 0, none⟩ = some (iv 0) := (HZ7.out.cell (p := ⟨w.heap.size + 1, 0, none⟩) (by simp)).trans (by simp [go_sem]); have fd0 : w6.frozen? ⟨w.heap.size + 1, 0, none⟩ = false := (HZ7.out.frozen (p := ⟨w.heap.size + 1, 0, none⟩) (by simp)).trans (by simp [go_sem]); have d1 : w6.cell? ⟨w.heap.size + 1, 1, none⟩ = some (iv 0) := (HZ7.out.cell (p := ⟨w.heap.size + 1, 1, none⟩) (by simp)).trans (by simp [go_sem]); have fd1 : w6.frozen? ⟨w.heap.size + 1, 1, none⟩ = false := (HZ7.out.frozen (p := ⟨w.heap.size + 1, 1, none⟩) (by simp)).trans (by simp [go_sem]); have d2 : w6.cell? ⟨w.heap.size + 1, 2, none⟩ = some (iv 0) := (HZ7.out.cell (p := ⟨w.heap.size + 1, 2, none⟩) (by simp)).trans (by simp [go_sem]); have fd2 : w6.frozen? ⟨w.heap.size + 1, 2, none⟩ = false := (HZ7.out.frozen (p := ⟨w.heap.size + 1, 2, none⟩) (by simp)).trans (by simp [go_sem]); have d3 : w6.cell? ⟨w.heap.size + 1, 3, none⟩ = some (iv 0) := (HZ7.out.cell (p := ⟨w.heap.size + 1, 3, none⟩) (by simp)).trans (by simp [go_sem]); have fd3 : w6.frozen? ⟨w.heap.size + 1, 3, none⟩ = false := (HZ7.out.frozen (p := ⟨w.heap.size + 1, 3, none⟩) (by simp)).trans (by simp [go_sem]); have d4 : w6.cell? ⟨w.heap.size + 1, 4, none⟩ = some (iv 0) := (HZ7.out.cell (p := ⟨w.heap.size + 1, 4, none⟩) (by simp)).trans (by simp [go_sem]); have fd4 : w6.frozen? ⟨w.heap.size + 1, 4, none⟩ = false := (HZ7.out.frozen (p := ⟨w.heap.size + 1, 4, none⟩) (by simp)).trans (by simp [go_sem])))
  all_goals
    go_wp2
    refine bodyPost_ret (v := .tuple #[.agg #[iv a0, iv a1, iv a2, iv a3, iv m], .bool true]) (by simp [results, Try.results66, go_sem, d0, d1, d2, d3, d4]) rfl ⟨rfl, ?_⟩
    have HBX := hid (below_step H0.out HZ7.out)
    clear HX HZ7
    repeat (refine Below.setCell ?_ (by simp) _)
    exact HBX.out

theorem specMakeStamp_any_no {B : Nat} {ks ls : List (List Int)} {v u : Value} (a0 a1 a2 a3 a4 : Int) (w : World) (h : Sl B w 5 v ks) (g : Sl B w 3 u ls) (hB : B ≤ w.heap.size) (hno : findI 0 a0 ls = -1 ∨ a1 < 0 ∨ timeB a2 = false ∨ ∃ i : Nat, findI 0 a0 ls = (i : Int) ∧ findI 0 (fld ls i 1) ks = -1) :
    Calls Try.prog 66 #[v, u, .agg #[iv a0, iv a1, iv a2, iv a3, iv a4]] w (Ret (.tuple #[.agg #[iv 0, iv 0, iv 0, iv 0, iv 0], .bool false]) w) := by
  rcases findI_range 0 a0 ls with hf | ⟨i, hi, hf, -⟩
  · exact specMakeStamp_any_n1 a0 a1 a2 a3 a4 w h g hB hf
  · by_cases h1 : a1 < 0
    · exact specMakeStamp_any_n2 a0 a1 a2 a3 a4 w h g hB i hi hf h1
    · cases h2 : timeB a2
      · exact specMakeStamp_any_n3 a0 a1 a2 a3 a4 w h g hB i hi hf (by omega) h2
      · rcases hno with q | q | q | ⟨i', q, q'⟩
        · exfalso; omega
        · exfalso; omega
        · rw [h2] at q; exact absurd q (by decide)
        · obtain rfl : i = i' := by omega
          exact specMakeStamp_any_n4 a0 a1 a2 a3 a4 w h g hB i hi hf (by omega) h2 q'
end Go.Proofs.Ytkdpfbodmfjkkaa
