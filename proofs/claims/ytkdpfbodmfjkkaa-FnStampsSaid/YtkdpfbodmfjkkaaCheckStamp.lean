/- CheckStamp of the program and of the reference: the value is valid and is the value made anew. No condition. -/
import Derived.Test.YtkdpfbodmfjkkaaRows
import Derived.Test.YtkdpfbodmfjkkaaPlain
import Derived.Test.YtkdpfbodmfjkkaaMakeStamp
namespace Go.Proofs.Ytkdpfbodmfjkkaa
open Go.RowKit


set_option maxHeartbeats 2000000 in
theorem implCheckStamp_any_yes {B : Nat} {ks ls : List (List Int)} {v u : Value} (a0 a1 a2 a3 a4 : Int) (w : World) (h : Sl B w 5 v ks) (g : Sl B w 3 u ls) (hB : B ≤ w.heap.size) (i : Nat) (hi : i < ls.length) (hf : findI 0 a0 ls = (i : Int)) (ht : 0 ≤ a1) (ht2 : timeB a2 = true) (k : Nat) (hk : k < ks.length) (hf2 : findI 0 (fld ls i 1) ks = (k : Int)) :
    Calls Try.prog 67 #[v, u, .agg #[iv a0, iv a1, iv a2, iv a3, iv a4]] w (Ret (.bool ((markW (fld ks k 2) (fld ks k 4) [103, a0, a1, a2, a3]) == a4)) w) := by
  obtain ⟨m, hm⟩ : ∃ m : Int, m = (markW (fld ks k 2) (fld ks k 4) [103, a0, a1, a2, a3]) := ⟨_, rfl⟩
  rw [← hm]
  have HM := hid hm
  clear hm
  have h0 : Below w.heap.size w (w.alloc (.cells #[iv a0, iv a1, iv a2, iv a3, iv a4] 101)) := below_alloc _ _
  have hB1 : B ≤ (w.alloc (.cells #[iv a0, iv a1, iv a2, iv a3, iv a4] 101)).heap.size := by simp; omega
  replace h := h.below h0 (by omega)
  replace g := g.below h0 (by omega)
  have HS : Hid (∀ w' : World, Below (w.alloc (.cells #[iv a0, iv a1, iv a2, iv a3, iv a4] 101)).heap.size (w.alloc (.cells #[iv a0, iv a1, iv a2, iv a3, iv a4] 101)) w' → (w'.cell? ⟨w.heap.size, 0, none⟩ = some (iv a0) ∧ w'.cell? ⟨w.heap.size, 1, none⟩ = some (iv a1) ∧ w'.cell? ⟨w.heap.size, 2, none⟩ = some (iv a2) ∧ w'.cell? ⟨w.heap.size, 3, none⟩ = some (iv a3) ∧ w'.cell? ⟨w.heap.size, 4, none⟩ = some (iv a4))) := hid fun w' hx => ⟨(hx.cell (p := ⟨w.heap.size, 0, none⟩) (by simp)).trans (by simp [go_sem]), (hx.cell (p := ⟨w.heap.size, 1, none⟩) (by simp)).trans (by simp [go_sem]), (hx.cell (p := ⟨w.heap.size, 2, none⟩) (by simp)).trans (by simp [go_sem]), (hx.cell (p := ⟨w.heap.size, 3, none⟩) (by simp)).trans (by simp [go_sem]), (hx.cell (p := ⟨w.heap.size, 4, none⟩) (by simp)).trans (by simp [go_sem])⟩
  have H0 := hid h0
  clear h0
  go_enter Try.func67, Try.ntmps67
  go_wp2_with fail
  refine (ret_cast (y := .tuple #[.agg #[iv a0, iv a1, iv a2, iv a3, iv m], .bool true]) (by rw [HM.out]) (implMakeStamp_any_yes _ _ _ _ _ _ h g hB1 i hi hf ht ht2 k hk hf2)).mono ?_
  rintro e w2 ⟨rfl, hb2⟩
  obtain ⟨c0, c1, c2, c3, c4⟩ := HS.out _ hb2
  have hwl : w.heap.size < w2.heap.size := by have := hb2.size; simp at this; omega
  have HB2 := hid (below_step H0.out hb2)
  clear hb2
  by_cases hme : m = a4
  · subst hme
    go_wp2
    go_ret
    exact ⟨ret_bool (by simp), HB2.out.alloc HB2.out.size _⟩
  · have hme' : ¬ a4 = m := fun q => hme q.symm
    go_wp2
    go_ret
    exact ⟨ret_bool (by simp [hme]), HB2.out.alloc HB2.out.size _⟩

set_option maxHeartbeats 2000000 in
theorem implCheckStamp_any_no {B : Nat} {ks ls : List (List Int)} {v u : Value} (a0 a1 a2 a3 a4 : Int) (w : World) (h : Sl B w 5 v ks) (g : Sl B w 3 u ls) (hB : B ≤ w.heap.size) (hno : findI 0 a0 ls = -1 ∨ a1 < 0 ∨ timeB a2 = false ∨ ∃ i : Nat, findI 0 a0 ls = (i : Int) ∧ findI 0 (fld ls i 1) ks = -1) :
    Calls Try.prog 67 #[v, u, .agg #[iv a0, iv a1, iv a2, iv a3, iv a4]] w (Ret (.bool false) w) := by
  have h0 : Below w.heap.size w (w.alloc (.cells #[iv a0, iv a1, iv a2, iv a3, iv a4] 101)) := below_alloc _ _
  have hB1 : B ≤ (w.alloc (.cells #[iv a0, iv a1, iv a2, iv a3, iv a4] 101)).heap.size := by simp; omega
  replace h := h.below h0 (by omega)
  replace g := g.below h0 (by omega)
  have HS : Hid (∀ w' : World, Below (w.alloc (.cells #[iv a0, iv a1, iv a2, iv a3, iv a4] 101)).heap.size (w.alloc (.cells #[iv a0, iv a1, iv a2, iv a3, iv a4] 101)) w' → (w'.cell? ⟨w.heap.size, 0, none⟩ = some (iv a0) ∧ w'.cell? ⟨w.heap.size, 1, none⟩ = some (iv a1) ∧ w'.cell? ⟨w.heap.size, 2, none⟩ = some (iv a2) ∧ w'.cell? ⟨w.heap.size, 3, none⟩ = some (iv a3) ∧ w'.cell? ⟨w.heap.size, 4, none⟩ = some (iv a4))) := hid fun w' hx => ⟨(hx.cell (p := ⟨w.heap.size, 0, none⟩) (by simp)).trans (by simp [go_sem]), (hx.cell (p := ⟨w.heap.size, 1, none⟩) (by simp)).trans (by simp [go_sem]), (hx.cell (p := ⟨w.heap.size, 2, none⟩) (by simp)).trans (by simp [go_sem]), (hx.cell (p := ⟨w.heap.size, 3, none⟩) (by simp)).trans (by simp [go_sem]), (hx.cell (p := ⟨w.heap.size, 4, none⟩) (by simp)).trans (by simp [go_sem])⟩
  have H0 := hid h0
  clear h0
  go_enter Try.func67, Try.ntmps67
  go_wp2_with fail
  refine (implMakeStamp_any_no _ _ _ _ _ _ h g hB1 hno).mono ?_
  rintro e w2 ⟨rfl, hb2⟩
  obtain ⟨c0, c1, c2, c3, c4⟩ := HS.out _ hb2
  have hwl : w.heap.size < w2.heap.size := by have := hb2.size; simp at this; omega
  have HB2 := hid (below_step H0.out hb2)
  clear hb2
  go_wp2
  go_ret
  exact ⟨rfl, HB2.out.alloc HB2.out.size _⟩

end Go.Proofs.Ytkdpfbodmfjkkaa
