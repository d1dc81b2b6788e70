/- CheckSuccession of the program and of the reference: the value is valid and is the value made anew. No condition. -/
import Derived.Test.YtjacbpmkdlngaaaRows
import Derived.Test.YtjacbpmkdlngaaaPlain
import Derived.Test.YtjacbpmkdlngaaaMakeSuccession
namespace Go.Proofs.Ytjacbpmkdlngaaa
open Go.RowKit


set_option maxHeartbeats 2000000 in
theorem implCheckSuccession_any_yes {B : Nat} {ks : List (List Int)} {v : Value} (a0 a1 a2 a3 : Int) (w : World) (h : Sl B w 5 v ks) (hB : B ≤ w.heap.size) (i : Nat) (hi : i < ks.length) (hf : findI 0 a0 ks = (i : Int)) (k : Nat) (hk : k < ks.length) (hf2 : findI 0 a1 ks = (k : Int)) (hne : (a0 == a1) = false) (how : (fld ks i 1 == fld ks k 1) = true) (ht : timeB a2 = true) :
    Calls Try.prog 30 #[v, .agg #[iv a0, iv a1, iv a2, iv a3]] w (Ret (.bool ((markW (fld ks i 2) (fld ks i 4) [106, a0, a1, a2]) == a3)) w) := by
  obtain ⟨m, hm⟩ : ∃ m : Int, m = (markW (fld ks i 2) (fld ks i 4) [106, a0, a1, a2]) := ⟨_, rfl⟩
  rw [← hm]
  have HM := hid hm
  clear hm
  have h0 : Below w.heap.size w (w.alloc (.cells #[iv a0, iv a1, iv a2, iv a3] 47)) := below_alloc _ _
  have hB1 : B ≤ (w.alloc (.cells #[iv a0, iv a1, iv a2, iv a3] 47)).heap.size := by simp; omega
  replace h := h.below h0 (by omega)
  have HS : Hid (∀ w' : World, Below (w.alloc (.cells #[iv a0, iv a1, iv a2, iv a3] 47)).heap.size (w.alloc (.cells #[iv a0, iv a1, iv a2, iv a3] 47)) w' → (w'.cell? ⟨w.heap.size, 0, none⟩ = some (iv a0) ∧ w'.cell? ⟨w.heap.size, 1, none⟩ = some (iv a1) ∧ w'.cell? ⟨w.heap.size, 2, none⟩ = some (iv a2) ∧ w'.cell? ⟨w.heap.size, 3, none⟩ = some (iv a3))) := hid fun w' hx => ⟨(hx.cell (p := ⟨w.heap.size, 0, none⟩) (by simp)).trans (by simp [go_sem]), (hx.cell (p := ⟨w.heap.size, 1, none⟩) (by simp)).trans (by simp [go_sem]), (hx.cell (p := ⟨w.heap.size, 2, none⟩) (by simp)).trans (by simp [go_sem]), (hx.cell (p := ⟨w.heap.size, 3, none⟩) (by simp)).trans (by simp [go_sem])⟩
  have H0 := hid h0
  clear h0
  go_enter Try.func30, Try.ntmps30
  go_wp2_with fail
  refine (ret_cast (y := .tuple #[.agg #[iv a0, iv a1, iv a2, iv m], .bool true]) (by rw [HM.out]) (implMakeSuccession_any_yes _ _ _ _ _ h hB1 i hi hf k hk hf2 hne how ht)).mono ?_
  rintro e w2 ⟨rfl, hb2⟩
  obtain ⟨c0, c1, c2, c3⟩ := HS.out _ hb2
  have hwl : w.heap.size < w2.heap.size := by have := hb2.size; simp at this; omega
  have HB2 := hid (below_step H0.out hb2)
  clear hb2
  by_cases hme : m = a3
  · subst hme
    go_wp2
    go_ret
    exact ⟨ret_bool (by simp), HB2.out.alloc HB2.out.size _⟩
  · have hme' : ¬ a3 = m := fun q => hme q.symm
    go_wp2
    go_ret
    exact ⟨ret_bool (by simp [hme]), HB2.out.alloc HB2.out.size _⟩

set_option maxHeartbeats 2000000 in
theorem implCheckSuccession_any_no {B : Nat} {ks : List (List Int)} {v : Value} (a0 a1 a2 a3 : Int) (w : World) (h : Sl B w 5 v ks) (hB : B ≤ w.heap.size) (hno : findI 0 a0 ks = -1 ∨ findI 0 a1 ks = -1 ∨ (a0 == a1) = true ∨ (∃ i k : Nat, findI 0 a0 ks = (i : Int) ∧ findI 0 a1 ks = (k : Int) ∧ (fld ks i 1 == fld ks k 1) = false) ∨ timeB a2 = false) :
    Calls Try.prog 30 #[v, .agg #[iv a0, iv a1, iv a2, iv a3]] w (Ret (.bool false) w) := by
  have h0 : Below w.heap.size w (w.alloc (.cells #[iv a0, iv a1, iv a2, iv a3] 47)) := below_alloc _ _
  have hB1 : B ≤ (w.alloc (.cells #[iv a0, iv a1, iv a2, iv a3] 47)).heap.size := by simp; omega
  replace h := h.below h0 (by omega)
  have HS : Hid (∀ w' : World, Below (w.alloc (.cells #[iv a0, iv a1, iv a2, iv a3] 47)).heap.size (w.alloc (.cells #[iv a0, iv a1, iv a2, iv a3] 47)) w' → (w'.cell? ⟨w.heap.size, 0, none⟩ = some (iv a0) ∧ w'.cell? ⟨w.heap.size, 1, none⟩ = some (iv a1) ∧ w'.cell? ⟨w.heap.size, 2, none⟩ = some (iv a2) ∧ w'.cell? ⟨w.heap.size, 3, none⟩ = some (iv a3))) := hid fun w' hx => ⟨(hx.cell (p := ⟨w.heap.size, 0, none⟩) (by simp)).trans (by simp [go_sem]), (hx.cell (p := ⟨w.heap.size, 1, none⟩) (by simp)).trans (by simp [go_sem]), (hx.cell (p := ⟨w.heap.size, 2, none⟩) (by simp)).trans (by simp [go_sem]), (hx.cell (p := ⟨w.heap.size, 3, none⟩) (by simp)).trans (by simp [go_sem])⟩
  have H0 := hid h0
  clear h0
  go_enter Try.func30, Try.ntmps30
  go_wp2_with fail
  refine (implMakeSuccession_any_no _ _ _ _ _ h hB1 hno).mono ?_
  rintro e w2 ⟨rfl, hb2⟩
  obtain ⟨c0, c1, c2, c3⟩ := HS.out _ hb2
  have hwl : w.heap.size < w2.heap.size := by have := hb2.size; simp at this; omega
  have HB2 := hid (below_step H0.out hb2)
  clear hb2
  go_wp2
  go_ret
  exact ⟨rfl, HB2.out.alloc HB2.out.size _⟩

set_option maxHeartbeats 2000000 in
theorem specCheckSuccession_any_yes {B : Nat} {ks : List (List Int)} {v : Value} (a0 a1 a2 a3 : Int) (w : World) (h : Sl B w 5 v ks) (hB : B ≤ w.heap.size) (i : Nat) (hi : i < ks.length) (hf : findI 0 a0 ks = (i : Int)) (k : Nat) (hk : k < ks.length) (hf2 : findI 0 a1 ks = (k : Int)) (hne : (a0 == a1) = false) (how : (fld ks i 1 == fld ks k 1) = true) (ht : timeB a2 = true) :
    Calls Try.prog 28 #[v, .agg #[iv a0, iv a1, iv a2, iv a3]] w (Ret (.bool ((markW (fld ks i 2) (fld ks i 4) [106, a0, a1, a2]) == a3)) w) := by
  obtain ⟨m, hm⟩ : ∃ m : Int, m = (markW (fld ks i 2) (fld ks i 4) [106, a0, a1, a2]) := ⟨_, rfl⟩
  rw [← hm]
  have HM := hid hm
  clear hm
  have h0 : Below w.heap.size w (w.alloc (.cells #[iv a0, iv a1, iv a2, iv a3] 47)) := below_alloc _ _
  have hB1 : B ≤ (w.alloc (.cells #[iv a0, iv a1, iv a2, iv a3] 47)).heap.size := by simp; omega
  replace h := h.below h0 (by omega)
  have HS : Hid (∀ w' : World, Below (w.alloc (.cells #[iv a0, iv a1, iv a2, iv a3] 47)).heap.size (w.alloc (.cells #[iv a0, iv a1, iv a2, iv a3] 47)) w' → (w'.cell? ⟨w.heap.size, 0, none⟩ = some (iv a0) ∧ w'.cell? ⟨w.heap.size, 1, none⟩ = some (iv a1) ∧ w'.cell? ⟨w.heap.size, 2, none⟩ = some (iv a2) ∧ w'.cell? ⟨w.heap.size, 3, none⟩ = some (iv a3))) := hid fun w' hx => ⟨(hx.cell (p := ⟨w.heap.size, 0, none⟩) (by simp)).trans (by simp [go_sem]), (hx.cell (p := ⟨w.heap.size, 1, none⟩) (by simp)).trans (by simp [go_sem]), (hx.cell (p := ⟨w.heap.size, 2, none⟩) (by simp)).trans (by simp [go_sem]), (hx.cell (p := ⟨w.heap.size, 3, none⟩) (by simp)).trans (by simp [go_sem])⟩
  have H0 := hid h0
  clear h0
  go_enter Try.func28, Try.ntmps28
  go_wp2_with fail
  refine (ret_cast (y := .tuple #[.agg #[iv a0, iv a1, iv a2, iv m], .bool true]) (by rw [HM.out]) (specMakeSuccession_any_yes _ _ _ _ _ h hB1 i hi hf k hk hf2 hne how ht)).mono ?_
  rintro e w2 ⟨rfl, hb2⟩
  obtain ⟨c0, c1, c2, c3⟩ := HS.out _ hb2
  have hwl : w.heap.size < w2.heap.size := by have := hb2.size; simp at this; omega
  have HB2 := hid (below_step H0.out hb2)
  clear hb2
  by_cases hme : m = a3
  · subst hme
    go_wp2
    go_ret
    exact ⟨ret_bool (by simp), HB2.out.alloc HB2.out.size _⟩
  · have hme' : ¬ a3 = m := fun q => hme q.symm
    go_wp2
    go_ret
    exact ⟨ret_bool (by simp [hme]), HB2.out.alloc HB2.out.size _⟩

set_option maxHeartbeats 2000000 in
theorem specCheckSuccession_any_no {B : Nat} {ks : List (List Int)} {v : Value} (a0 a1 a2 a3 : Int) (w : World) (h : Sl B w 5 v ks) (hB : B ≤ w.heap.size) (hno : findI 0 a0 ks = -1 ∨ findI 0 a1 ks = -1 ∨ (a0 == a1) = true ∨ (∃ i k : Nat, findI 0 a0 ks = (i : Int) ∧ findI 0 a1 ks = (k : Int) ∧ (fld ks i 1 == fld ks k 1) = false) ∨ timeB a2 = false) :
    Calls Try.prog 28 #[v, .agg #[iv a0, iv a1, iv a2, iv a3]] w (Ret (.bool false) w) := by
  have h0 : Below w.heap.size w (w.alloc (.cells #[iv a0, iv a1, iv a2, iv a3] 47)) := below_alloc _ _
  have hB1 : B ≤ (w.alloc (.cells #[iv a0, iv a1, iv a2, iv a3] 47)).heap.size := by simp; omega
  replace h := h.below h0 (by omega)
  have HS : Hid (∀ w' : World, Below (w.alloc (.cells #[iv a0, iv a1, iv a2, iv a3] 47)).heap.size (w.alloc (.cells #[iv a0, iv a1, iv a2, iv a3] 47)) w' → (w'.cell? ⟨w.heap.size, 0, none⟩ = some (iv a0) ∧ w'.cell? ⟨w.heap.size, 1, none⟩ = some (iv a1) ∧ w'.cell? ⟨w.heap.size, 2, none⟩ = some (iv a2) ∧ w'.cell? ⟨w.heap.size, 3, none⟩ = some (iv a3))) := hid fun w' hx => ⟨(hx.cell (p := ⟨w.heap.size, 0, none⟩) (by simp)).trans (by simp [go_sem]), (hx.cell (p := ⟨w.heap.size, 1, none⟩) (by simp)).trans (by simp [go_sem]), (hx.cell (p := ⟨w.heap.size, 2, none⟩) (by simp)).trans (by simp [go_sem]), (hx.cell (p := ⟨w.heap.size, 3, none⟩) (by simp)).trans (by simp [go_sem])⟩
  have H0 := hid h0
  clear h0
  go_enter Try.func28, Try.ntmps28
  go_wp2_with fail
  refine (specMakeSuccession_any_no _ _ _ _ _ h hB1 hno).mono ?_
  rintro e w2 ⟨rfl, hb2⟩
  obtain ⟨c0, c1, c2, c3⟩ := HS.out _ hb2
  have hwl : w.heap.size < w2.heap.size := by have := hb2.size; simp at this; omega
  have HB2 := hid (below_step H0.out hb2)
  clear hb2
  go_wp2
  go_ret
  exact ⟨rfl, HB2.out.alloc HB2.out.size _⟩

end Go.Proofs.Ytjacbpmkdlngaaa
