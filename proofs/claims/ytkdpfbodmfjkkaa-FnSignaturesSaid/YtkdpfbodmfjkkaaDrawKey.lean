/- What the reference draws of keys: its ten keys, a number, the ten keys with one field changed. Condition: the cursor stands over no more than 2^20 bytes. -/
import Derived.Test.YtkdpfbodmfjkkaaRows
import Derived.Test.YtkdpfbodmfjkkaaBase
import Derived.Test.YtkdpfbodmfjkkaaAppend
import Derived.Test.YtkdpfbodmfjkkaaSlices
import Derived.Test.YtkdpfbodmfjkkaaApart
import Derived.Test.YtkdpfbodmfjkkaaCol
import Derived.Test.YtkdpfbodmfjkkaaDraw
import Derived.Test.YtkdpfbodmfjkkaaDrawSpan
namespace Go.Proofs.Ytkdpfbodmfjkkaa
open Go.RowKit

theorem rows_of (s : Nat) : ∀ (n : Nat) (zs : List Int), zs.length = n * s → ∃ ks : List (List Int), ks.length = n ∧ (∀ r ∈ ks, r.length = s) ∧ ks.flatten = zs
  | 0, zs, h => ⟨[], rfl, (by intro r hr; cases hr), by simp at h; simp [h]⟩
  | n + 1, zs, h => by
    have h0 : zs.length = n * s + s := by rw [h, Nat.succ_mul]
    obtain ⟨ks, h1, h2, h3⟩ := rows_of s n (zs.drop s) (by rw [List.length_drop]; omega)
    refine ⟨zs.take s :: ks, by simp [h1], ?_, ?_⟩
    · intro r hr
      rcases List.mem_cons.1 hr with rfl | hr
      · rw [List.length_take]; omega
      · exact h2 r hr
    · rw [List.flatten_cons, h3, List.take_append_drop]
theorem own_rows {w : World} {E s lo hi n : Nat} {v : Value} {zs : List Int} (h : Own w E s v lo hi n (zs.map (Value.int .i64))) : ∃ ks : List (List Int), ks.length = n ∧ (∀ r ∈ ks, r.length = s) ∧ Own w E s v lo hi ks.length (flat ks) := by
  obtain ⟨ks, h1, h2, h3⟩ := rows_of s n zs (by simpa using h.1.1)
  exact ⟨ks, h1, h2, by rw [h1, flat, h3]; exact h⟩
/-- The ten keys of the reference. -/
def keys10 : List (List Int) := [[1, 90, 1, 0, 501], [2, 90, 3, 40, 502], [11, 1, 1, 0, 511], [12, 1, 2, 20, 512], [13, 2, 3, 40, 513], [21, 50, 1, 0, 521], [31, 81, 1, 0, 531], [32, 82, 2, 20, 532], [33, 83, 3, 40, 533], [34, 84, 4, 60, 534]]
theorem keys10_len : ∀ r ∈ keys10, r.length = 5 := by decide
set_option maxRecDepth 16000 in
set_option maxHeartbeats 4000000 in
theorem l8Keys_any (w : World) : Calls Try.prog 164 #[] w fun e w' => e = .returned (.slice (some ⟨w.heap.size, 0, none⟩) 10 10) ∧ w'.ownsRow w.heap.size 64 5 (.slice (some ⟨w.heap.size, 0, none⟩) 10 10) 10 (flat keys10) ∧ Below w.heap.size w w' ∧ w'.heap.size = w.heap.size + 1 := by
  have HO := hid (World.ownsRow_lit (base := w.heap.size) (e := 64) (size := 5) w #[iv 1, iv 90, iv 1, iv 0, iv 501, iv 2, iv 90, iv 3, iv 40, iv 502, iv 11, iv 1, iv 1, iv 0, iv 511, iv 12, iv 1, iv 2, iv 20, iv 512, iv 13, iv 2, iv 3, iv 40, iv 513, iv 21, iv 50, iv 1, iv 0, iv 521, iv 31, iv 81, iv 1, iv 0, iv 531, iv 32, iv 82, iv 2, iv 20, iv 532, iv 33, iv 83, iv 3, iv 40, iv 533, iv 34, iv 84, iv 4, iv 60, iv 534] 10 (Nat.le_refl _) (by decide) rfl)
  go_enter Try.func164, Try.ntmps164
  go_wp2
  go_ret
  exact ⟨rfl, HO.out, below_alloc _ _, by simp⟩
set_option maxHeartbeats 2000000 in
theorem l8Number_any {g : Nat} (w : World) (hc : Cur g w) : Calls Try.prog 110 #[.pointer (some ⟨g, 0, none⟩)] w (CurInt g (fun _ => True) w) := by
  have hg := hc.lt
  have HK := hid (Kb.refl hc)
  clear hc
  go_enter Try.func110, Try.ntmps110
  have HL := hid ((Own.of (World.ownsRow_lit (base := w.heap.size) (e := 3) (size := 1) w #[iv 1, iv 2, iv 11, iv 12, iv 13, iv 21, iv 31, iv 32, iv 33, iv 34, iv 0, iv 50] 12 (Nat.le_refl _) (by decide) rfl)).si (zs := [1, 2, 11, 12, 13, 21, 31, 32, 33, 34, 0, 50]))
  have HKA := hid (HK.out.alloc hg (.cells #[iv 1, iv 2, iv 11, iv 12, iv 13, iv 21, iv 31, iv 32, iv 33, iv 34, iv 0, iv 50] 3))
  go_wp2_with fail
  refine (l1Int_any _ HKA.out.1 HL.out (Nat.le_refl _) (by intro b off n c h; simp only [Value.slice.injEq, Option.some.injEq, Addr.mk.injEq] at h; omega) (by decide)).mono ?_
  rintro e w2 ⟨r, rfl, -, hc2, hg2⟩
  have HK2 := hid (HKA.out.next ⟨hc2, hg2⟩)
  clear hc2 hg2
  go_wp2
  go_ret
  exact ⟨_, rfl, trivial, HK2.out.1, HK2.out.2⟩
/-- The call returned a list of its own with m rows of s numbers. -/
def CurRows (g E s m : Nat) (w : World) (e : Ending) (w' : World) : Prop :=
  ∃ (v : Value) (ks : List (List Int)), e = .returned v ∧ (∀ r ∈ ks, r.length = s) ∧ ks.length = m ∧ Own w' E s v w.heap.size w'.heap.size ks.length (flat ks) ∧ Kb g w w'
theorem rows_end {g E s m : Nat} {w w' : World} {v : Value} {zs : List Int} (h : w'.ownsRow w.heap.size E s v m (zs.map (Value.int .i64))) (hk : Kb g w w') : CurRows g E s m w (.returned v) w' := by
  obtain ⟨ks, h1, h2, h3⟩ := own_rows (Own.of h)
  exact ⟨v, ks, rfl, h2, h1, h3, hk⟩
theorem set_rows {zs : List Int} (k : Nat) (z : Int) : (zs.map (Value.int .i64)).set k (.int .i64 z) = (zs.set k z).map (Value.int .i64) := by rw [List.map_set]
set_option maxRecDepth 16000 in
set_option maxHeartbeats 8000000 in
theorem l8Any_any {g : Nat} (w : World) (hc : Cur g w) : Calls Try.prog 109 #[.pointer (some ⟨g, 0, none⟩)] w (CurRows g 64 5 10 w) := by
  have hg := hc.lt
  have HK0 := hid (Kb.refl hc)
  clear hc
  go_enter Try.func109, Try.ntmps109
  go_wp2_with fail
  refine (l8Keys_any _).mono ?_
  rintro e w1 ⟨rfl, ho1, hb1, hz1⟩
  have HK1 := hid (HK0.out.via hg hb1)
  have HO1 : Hid (w1.ownsRow w.heap.size 64 5 (.slice (some ⟨w.heap.size, 0, none⟩) 10 10) 10 (keys10.flatten.map (Value.int .i64))) := hid ho1
  have hzs : keys10.flatten.length = 50 := rfl
  generalize keys10.flatten = zs at HO1 hzs
  clear hb1 ho1
  go_wp2_with fail
  refine (l1Below_any _ _ HK1.out.1).mono ?_
  rintro e w2 ⟨r, rfl, ⟨hr0, hr1, -⟩, hc2, hg2⟩
  replace hr1 := hr1 (by omega)
  obtain ⟨i, rfl⟩ : ∃ i : Nat, r = i := ⟨r.toNat, by omega⟩
  have HK2 := hid (HK1.out.next ⟨hc2, hg2⟩)
  have HO2 := hid ((Own.cur (Own.of HO1.out) hg2 hg (Nat.le_refl _)).1)
  have hz2 : w.heap.size < w2.heap.size := by have := hg2.size; omega
  clear hc2 hg2 hz1
  go_wp2_with fail
  refine (l1Below_any _ _ HK2.out.1).mono ?_
  rintro e w3 ⟨s, rfl, -, hc3, hg3⟩
  have HK := hid (HK2.out.next ⟨hc3, hg3⟩)
  have HO := hid ((Own.cur (Own.of HO2.out) hg3 hg (Nat.le_refl _)).1)
  have hz3 : w.heap.size < w3.heap.size := by have := hg3.size; omega
  have hi0 : (0 : Int) ≤ (i : Int) := Int.natCast_nonneg _
  clear hc3 hg3 hz2
  by_cases h0 : s = 0
  · skip
    have e0 : (s == 0) = true := by rw [beq_iff_eq]; exact h0
    clear h0
    have HOA := hid (HO.out.alloc (.cells #[iv 0, iv 1, iv 50, iv 99, iv 100] 3))
    have HL := hid ((Own.of (World.ownsRow_lit (base := w3.heap.size) (e := 3) (size := 1) w3 #[iv 0, iv 1, iv 50, iv 99, iv 100] 5 (Nat.le_refl _) (by decide) rfl)).si (zs := [0, 1, 50, 99, 100]))
    have HKA := hid (HK.out.alloc hg (.cells #[iv 0, iv 1, iv 50, iv 99, iv 100] 3))
    go_wp2_with fail
    refine (l1Int_any _ HKA.out.1 HL.out (Nat.le_refl _) (by intro b off n c h; simp only [Value.slice.injEq, Option.some.injEq, Addr.mk.injEq] at h; omega) (by decide)).mono ?_
    rintro e w4 ⟨z, rfl, -, hc4, hg4⟩
    have HK4 := hid (HKA.out.next ⟨hc4, hg4⟩)
    have HO4 := hid ((Own.cur (Own.of HOA.out) hg4 hg (Nat.le_refl _)).1)
    have hz4 : w.heap.size < w4.heap.size := by have := hg4.size; (first | omega | (simp at this; omega))
    obtain ⟨z0, hz0⟩ : ∃ z0 : Int, z0 = zs.getD (i * 5) 0 := ⟨_, rfl⟩
    have c0 : w4.cell? ⟨w.heap.size, i * 5, none⟩ = some (iv z0) := by rw [HO4.out.cellAt (i * 5) (by omega), List.getElem?_map, List.getElem?_eq_getElem (by omega), hz0, List.getD, List.getElem?_eq_getElem (by omega)]; rfl
    have f0 : w4.frozen? ⟨w.heap.size, i * 5, none⟩ = false := HO4.out.frozenAt _
    have HF := hid (HO4.out.stored (i * 5) (iv z)).1
    rw [set_rows] at HF
    have HKF := hid (HK4.out.set hg (p := ⟨w.heap.size, i * 5, none⟩) (Nat.le_refl _) (iv z))
    clear hc4 hg4 hz0
    go_wp2
    go_ret
    exact rows_end HF.out HKF.out
  have e0 : (s == 0) = false := by rw [beq_eq_false_iff_ne]; exact h0
  clear h0
  by_cases h1 : s = 1
  · skip
    have e1 : (s == 1) = true := by rw [beq_iff_eq]; exact h1
    clear h1
    have HOA := hid (HO.out.alloc (.cells #[iv (-1), iv 5, iv 100] 3))
    have HL := hid ((Own.of (World.ownsRow_lit (base := w3.heap.size) (e := 3) (size := 1) w3 #[iv (-1), iv 5, iv 100] 3 (Nat.le_refl _) (by decide) rfl)).si (zs := [-1, 5, 100]))
    have HKA := hid (HK.out.alloc hg (.cells #[iv (-1), iv 5, iv 100] 3))
    go_wp2_with fail
    refine (l1Int_any _ HKA.out.1 HL.out (Nat.le_refl _) (by intro b off n c h; simp only [Value.slice.injEq, Option.some.injEq, Addr.mk.injEq] at h; omega) (by decide)).mono ?_
    rintro e w4 ⟨z, rfl, -, hc4, hg4⟩
    have HK4 := hid (HKA.out.next ⟨hc4, hg4⟩)
    have HO4 := hid ((Own.cur (Own.of HOA.out) hg4 hg (Nat.le_refl _)).1)
    have hz4 : w.heap.size < w4.heap.size := by have := hg4.size; (first | omega | (simp at this; omega))
    obtain ⟨z0, hz0⟩ : ∃ z0 : Int, z0 = zs.getD (i * 5 + 1) 0 := ⟨_, rfl⟩
    have c0 : w4.cell? ⟨w.heap.size, i * 5 + 1, none⟩ = some (iv z0) := by rw [HO4.out.cellAt (i * 5 + 1) (by omega), List.getElem?_map, List.getElem?_eq_getElem (by omega), hz0, List.getD, List.getElem?_eq_getElem (by omega)]; rfl
    have f0 : w4.frozen? ⟨w.heap.size, i * 5 + 1, none⟩ = false := HO4.out.frozenAt _
    have HF := hid (HO4.out.stored (i * 5 + 1) (iv z)).1
    rw [set_rows] at HF
    have HKF := hid (HK4.out.set hg (p := ⟨w.heap.size, i * 5 + 1, none⟩) (Nat.le_refl _) (iv z))
    clear hc4 hg4 hz0
    go_wp2
    go_ret
    exact rows_end HF.out HKF.out
  have e1 : (s == 1) = false := by rw [beq_eq_false_iff_ne]; exact h1
  clear h1
  by_cases h2 : s = 2
  · skip
    have e2 : (s == 2) = true := by rw [beq_iff_eq]; exact h2
    clear h2
    have HOA := hid (HO.out.alloc (.cells #[iv 0, iv 777] 3))
    have HL := hid ((Own.of (World.ownsRow_lit (base := w3.heap.size) (e := 3) (size := 1) w3 #[iv 0, iv 777] 2 (Nat.le_refl _) (by decide) rfl)).si (zs := [0, 777]))
    have HKA := hid (HK.out.alloc hg (.cells #[iv 0, iv 777] 3))
    go_wp2_with fail
    refine (l1Int_any _ HKA.out.1 HL.out (Nat.le_refl _) (by intro b off n c h; simp only [Value.slice.injEq, Option.some.injEq, Addr.mk.injEq] at h; omega) (by decide)).mono ?_
    rintro e w4 ⟨z, rfl, -, hc4, hg4⟩
    have HK4 := hid (HKA.out.next ⟨hc4, hg4⟩)
    have HO4 := hid ((Own.cur (Own.of HOA.out) hg4 hg (Nat.le_refl _)).1)
    have hz4 : w.heap.size < w4.heap.size := by have := hg4.size; (first | omega | (simp at this; omega))
    obtain ⟨z0, hz0⟩ : ∃ z0 : Int, z0 = zs.getD (i * 5 + 4) 0 := ⟨_, rfl⟩
    have c0 : w4.cell? ⟨w.heap.size, i * 5 + 4, none⟩ = some (iv z0) := by rw [HO4.out.cellAt (i * 5 + 4) (by omega), List.getElem?_map, List.getElem?_eq_getElem (by omega), hz0, List.getD, List.getElem?_eq_getElem (by omega)]; rfl
    have f0 : w4.frozen? ⟨w.heap.size, i * 5 + 4, none⟩ = false := HO4.out.frozenAt _
    have HF := hid (HO4.out.stored (i * 5 + 4) (iv z)).1
    rw [set_rows] at HF
    have HKF := hid (HK4.out.set hg (p := ⟨w.heap.size, i * 5 + 4, none⟩) (Nat.le_refl _) (iv z))
    clear hc4 hg4 hz0
    go_wp2
    go_ret
    exact rows_end HF.out HKF.out
  have e2 : (s == 2) = false := by rw [beq_eq_false_iff_ne]; exact h2
  clear h2
  by_cases h3 : s = 3
  · skip
    have e3 : (s == 3) = true := by rw [beq_iff_eq]; exact h3
    clear h3
    have HOA := HO
    go_wp2_with fail
    refine (l4Raw_any _ HK.out.1).mono ?_
    rintro e w4 ⟨z, rfl, -, hc4, hg4⟩
    have HK4 := hid (HK.out.next ⟨hc4, hg4⟩)
    have HO4 := hid ((Own.cur (Own.of HOA.out) hg4 hg (Nat.le_refl _)).1)
    have hz4 : w.heap.size < w4.heap.size := by have := hg4.size; (first | omega | (simp at this; omega))
    obtain ⟨z0, hz0⟩ : ∃ z0 : Int, z0 = zs.getD (i * 5 + 3) 0 := ⟨_, rfl⟩
    have c0 : w4.cell? ⟨w.heap.size, i * 5 + 3, none⟩ = some (iv z0) := by rw [HO4.out.cellAt (i * 5 + 3) (by omega), List.getElem?_map, List.getElem?_eq_getElem (by omega), hz0, List.getD, List.getElem?_eq_getElem (by omega)]; rfl
    have f0 : w4.frozen? ⟨w.heap.size, i * 5 + 3, none⟩ = false := HO4.out.frozenAt _
    have HF := hid (HO4.out.stored (i * 5 + 3) (iv z)).1
    rw [set_rows] at HF
    have HKF := hid (HK4.out.set hg (p := ⟨w.heap.size, i * 5 + 3, none⟩) (Nat.le_refl _) (iv z))
    clear hc4 hg4 hz0
    go_wp2
    go_ret
    exact rows_end HF.out HKF.out
  have e3 : (s == 3) = false := by rw [beq_eq_false_iff_ne]; exact h3
  clear h3
  by_cases h4 : s = 4
  · skip
    have e4 : (s == 4) = true := by rw [beq_iff_eq]; exact h4
    clear h4
    have HOA := hid (HO.out.alloc (.cells #[iv (-1), iv 0, iv 99, iv 100] 3))
    have HL := hid ((Own.of (World.ownsRow_lit (base := w3.heap.size) (e := 3) (size := 1) w3 #[iv (-1), iv 0, iv 99, iv 100] 4 (Nat.le_refl _) (by decide) rfl)).si (zs := [-1, 0, 99, 100]))
    have HKA := hid (HK.out.alloc hg (.cells #[iv (-1), iv 0, iv 99, iv 100] 3))
    go_wp2_with fail
    refine (l1Int_any _ HKA.out.1 HL.out (Nat.le_refl _) (by intro b off n c h; simp only [Value.slice.injEq, Option.some.injEq, Addr.mk.injEq] at h; omega) (by decide)).mono ?_
    rintro e w4 ⟨z, rfl, -, hc4, hg4⟩
    have HK4 := hid (HKA.out.next ⟨hc4, hg4⟩)
    have HO4 := hid ((Own.cur (Own.of HOA.out) hg4 hg (Nat.le_refl _)).1)
    have hz4 : w.heap.size < w4.heap.size := by have := hg4.size; (first | omega | (simp at this; omega))
    obtain ⟨z0, hz0⟩ : ∃ z0 : Int, z0 = zs.getD (i * 5 + 2) 0 := ⟨_, rfl⟩
    have c0 : w4.cell? ⟨w.heap.size, i * 5 + 2, none⟩ = some (iv z0) := by rw [HO4.out.cellAt (i * 5 + 2) (by omega), List.getElem?_map, List.getElem?_eq_getElem (by omega), hz0, List.getD, List.getElem?_eq_getElem (by omega)]; rfl
    have f0 : w4.frozen? ⟨w.heap.size, i * 5 + 2, none⟩ = false := HO4.out.frozenAt _
    have HF := hid (HO4.out.stored (i * 5 + 2) (iv z)).1
    rw [set_rows] at HF
    have HKF := hid (HK4.out.set hg (p := ⟨w.heap.size, i * 5 + 2, none⟩) (Nat.le_refl _) (iv z))
    clear hc4 hg4 hz0
    go_wp2
    go_ret
    exact rows_end HF.out HKF.out
  have e4 : (s == 4) = false := by rw [beq_eq_false_iff_ne]; exact h4
  clear h4
  go_wp2
  go_ret
  exact rows_end HO.out HK.out
end Go.Proofs.Ytkdpfbodmfjkkaa
