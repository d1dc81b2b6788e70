/- What the reference draws of authorities and stamps. Condition: no more than 2^20 bytes. -/
import Derived.Test.YtkdpfbodmfjkkaaRows
import Derived.Test.YtkdpfbodmfjkkaaBase
import Derived.Test.YtkdpfbodmfjkkaaPlain
import Derived.Test.YtkdpfbodmfjkkaaAppend
import Derived.Test.YtkdpfbodmfjkkaaSlices
import Derived.Test.YtkdpfbodmfjkkaaApart
import Derived.Test.YtkdpfbodmfjkkaaCol
import Derived.Test.YtkdpfbodmfjkkaaDraw
import Derived.Test.YtkdpfbodmfjkkaaDrawSpan
import Derived.Test.YtkdpfbodmfjkkaaDrawAgreed
import Derived.Test.YtkdpfbodmfjkkaaDrawKey
import Derived.Test.YtkdpfbodmfjkkaaBlk
import Derived.Test.YtkdpfbodmfjkkaaMakeStamp
namespace Go.Proofs.Ytkdpfbodmfjkkaa
open Go.ChangeShapes Go.WideShapes Go.ChangeAt Go.RowKit Go.Deep

/-- The four authorities of the reference. -/
def auth4 : List (List Int) := [[1, 31, 1], [2, 32, 2], [3, 33, 1], [4, 34, 0]]
theorem auth4_len : ∀ r ∈ auth4, r.length = 3 := by decide
set_option maxRecDepth 16000 in
set_option maxHeartbeats 4000000 in
theorem l11Authorities_any (w : World) : Calls Try.prog 173 #[] w fun e w' => e = .returned (.slice (some ⟨w.heap.size, 0, none⟩) 4 4) ∧ w'.ownsRow w.heap.size 183 3 (.slice (some ⟨w.heap.size, 0, none⟩) 4 4) 4 (flat auth4) ∧ Below w.heap.size w w' ∧ w'.heap.size = w.heap.size + 1 := by
  have HO := hid (World.ownsRow_lit (base := w.heap.size) (e := 183) (size := 3) w #[iv 1, iv 31, iv 1, iv 2, iv 32, iv 2, iv 3, iv 33, iv 1, iv 4, iv 34, iv 0] 4 (Nat.le_refl _) (by decide) rfl)
  go_enter Try.func173, Try.ntmps173
  go_wp2
  go_ret
  exact ⟨rfl, HO.out, below_alloc _ _, by simp⟩
/-- The call returned four rows of three numbers, the third of each no greater than the machine's greatest number. -/
def CurAuth (g : Nat) (w : World) (e : Ending) (w' : World) : Prop :=
  ∃ (v : Value) (ks : List (List Int)), e = .returned v ∧ (∀ r ∈ ks, r.length = 3) ∧ ks.length = 4 ∧ (∀ k, k < 4 → fld ks k 2 ≤ 9223372036854775807) ∧ Own w' 183 3 v w.heap.size w'.heap.size ks.length (flat ks) ∧ Kb g w w'
def ThirdFit (zs : List Int) : Prop := ∀ k, k < 4 → zs.getD (k * 3 + 2) 0 ≤ 9223372036854775807
theorem third_set {zs : List Int} {j : Nat} {z : Int} (hz : ThirdFit zs) (h : z ≤ 9223372036854775807 ∨ ∀ k, k * 3 + 2 ≠ j) : ThirdFit (zs.set j z) := by
  intro k hk
  have h1 := hz k hk
  rw [List.getD, List.getElem?_set]
  by_cases hj : j = k * 3 + 2
  · rw [if_pos hj]
    rcases h with h | h
    · split
      · simpa using h
      · simp
    · exact absurd hj.symm (h k)
  · rw [if_neg hj]
    exact h1
theorem auth_end {g : Nat} {w w' : World} {v : Value} {zs : List Int} (h : w'.ownsRow w.heap.size 183 3 v 4 (zs.map (Value.int .i64))) (hk : Kb g w w') (hz : ThirdFit zs) : CurAuth g w (.returned v) w' := by
  obtain ⟨ks, h1, h2, h3⟩ := rows_of 3 4 zs (by simpa using h.1)
  refine ⟨v, ks, rfl, h2, h1, fun k hk4 => ?_, ?_, hk⟩
  · have h4 := flat_get h2 k 2 (by omega) (by omega)
    have h5 := hz k hk4
    rw [flat, h3, List.getElem?_map] at h4
    rw [List.getD] at h5
    cases h6 : zs[k * 3 + 2]? with
    | none => rw [h6] at h4; simp at h4
    | some x =>
      rw [h6] at h4 h5
      simp at h4 h5
      omega
  · rw [h1, flat, h3]
    exact Own.of h
set_option maxRecDepth 16000 in
set_option maxHeartbeats 8000000 in
theorem l11Any_any {g : Nat} (w : World) (hc : Cur g w) : Calls Try.prog 129 #[.pointer (some ⟨g, 0, none⟩)] w (CurAuth g w) := by
  have hg := hc.lt
  have HK0 := hid (Kb.refl hc)
  clear hc
  go_enter Try.func129, Try.ntmps129
  go_wp2_with fail
  refine (l11Authorities_any _).mono ?_
  rintro e w1 ⟨rfl, ho1, hb1, hz1⟩
  have HK1 := hid (HK0.out.via hg hb1)
  have HO1 : Hid (w1.ownsRow w.heap.size 183 3 (.slice (some ⟨w.heap.size, 0, none⟩) 4 4) 4 (auth4.flatten.map (Value.int .i64))) := hid ho1
  have hzs : auth4.flatten.length = 12 := rfl
  have HTF : Hid (ThirdFit auth4.flatten) := hid (by intro k hk; rcases k with _ | _ | _ | _ | k <;> first | decide | omega)
  generalize auth4.flatten = zs at HO1 hzs HTF
  clear hb1 ho1
  go_wp2_with fail
  refine (l1Below_any _ _ HK1.out.1).mono ?_
  rintro e w2 ⟨r, rfl, ⟨hr0, hr1, -⟩, hc2, hg2⟩
  replace hr1 := hr1 (by omega)
  obtain ⟨i, rfl⟩ : ∃ i : Nat, r = i := ⟨r.toNat, by omega⟩
  have HK2 := hid (HK1.out.next ⟨hc2, hg2⟩)
  have HO2 := hid ((Own.cur (Own.of HO1.out) hg2 hg (Nat.le_refl _)).1)
  have hz2 : w.heap.size < w2.heap.size := by have := hg2.size; omega
  clear hc2 hg2 hz1
  go_wp2_with fail
  refine (l1Below_any _ _ HK2.out.1).mono ?_
  rintro e w3 ⟨s, rfl, -, hc3, hg3⟩
  have HK := hid (HK2.out.next ⟨hc3, hg3⟩)
  have HO := hid ((Own.cur (Own.of HO2.out) hg3 hg (Nat.le_refl _)).1)
  have hz3 : w.heap.size < w3.heap.size := by have := hg3.size; omega
  have hi0 : (0 : Int) ≤ (i : Int) := Int.natCast_nonneg _
  clear hc3 hg3 hz2
  by_cases h0 : s = 0
  · skip
    have e0 : (s == 0) = true := by rw [beq_iff_eq]; exact h0
    clear h0
    have HOA := hid (HO.out.alloc (.cells #[iv (-1), iv 2, iv 99, iv 100] 3))
    have HL := hid ((Own.of (World.ownsRow_lit (base := w3.heap.size) (e := 3) (size := 1) w3 #[iv (-1), iv 2, iv 99, iv 100] 4 (Nat.le_refl _) (by decide) rfl)).si (zs := [-1, 2, 99, 100]))
    have HKA := hid (HK.out.alloc hg (.cells #[iv (-1), iv 2, iv 99, iv 100] 3))
    go_wp2_with fail
    refine (l1Int_any _ HKA.out.1 HL.out (Nat.le_refl _) (by intro b off n c h; simp only [Value.slice.injEq, Option.some.injEq, Addr.mk.injEq] at h; omega) (by decide)).mono ?_
    rintro e w4 ⟨z, rfl, -, hc4, hg4⟩
    have HK4 := hid (HKA.out.next ⟨hc4, hg4⟩)
    have HO4 := hid ((Own.cur (Own.of HOA.out) hg4 hg (Nat.le_refl _)).1)
    have hz4 : w.heap.size < w4.heap.size := by have := hg4.size; (first | omega | (simp at this; omega))
    have HT4 := hid (third_set (j := i * 3) (z := z) HTF.out (.inr (fun k => by omega)))
    obtain ⟨z0, hz0⟩ : ∃ z0 : Int, z0 = zs.getD (i * 3) 0 := ⟨_, rfl⟩
    have c0 : w4.cell? ⟨w.heap.size, i * 3, none⟩ = some (iv z0) := by rw [HO4.out.cellAt (i * 3) (by omega), List.getElem?_map, List.getElem?_eq_getElem (by omega), hz0, List.getD, List.getElem?_eq_getElem (by omega)]; rfl
    have f0 : w4.frozen? ⟨w.heap.size, i * 3, none⟩ = false := HO4.out.frozenAt _
    have HF := hid (HO4.out.stored (i * 3) (iv z)).1
    rw [set_rows] at HF
    have HKF := hid (HK4.out.set hg (p := ⟨w.heap.size, i * 3, none⟩) (Nat.le_refl _) (iv z))
    clear hc4 hg4 hz0
    go_wp2
    go_ret
    exact auth_end HF.out HKF.out HT4.out
  have e0 : (s == 0) = false := by rw [beq_eq_false_iff_ne]; exact h0
  clear h0
  by_cases h1 : s = 1
  · skip
    have e1 : (s == 1) = true := by rw [beq_iff_eq]; exact h1
    clear h1
    have HOA := HO
    go_wp2_with fail
    refine (l8Number_any _ HK.out.1).mono ?_
    rintro e w4 ⟨z, rfl, -, hc4, hg4⟩
    have HK4 := hid (HK.out.next ⟨hc4, hg4⟩)
    have HO4 := hid ((Own.cur (Own.of HOA.out) hg4 hg (Nat.le_refl _)).1)
    have hz4 : w.heap.size < w4.heap.size := by have := hg4.size; (first | omega | (simp at this; omega))
    have HT4 := hid (third_set (j := i * 3 + 1) (z := z) HTF.out (.inr (fun k => by omega)))
    obtain ⟨z0, hz0⟩ : ∃ z0 : Int, z0 = zs.getD (i * 3 + 1) 0 := ⟨_, rfl⟩
    have c0 : w4.cell? ⟨w.heap.size, i * 3 + 1, none⟩ = some (iv z0) := by rw [HO4.out.cellAt (i * 3 + 1) (by omega), List.getElem?_map, List.getElem?_eq_getElem (by omega), hz0, List.getD, List.getElem?_eq_getElem (by omega)]; rfl
    have f0 : w4.frozen? ⟨w.heap.size, i * 3 + 1, none⟩ = false := HO4.out.frozenAt _
    have HF := hid (HO4.out.stored (i * 3 + 1) (iv z)).1
    rw [set_rows] at HF
    have HKF := hid (HK4.out.set hg (p := ⟨w.heap.size, i * 3 + 1, none⟩) (Nat.le_refl _) (iv z))
    clear hc4 hg4 hz0
    go_wp2
    go_ret
    exact auth_end HF.out HKF.out HT4.out
  have e1 : (s == 1) = false := by rw [beq_eq_false_iff_ne]; exact h1
  clear h1
  by_cases h2 : s = 2
  · skip
    have e2 : (s == 2) = true := by rw [beq_iff_eq]; exact h2
    clear h2
    have HOA := hid (HO.out.alloc (.cells #[iv (-1), iv 100, iv 101, iv 9223372036854775807] 3))
    have HL := hid ((Own.of (World.ownsRow_lit (base := w3.heap.size) (e := 3) (size := 1) w3 #[iv (-1), iv 100, iv 101, iv 9223372036854775807] 4 (Nat.le_refl _) (by decide) rfl)).si (zs := [-1, 100, 101, 9223372036854775807]))
    have HKA := hid (HK.out.alloc hg (.cells #[iv (-1), iv 100, iv 101, iv 9223372036854775807] 3))
    go_wp2_with fail
    refine (l1Int_any _ HKA.out.1 HL.out (Nat.le_refl _) (by intro b off n c h; simp only [Value.slice.injEq, Option.some.injEq, Addr.mk.injEq] at h; omega) (by decide)).mono ?_
    rintro e w4 ⟨z, rfl, hzm, hc4, hg4⟩
    have HK4 := hid (HKA.out.next ⟨hc4, hg4⟩)
    have HO4 := hid ((Own.cur (Own.of HOA.out) hg4 hg (Nat.le_refl _)).1)
    have hz4 : w.heap.size < w4.heap.size := by have := hg4.size; (first | omega | (simp at this; omega))
    have HT4 := hid (third_set (j := i * 3 + 2) (z := z) HTF.out (.inl (by simp only [List.mem_cons, List.not_mem_nil, or_false] at hzm; omega)))
    obtain ⟨z0, hz0⟩ : ∃ z0 : Int, z0 = zs.getD (i * 3 + 2) 0 := ⟨_, rfl⟩
    have c0 : w4.cell? ⟨w.heap.size, i * 3 + 2, none⟩ = some (iv z0) := by rw [HO4.out.cellAt (i * 3 + 2) (by omega), List.getElem?_map, List.getElem?_eq_getElem (by omega), hz0, List.getD, List.getElem?_eq_getElem (by omega)]; rfl
    have f0 : w4.frozen? ⟨w.heap.size, i * 3 + 2, none⟩ = false := HO4.out.frozenAt _
    have HF := hid (HO4.out.stored (i * 3 + 2) (iv z)).1
    rw [set_rows] at HF
    have HKF := hid (HK4.out.set hg (p := ⟨w.heap.size, i * 3 + 2, none⟩) (Nat.le_refl _) (iv z))
    clear hc4 hg4 hz0 hzm
    go_wp2
    go_ret
    exact auth_end HF.out HKF.out HT4.out
  have e2 : (s == 2) = false := by rw [beq_eq_false_iff_ne]; exact h2
  clear h2
  go_wp2
  go_ret
  exact auth_end HO.out HK.out HTF.out
def MadeStamp (a3 : Int) (w : World) (e : Ending) (w' : World) : Prop := ∃ b0 b1 b2 b3 b4 ok, e = .returned (.tuple #[.agg #[iv b0, iv b1, iv b2, iv b3, iv b4], .bool ok]) ∧ (b3 = a3 ∨ b3 = 0) ∧ Below w.heap.size w w'
theorem specMakeStamp_some {B : Nat} {ks ls : List (List Int)} {v u : Value} (a0 a1 a2 a3 a4 : Int) (w : World) (h : Sl B w 5 v ks) (g : Sl B w 3 u ls) (hB : B ≤ w.heap.size) :
    Calls Try.prog 66 #[v, u, .agg #[iv a0, iv a1, iv a2, iv a3, iv a4]] w (MadeStamp a3 w) := by
  have hno : (findI 0 a0 ls = -1 ∨ a1 < 0 ∨ timeB a2 = false ∨ ∃ i : Nat, findI 0 a0 ls = (i : Int) ∧ findI 0 (fld ls i 1) ks = -1) → Calls Try.prog 66 #[v, u, .agg #[iv a0, iv a1, iv a2, iv a3, iv a4]] w (MadeStamp a3 w) := by
    intro hn
    refine (specMakeStamp_any_no a0 a1 a2 a3 a4 w h g hB hn).mono ?_
    rintro e w' ⟨rfl, hb⟩
    exact ⟨0, 0, 0, 0, 0, false, rfl, .inr rfl, hb⟩
  rcases findI_range 0 a0 ls with hf | ⟨i, hi, hf, -⟩
  · exact hno (.inl hf)
  by_cases ht : a1 < 0
  · exact hno (.inr (.inl ht))
  cases ht2 : timeB a2
  · exact hno (.inr (.inr (.inl ht2)))
  rcases findI_range 0 (fld ls i 1) ks with hf2 | ⟨k, hk, hf2, -⟩
  · exact hno (.inr (.inr (.inr ⟨i, hf, hf2⟩)))
  refine (specMakeStamp_any_yes a0 a1 a2 a3 a4 w h g hB i hi hf (by omega) ht2 k hk hf2).mono ?_
  rintro e w' ⟨rfl, hb⟩
  exact ⟨_, _, _, _, _, _, rfl, .inl rfl, hb⟩
def CurStamp (g : Nat) (w : World) (e : Ending) (w' : World) : Prop := ∃ a0 a1 a2 a3 a4, e = .returned (.agg #[iv a0, iv a1, iv a2, iv a3, iv a4]) ∧ (0 ≤ a3 ∧ a3 ≤ 99) ∧ Kb g w w'
set_option maxRecDepth 16000 in
set_option maxHeartbeats 16000000 in
theorem l11Stamp_any {g : Nat} (w : World) (hc : Cur g w) : Calls Try.prog 174 #[.pointer (some ⟨g, 0, none⟩)] w fun e w' => ∃ a0 a1 a2 a3 a4, e = .returned (.agg #[iv a0, iv a1, iv a2, iv a3, iv a4]) ∧ (0 ≤ a3 ∧ a3 ≤ 98) ∧ Kb g w w' := by
  have hg := hc.lt
  have HK0 := hid ((Kb.refl hc).alloc hg (.cells #[iv 0, iv 0, iv 0, iv 0, iv 0] 101))
  have HR0 := hid (Blk.new w #[iv 0, iv 0, iv 0, iv 0, iv 0] 101)
  clear hc
  go_enter Try.func174, Try.ntmps174
  go_wp2_with fail
  generalize hW0 : w.alloc (.cells #[iv 0, iv 0, iv 0, iv 0, iv 0] 101) = W0 at HK0 HR0 ⊢
  have hz0 : w.heap.size < W0.heap.size := by rw [← hW0]; simp
  clear hW0
  refine (l8Keys_any _).mono ?_
  rintro e w1 ⟨rfl, ho1, hb1, -⟩
  have hz1 := hb1.size
  have HK1 := hid (HK0.out.via hg (hb1.mono (by omega)))
  have HR1 := hid (HR0.out.below hb1)
  have HO1 := hid (Own.of ho1)
  clear ho1 hb1 HK0 HR0
  go_wp2_with fail
  refine (l11Authorities_any _).mono ?_
  rintro e w2 ⟨rfl, ho2, hb2, -⟩
  have hz2 := hb2.size
  have HK2 := hid (HK1.out.via hg (hb2.mono (by omega)))
  have HR2 := hid (HR1.out.below hb2)
  have HO2 := hid (HO1.out.below hb2 (Nat.le_refl _))
  have HP2 := hid (Own.of ho2)
  clear ho2 hb2 HK1 HR1 HO1
  go_wp2_with fail
  refine (l1Below_any _ _ HK2.out.1).mono ?_
  rintro e w3 ⟨a, rfl, ⟨a0, a1, -⟩, hc, hgr⟩
  have HK3 := hid (HK2.out.next ⟨hc, hgr⟩)
  have HR3 := hid (HR2.out.cur hgr (by omega))
  have HO3 := hid (Own.cur HO2.out hgr (by omega) (by omega))
  have HP3 := hid (Own.cur HP2.out hgr (by omega) (by omega))
  have hz3 := hgr.size
  replace a1 := a1 (by omega)
  clear hc hgr HK2 HR2 HO2 HP2
  go_wp2_with fail
  refine (l1Below_any _ _ HK3.out.1).mono ?_
  rintro e w4 ⟨b, rfl, ⟨b0, b1, -⟩, hc, hgr⟩
  have HK4 := hid (HK3.out.next ⟨hc, hgr⟩)
  have HR4 := hid (HR3.out.cur hgr (by omega))
  have HO4 := hid (Own.cur HO3.out hgr (by omega) (by omega))
  have HP4 := hid (Own.cur HP3.out hgr (by omega) (by omega))
  have hz4 := hgr.size
  replace b1 := b1 (by omega)
  clear hc hgr HK3 HR3 HO3 HP3
  go_wp2_with fail
  refine (l1Below_any _ _ HK4.out.1).mono ?_
  rintro e w5 ⟨c, rfl, ⟨c0, c1, -⟩, hc, hgr⟩
  have HK5 := hid (HK4.out.next ⟨hc, hgr⟩)
  have HR5 := hid (HR4.out.cur hgr (by omega))
  have HO5 := hid (Own.cur HO4.out hgr (by omega) (by omega))
  have HP5 := hid (Own.cur HP4.out hgr (by omega) (by omega))
  have hz5 := hgr.size
  replace c1 := c1 (by omega)
  clear hc hgr HK4 HR4 HO4 HP4
  go_wp2_with fail
  refine (l1Below_any _ _ HK5.out.1).mono ?_
  rintro e w6 ⟨d, rfl, ⟨d0, d1, -⟩, hc, hgr⟩
  have HK6 := hid (HK5.out.next ⟨hc, hgr⟩)
  have HR6 := hid (HR5.out.cur hgr (by omega))
  have HO6 := hid (Own.cur HO5.out hgr (by omega) (by omega))
  have HP6 := hid (Own.cur HP5.out hgr (by omega) (by omega))
  have hz6 := hgr.size
  replace d1 := d1 (by omega)
  clear hc hgr HK5 HR5 HO5 HP5
  have HSk := hid ((Own.sl (ks := keys10) HO6.out keys10_len).mono (show w1.heap.size ≤ w6.heap.size by omega))
  have HSa := hid ((Own.sl (ks := auth4) HP6.out auth4_len).mono (show w2.heap.size ≤ w6.heap.size by omega))
  have hzx : w.heap.size < w6.heap.size := by omega
  clear HO6 HP6
  go_wp2_with fail
  refine (specMakeStamp_some _ _ _ _ _ _ HSk.out HSa.out (Nat.le_refl _)).mono ?_
  rintro e w7 ⟨b0, b1, b2, b3, b4, ok, rfl, hb3, hb7⟩
  have HK7 := hid (HK6.out.via hg (hb7.mono (by omega)))
  have HR7 := hid (HR6.out.below hb7)
  have hz7 : w.heap.size < w7.heap.size := by have := hb7.size; omega
  clear hb7 HSk HSa HK6 HR6
  have r0 := HR7.out.cell 0 rfl
  have r1 := HR7.out.cell 1 rfl
  have r2 := HR7.out.cell 2 rfl
  have r3 := HR7.out.cell 3 rfl
  have r4 := HR7.out.cell 4 rfl
  have q0 := HR7.out.frozen 0 (by simp)
  have q1 := HR7.out.frozen 1 (by simp)
  have q2 := HR7.out.frozen 2 (by simp)
  have q3 := HR7.out.frozen 3 (by simp)
  have q4 := HR7.out.frozen 4 (by simp)
  clear HR7
  have hne : w.heap.size ≠ w7.heap.size := by omega
  have hle0 : w.heap.size ≤ w.heap.size := Nat.le_refl _
  go_wp2
  refine bodyPost_ret (v := .agg #[iv b0, iv b1, iv b2, iv b3, iv b4]) (by simp [results, Try.results174, go_sem, r0, r1, r2, r3, r4, hz7]) rfl ⟨_, _, _, _, _, rfl, by omega, ?_⟩
  have h9 := HK7.out
  clear HK7
  repeat (first | with_reducible exact h9 | with_reducible refine Kb.alloc ?_ hg _ | with_reducible refine Kb.set ?_ hg hle0 _)
set_option maxRecDepth 16000 in
set_option maxHeartbeats 16000000 in
theorem l11Bent_any {g : Nat} (w : World) (hc : Cur g w) : Calls Try.prog 130 #[.pointer (some ⟨g, 0, none⟩)] w (CurStamp g w) := by
  have hg := hc.lt
  have HK0 := hid ((Kb.refl hc).alloc hg (.cells #[iv 0, iv 0, iv 0, iv 0, iv 0] 101))
  have HR0 := hid (Blk.new w #[iv 0, iv 0, iv 0, iv 0, iv 0] 101)
  clear hc
  go_enter Try.func130, Try.ntmps130
  go_wp2_with fail
  refine (l11Stamp_any _ HK0.out.1).mono ?_
  rintro e wb ⟨a0, a1, a2, a3, a4, rfl, ⟨hs0, hs1⟩, hk1⟩
  have hzb : w.heap.size < wb.heap.size := by have := hk1.2.size; simp at this; omega
  have HKb := hid (HK0.out.next hk1)
  have HRb := hid (HR0.out.cur hk1.2 (by omega))
  clear hk1 HK0 HR0
  have HK1 := hid (HKb.out.alloc hg (.cells #[iv a0, iv a1, iv a2, iv a3, iv a4] 101))
  have HR1 := hid (HRb.out.alloc (.cells #[iv a0, iv a1, iv a2, iv a3, iv a4] 101))
  have HX1 := hid (Blk.new wb #[iv a0, iv a1, iv a2, iv a3, iv a4] 101)
  clear HKb HRb
  go_wp2_with fail
  refine (l1Below_any _ _ HK1.out.1).mono ?_
  rintro e w2 ⟨s, rfl, -, hc2, hg2⟩
  have HK := hid (HK1.out.next ⟨hc2, hg2⟩)
  have HR := hid (HR1.out.cur hg2 (by omega))
  have HX := hid (HX1.out.cur hg2 (by omega))
  have hz2 : wb.heap.size < w2.heap.size := by have := hg2.size; simp at this; omega
  have hne : w.heap.size ≠ wb.heap.size := by omega
  have hle1 : w.heap.size ≤ wb.heap.size := by omega
  have hle0 : w.heap.size ≤ w.heap.size := Nat.le_refl _
  clear hc2 hg2 HK1 HR1 HX1
  by_cases h0 : s = 0
  · skip
    have e0 : (s == 0) = true := by rw [beq_iff_eq]; exact h0
    clear h0
    have HKA := HK
    have HRA := HR
    have HXA := HX
    go_wp2_with fail
    refine (l1Below_any _ _ HKA.out.1).mono ?_
    rintro e w3 ⟨z, rfl, -, hc3, hg3⟩
    have HR3 := hid (HRA.out.cur hg3 (by omega))
    have HX3 := hid (HXA.out.cur hg3 (by omega))
    have HK3 := hid (HKA.out.next ⟨hc3, hg3⟩)
    clear hc3 hg3 HKA HRA HXA
    have x0 := HX3.out.cell 0 rfl
    have x1 := HX3.out.cell 1 rfl
    have x2 := HX3.out.cell 2 rfl
    have x3 := HX3.out.cell 3 rfl
    have x4 := HX3.out.cell 4 rfl
    have y0 := HX3.out.frozen 0 (by simp)
    have y1 := HX3.out.frozen 1 (by simp)
    have y2 := HX3.out.frozen 2 (by simp)
    have y3 := HX3.out.frozen 3 (by simp)
    have y4 := HX3.out.frozen 4 (by simp)
    have r0 := HR3.out.cell 0 rfl
    have r1 := HR3.out.cell 1 rfl
    have r2 := HR3.out.cell 2 rfl
    have r3 := HR3.out.cell 3 rfl
    have r4 := HR3.out.cell 4 rfl
    have q0 := HR3.out.frozen 0 (by simp)
    have q1 := HR3.out.frozen 1 (by simp)
    have q2 := HR3.out.frozen 2 (by simp)
    have q3 := HR3.out.frozen 3 (by simp)
    have q4 := HR3.out.frozen 4 (by simp)
    clear HX3 HR3 HX HR HK
    go_wp2
    refine bodyPost_ret (v := .agg #[iv z, iv a1, iv a2, iv a3, iv a4]) (by simp [results, Try.results130, go_sem, r0, r1, r2, r3, r4]) rfl ⟨_, _, _, _, _, rfl, by omega, ?_⟩
    have h9 := HK3.out
    clear HK3
    repeat (first | with_reducible exact h9 | refine Kb.set ?_ hg (by first | exact hle0 | exact hle1) _)
  have e0 : (s == 0) = false := by rw [beq_eq_false_iff_ne]; exact h0
  clear h0
  by_cases h1 : s = 1
  · skip
    have e1 : (s == 1) = true := by rw [beq_iff_eq]; exact h1
    clear h1
    have HL := hid ((Own.of (World.ownsRow_lit (base := w2.heap.size) (e := 3) (size := 1) w2 #[iv (-1), iv 3] 2 (Nat.le_refl _) (by decide) rfl)).si (zs := [-1, 3]))
    have HKA := hid (HK.out.alloc hg (.cells #[iv (-1), iv 3] 3))
    have HRA := hid (HR.out.alloc (.cells #[iv (-1), iv 3] 3))
    have HXA := hid (HX.out.alloc (.cells #[iv (-1), iv 3] 3))
    go_wp2_with fail
    refine (l1Int_any _ HKA.out.1 HL.out (Nat.le_refl _) (by intro b off n c h; simp only [Value.slice.injEq, Option.some.injEq, Addr.mk.injEq] at h; omega) (by decide)).mono ?_
    rintro e w3 ⟨z, rfl, -, hc3, hg3⟩
    clear HL
    have HR3 := hid (HRA.out.cur hg3 (by omega))
    have HX3 := hid (HXA.out.cur hg3 (by omega))
    have HK3 := hid (HKA.out.next ⟨hc3, hg3⟩)
    clear hc3 hg3 HKA HRA HXA
    have x0 := HX3.out.cell 0 rfl
    have x1 := HX3.out.cell 1 rfl
    have x2 := HX3.out.cell 2 rfl
    have x3 := HX3.out.cell 3 rfl
    have x4 := HX3.out.cell 4 rfl
    have y0 := HX3.out.frozen 0 (by simp)
    have y1 := HX3.out.frozen 1 (by simp)
    have y2 := HX3.out.frozen 2 (by simp)
    have y3 := HX3.out.frozen 3 (by simp)
    have y4 := HX3.out.frozen 4 (by simp)
    have r0 := HR3.out.cell 0 rfl
    have r1 := HR3.out.cell 1 rfl
    have r2 := HR3.out.cell 2 rfl
    have r3 := HR3.out.cell 3 rfl
    have r4 := HR3.out.cell 4 rfl
    have q0 := HR3.out.frozen 0 (by simp)
    have q1 := HR3.out.frozen 1 (by simp)
    have q2 := HR3.out.frozen 2 (by simp)
    have q3 := HR3.out.frozen 3 (by simp)
    have q4 := HR3.out.frozen 4 (by simp)
    clear HX3 HR3 HX HR HK
    go_wp2
    refine bodyPost_ret (v := .agg #[iv a0, iv z, iv a2, iv a3, iv a4]) (by simp [results, Try.results130, go_sem, r0, r1, r2, r3, r4]) rfl ⟨_, _, _, _, _, rfl, by omega, ?_⟩
    have h9 := HK3.out
    clear HK3
    repeat (first | with_reducible exact h9 | refine Kb.set ?_ hg (by first | exact hle0 | exact hle1) _)
  have e1 : (s == 1) = false := by rw [beq_eq_false_iff_ne]; exact h1
  clear h1
  by_cases h2 : s = 2
  · skip
    have e2 : (s == 2) = true := by rw [beq_iff_eq]; exact h2
    clear h2
    have HKA := HK
    have HRA := HR
    have HXA := HX
    go_wp2_with fail
    refine (l4Raw_any _ HKA.out.1).mono ?_
    rintro e w3 ⟨z, rfl, -, hc3, hg3⟩
    have HR3 := hid (HRA.out.cur hg3 (by omega))
    have HX3 := hid (HXA.out.cur hg3 (by omega))
    have HK3 := hid (HKA.out.next ⟨hc3, hg3⟩)
    clear hc3 hg3 HKA HRA HXA
    have x0 := HX3.out.cell 0 rfl
    have x1 := HX3.out.cell 1 rfl
    have x2 := HX3.out.cell 2 rfl
    have x3 := HX3.out.cell 3 rfl
    have x4 := HX3.out.cell 4 rfl
    have y0 := HX3.out.frozen 0 (by simp)
    have y1 := HX3.out.frozen 1 (by simp)
    have y2 := HX3.out.frozen 2 (by simp)
    have y3 := HX3.out.frozen 3 (by simp)
    have y4 := HX3.out.frozen 4 (by simp)
    have r0 := HR3.out.cell 0 rfl
    have r1 := HR3.out.cell 1 rfl
    have r2 := HR3.out.cell 2 rfl
    have r3 := HR3.out.cell 3 rfl
    have r4 := HR3.out.cell 4 rfl
    have q0 := HR3.out.frozen 0 (by simp)
    have q1 := HR3.out.frozen 1 (by simp)
    have q2 := HR3.out.frozen 2 (by simp)
    have q3 := HR3.out.frozen 3 (by simp)
    have q4 := HR3.out.frozen 4 (by simp)
    clear HX3 HR3 HX HR HK
    go_wp2
    refine bodyPost_ret (v := .agg #[iv a0, iv a1, iv z, iv a3, iv a4]) (by simp [results, Try.results130, go_sem, r0, r1, r2, r3, r4]) rfl ⟨_, _, _, _, _, rfl, by omega, ?_⟩
    have h9 := HK3.out
    clear HK3
    repeat (first | with_reducible exact h9 | refine Kb.set ?_ hg (by first | exact hle0 | exact hle1) _)
  have e2 : (s == 2) = false := by rw [beq_eq_false_iff_ne]; exact h2
  clear h2
  by_cases h3 : s = 3
  · skip
    have e3 : (s == 3) = true := by rw [beq_iff_eq]; exact h3
    clear h3
    have x0 := HX.out.cell 0 rfl
    have x1 := HX.out.cell 1 rfl
    have x2 := HX.out.cell 2 rfl
    have x3 := HX.out.cell 3 rfl
    have x4 := HX.out.cell 4 rfl
    have y0 := HX.out.frozen 0 (by simp)
    have y1 := HX.out.frozen 1 (by simp)
    have y2 := HX.out.frozen 2 (by simp)
    have y3 := HX.out.frozen 3 (by simp)
    have y4 := HX.out.frozen 4 (by simp)
    have r0 := HR.out.cell 0 rfl
    have r1 := HR.out.cell 1 rfl
    have r2 := HR.out.cell 2 rfl
    have r3 := HR.out.cell 3 rfl
    have r4 := HR.out.cell 4 rfl
    have q0 := HR.out.frozen 0 (by simp)
    have q1 := HR.out.frozen 1 (by simp)
    have q2 := HR.out.frozen 2 (by simp)
    have q3 := HR.out.frozen 3 (by simp)
    have q4 := HR.out.frozen 4 (by simp)
    clear HX HR
    go_wp2
    refine bodyPost_ret (v := .agg #[iv a0, iv a1, iv a2, iv (a3 + 1), iv a4]) (by simp [results, Try.results130, go_sem, r0, r1, r2, r3, r4]) rfl ⟨_, _, _, _, _, rfl, by omega, ?_⟩
    have h9 := HK.out
    clear HK
    repeat (first | with_reducible exact h9 | refine Kb.set ?_ hg (by first | exact hle0 | exact hle1) _)
  have e3 : (s == 3) = false := by rw [beq_eq_false_iff_ne]; exact h3
  clear h3
  by_cases h4 : s = 4
  · skip
    have e4 : (s == 4) = true := by rw [beq_iff_eq]; exact h4
    clear h4
    have x0 := HX.out.cell 0 rfl
    have x1 := HX.out.cell 1 rfl
    have x2 := HX.out.cell 2 rfl
    have x3 := HX.out.cell 3 rfl
    have x4 := HX.out.cell 4 rfl
    have y0 := HX.out.frozen 0 (by simp)
    have y1 := HX.out.frozen 1 (by simp)
    have y2 := HX.out.frozen 2 (by simp)
    have y3 := HX.out.frozen 3 (by simp)
    have y4 := HX.out.frozen 4 (by simp)
    have r0 := HR.out.cell 0 rfl
    have r1 := HR.out.cell 1 rfl
    have r2 := HR.out.cell 2 rfl
    have r3 := HR.out.cell 3 rfl
    have r4 := HR.out.cell 4 rfl
    have q0 := HR.out.frozen 0 (by simp)
    have q1 := HR.out.frozen 1 (by simp)
    have q2 := HR.out.frozen 2 (by simp)
    have q3 := HR.out.frozen 3 (by simp)
    have q4 := HR.out.frozen 4 (by simp)
    clear HX HR
    go_wp2
    refine bodyPost_ret (v := .agg #[iv a0, iv a1, iv a2, iv a3, iv (wrap64 (a4 + 1))]) (by simp [results, Try.results130, go_sem, r0, r1, r2, r3, r4]) rfl ⟨_, _, _, _, _, rfl, by omega, ?_⟩
    have h9 := HK.out
    clear HK
    repeat (first | with_reducible exact h9 | refine Kb.set ?_ hg (by first | exact hle0 | exact hle1) _)
  have e4 : (s == 4) = false := by rw [beq_eq_false_iff_ne]; exact h4
  clear h4
  have x0 := HX.out.cell 0 rfl
  have x1 := HX.out.cell 1 rfl
  have x2 := HX.out.cell 2 rfl
  have x3 := HX.out.cell 3 rfl
  have x4 := HX.out.cell 4 rfl
  have y0 := HX.out.frozen 0 (by simp)
  have y1 := HX.out.frozen 1 (by simp)
  have y2 := HX.out.frozen 2 (by simp)
  have y3 := HX.out.frozen 3 (by simp)
  have y4 := HX.out.frozen 4 (by simp)
  have r0 := HR.out.cell 0 rfl
  have r1 := HR.out.cell 1 rfl
  have r2 := HR.out.cell 2 rfl
  have r3 := HR.out.cell 3 rfl
  have r4 := HR.out.cell 4 rfl
  have q0 := HR.out.frozen 0 (by simp)
  have q1 := HR.out.frozen 1 (by simp)
  have q2 := HR.out.frozen 2 (by simp)
  have q3 := HR.out.frozen 3 (by simp)
  have q4 := HR.out.frozen 4 (by simp)
  clear HX HR
  go_wp2
  refine bodyPost_ret (v := .agg #[iv a0, iv a1, iv a2, iv a3, iv a4]) (by simp [results, Try.results130, go_sem, r0, r1, r2, r3, r4]) rfl ⟨_, _, _, _, _, rfl, by omega, ?_⟩
  have h9 := HK.out
  clear HK
  repeat (first | with_reducible exact h9 | refine Kb.set ?_ hg (by first | exact hle0 | exact hle1) _)
def DrewKeysStamp (w : World) (e : Ending) (w' : World) : Prop :=
  ∃ (u : Value) (ks : List (List Int)) (x : Value) (ls : List (List Int)) (a0 a1 a2 a3 a4 : Int), e = .returned (.tuple #[u, x, .agg #[iv a0, iv a1, iv a2, iv a3, iv a4]]) ∧ (0 ≤ a3 ∧ a3 ≤ 99) ∧ (∀ r ∈ ks, r.length = 5) ∧ ks.length = 10 ∧ (∀ r ∈ ls, r.length = 3) ∧ ls.length = 4 ∧ (∀ k, k < 4 → fld ls k 2 ≤ 9223372036854775807) ∧ Own w' 64 5 u w.heap.size w'.heap.size ks.length (flat ks) ∧ Own w' 183 3 x w.heap.size w'.heap.size ls.length (flat ls) ∧ Below w.heap.size w w'
set_option maxHeartbeats 4000000 in
theorem DrawMakeStamp_any {n : Nat} {v : Value} (w : World) (hv : Bytes w.heap.size w v n) (hn : n ≤ 1048576) :
    Calls Try.prog 64 #[v] w (DrewKeysStamp w) := by
  have HV := hid ((hv.below (below_alloc w (.cells #[iv 0, iv 0, iv 0, iv 0, iv 0] 101)) (Nat.le_refl _)).mono (B' := (w.alloc (.cells #[iv 0, iv 0, iv 0, iv 0, iv 0] 101)).heap.size) (by simp))
  have HX0 := hid (Blk.new w #[iv 0, iv 0, iv 0, iv 0, iv 0] 101)
  clear hv
  go_enter Try.func64, Try.ntmps64
  go_wp2_with fail
  refine (l1New_any _ HV.out hn).mono ?_
  rintro e w1 ⟨rfl, hc1, hb1⟩
  have HX1 := hid (HX0.out.below hb1)
  have HB1 := hid (below_step (below_alloc w (.cells #[iv 0, iv 0, iv 0, iv 0, iv 0] 101)) hb1)
  have hg := hc1.lt
  have HK1 := hid (Kb.refl hc1)
  obtain ⟨g, hgg⟩ : ∃ g, g = (w.alloc (.cells #[iv 0, iv 0, iv 0, iv 0, iv 0] 101)).heap.size := ⟨_, rfl⟩
  rw [← hgg] at hg HK1 ⊢
  have hgw : w.heap.size < g := by rw [hgg]; simp
  clear hb1 hc1 hgg
  go_wp2_with fail
  refine (l8Any_any _ HK1.out.1).mono ?_
  rintro e w2 ⟨u, ks, rfl, h2, hl, ho2, hk2⟩
  have HK2 := hid (HK1.out.next hk2)
  have HX2 := hid (HX1.out.cur hk2.2 (by omega))
  have HO2 := hid ho2
  have H2 := hid h2
  have hz2 := hk2.2.size
  clear ho2 hk2 h2
  go_wp2_with fail
  refine (l11Any_any _ HK2.out.1).mono ?_
  rintro e w3 ⟨x, ls, rfl, h3, hl3, hf3, ho3, hk3⟩
  have HK3 := hid (HK2.out.next hk3)
  have HX3 := hid (HX2.out.cur hk3.2 (by omega))
  have HO3 := hid (Own.cur HO2.out hk3.2 hg (Nat.le_refl _))
  have HP3 := hid ho3
  have H3 := hid h3
  have HF3 := hid hf3
  have hz3 := hk3.2.size
  clear ho3 hk3 h3 hf3
  go_wp2_with fail
  refine (l11Bent_any _ HK3.out.1).mono ?_
  rintro e w4 ⟨a0, a1, a2, a3, a4, rfl, ha3, hk4⟩
  have HK4 := hid (HK3.out.next hk4)
  have HO4 := hid (Own.cur HO3.out hk4.2 hg (by omega))
  have HP4 := hid (Own.cur HP3.out hk4.2 (by omega) (Nat.le_refl _))
  have HX4 := hid (HX3.out.cur hk4.2 (by omega))
  have hz4 := hk4.2.size
  have r0 := HX4.out.cell 0 rfl
  have r1 := HX4.out.cell 1 rfl
  have r2 := HX4.out.cell 2 rfl
  have r3 := HX4.out.cell 3 rfl
  have r4 := HX4.out.cell 4 rfl
  have q0 := HX4.out.frozen 0 (by simp)
  have q1 := HX4.out.frozen 1 (by simp)
  have q2 := HX4.out.frozen 2 (by simp)
  have q3 := HX4.out.frozen 3 (by simp)
  have q4 := HX4.out.frozen 4 (by simp)
  clear hk4 HX4 HX3 HX2 HX1 HX0
  go_wp2
  refine bodyPost_ret (v := .tuple #[u, x, .agg #[iv a0, iv a1, iv a2, iv a3, iv a4]]) (by simp [results, Try.results64, go_sem, r0, r1, r2, r3, r4]) rfl ⟨_, ks, _, ls, _, _, _, _, _, rfl, ha3, H2.out, hl, H3.out, hl3, HF3.out, ?_, ?_, ?_⟩
  · have h9 := HO4.out.mono (lo' := w.heap.size + 1) (hi' := w4.heap.size) (by omega) (by omega)
    refine (h9.apart (hi0 := w.heap.size + 1) ?_ (Nat.le_refl _)).mono (by omega) (by simp)
    repeat (first | with_reducible exact Apart.refl _ _ | refine Apart.setCell ?_ (by simp) _)
  · have h9 := HP4.out.mono (lo' := w.heap.size + 1) (hi' := w4.heap.size) (by omega) (by omega)
    refine (h9.apart (hi0 := w.heap.size + 1) ?_ (Nat.le_refl _)).mono (by omega) (by simp)
    repeat (first | with_reducible exact Apart.refl _ _ | refine Apart.setCell ?_ (by simp) _)
  · have h9 := kb_below HB1.out (Nat.le_of_lt hgw) hg HK4.out
    repeat (first | with_reducible exact h9 | refine Below.setCell ?_ (by simp) _)
def DrewAuthStamp (w : World) (e : Ending) (w' : World) : Prop :=
  ∃ (x : Value) (ls : List (List Int)) (a0 a1 a2 a3 a4 : Int), e = .returned (.tuple #[x, .agg #[iv a0, iv a1, iv a2, iv a3, iv a4]]) ∧ (∀ r ∈ ls, r.length = 3) ∧ ls.length = 4 ∧ (∀ k, k < 4 → fld ls k 2 ≤ 9223372036854775807) ∧ Own w' 183 3 x w.heap.size w'.heap.size ls.length (flat ls) ∧ Below w.heap.size w w'
set_option maxHeartbeats 4000000 in
theorem DrawStampSpan_any {n : Nat} {v : Value} (w : World) (hv : Bytes w.heap.size w v n) (hn : n ≤ 1048576) :
    Calls Try.prog 69 #[v] w (DrewAuthStamp w) := by
  have HV := hid ((hv.below (below_alloc w (.cells #[iv 0, iv 0, iv 0, iv 0, iv 0] 101)) (Nat.le_refl _)).mono (B' := (w.alloc (.cells #[iv 0, iv 0, iv 0, iv 0, iv 0] 101)).heap.size) (by simp))
  have HX0 := hid (Blk.new w #[iv 0, iv 0, iv 0, iv 0, iv 0] 101)
  clear hv
  go_enter Try.func69, Try.ntmps69
  go_wp2_with fail
  refine (DrawMakeStamp_any _ HV.out hn).mono ?_
  rintro e w1 ⟨u, ks, x, ls, a0, a1, a2, a3, a4, rfl, -, -, -, h3, hl3, hf3, -, hP, hb1⟩
  have HX1 := hid (HX0.out.below hb1)
  have HP := hid hP
  have H3 := hid h3
  have HF3 := hid hf3
  have HB1 := hid (below_step (below_alloc w (.cells #[iv 0, iv 0, iv 0, iv 0, iv 0] 101)) hb1)
  have hz1 : w.heap.size < w1.heap.size := by have := hb1.size; simp at this; omega
  clear hb1 hP h3 hf3 HX0 HV
  have r0 := HX1.out.cell 0 rfl
  have r1 := HX1.out.cell 1 rfl
  have r2 := HX1.out.cell 2 rfl
  have r3 := HX1.out.cell 3 rfl
  have r4 := HX1.out.cell 4 rfl
  have q0 := HX1.out.frozen 0 (by simp)
  have q1 := HX1.out.frozen 1 (by simp)
  have q2 := HX1.out.frozen 2 (by simp)
  have q3 := HX1.out.frozen 3 (by simp)
  have q4 := HX1.out.frozen 4 (by simp)
  clear HX1
  have HBA := hid (HB1.out.alloc HB1.out.size (.cells #[iv a0, iv a1, iv a2, iv a3, iv a4] 101))
  have HPA := hid (HP.out.below (below_alloc w1 (.cells #[iv a0, iv a1, iv a2, iv a3, iv a4] 101)) (Nat.le_refl _))
  have hne : w.heap.size ≠ w1.heap.size := by omega
  go_wp2_with fail
  go_region
  all_goals
    go_wp2
    refine bodyPost_ret (v := .tuple #[x, .agg #[iv a0, iv a1, iv a2, iv a3, iv a4]]) (by simp [results, Try.results69, go_sem, r0, r1, r2, r3, r4, hz1]) rfl ⟨_, ls, _, _, _, _, _, rfl, H3.out, hl3, HF3.out, ?_, ?_⟩
    · have h9 := HP.out.mono (lo' := w.heap.size + 1) (hi' := w1.heap.size) (by simp) (Nat.le_refl _)
      have h8 : ∀ W : World, Apart (w.heap.size + 1) w1 W → w1.heap.size ≤ W.heap.size → Own ((W.alloc (.cells #[iv a0, iv a1, iv a2, iv a3, iv a4] 101)).drew) 183 3 x (w.heap.size + 1) w1.heap.size ls.length (flat ls) := fun W q1 q2 => ((h9.apart q1 (Nat.le_refl _)).below (below_alloc W (.cells #[iv a0, iv a1, iv a2, iv a3, iv a4] 101)) q2).below (Below.refl (W.alloc (.cells #[iv a0, iv a1, iv a2, iv a3, iv a4] 101)).heap.size (W.alloc (.cells #[iv a0, iv a1, iv a2, iv a3, iv a4] 101))).drew (Nat.le_trans q2 (below_alloc W (.cells #[iv a0, iv a1, iv a2, iv a3, iv a4] 101)).size)
      have hls : w.heap.size < w.heap.size + 1 := Nat.lt_succ_self _
      refine (h8 _ ?_ (by simp)).mono (by omega) (by simp)
      repeat (first | with_reducible exact Apart.refl _ _ | with_reducible refine Apart.setCell ?_ hls _)
    · have h9 := HB1.out
      have hle0 : w.heap.size ≤ w.heap.size := Nat.le_refl _
      repeat (first | with_reducible exact h9 | with_reducible refine Below.drew ?_ | with_reducible refine Below.setCell ?_ hle0 _ | with_reducible refine Below.alloc ?_ (by simp; try omega) _)
end Go.Proofs.Ytkdpfbodmfjkkaa
