/- What the reference draws of statuses: one with its mark, one with a field changed, a list. Condition: the cursor stands over no more than 2^20 bytes. -/
import Derived.Test.YtkdpfbodmfjkkaaRows
import Derived.Test.YtkdpfbodmfjkkaaBase
import Derived.Test.YtkdpfbodmfjkkaaPlain
import Derived.Test.YtkdpfbodmfjkkaaAppend
import Derived.Test.YtkdpfbodmfjkkaaSlices
import Derived.Test.YtkdpfbodmfjkkaaApart
import Derived.Test.YtkdpfbodmfjkkaaCol
import Derived.Test.YtkdpfbodmfjkkaaDraw
import Derived.Test.YtkdpfbodmfjkkaaDrawSpan
import Derived.Test.YtkdpfbodmfjkkaaDrawKey
import Derived.Test.YtkdpfbodmfjkkaaMakeStatus
import Derived.Deep.DeepCutAuto
namespace Go.Proofs.Ytkdpfbodmfjkkaa
open Go.ChangeShapes Go.WideShapes Go.ChangeAt Go.RowKit Go.Deep

theorem Try.infoStatus0 : (Try.prog.info? 89).map (fun i => (i.zero, i.size, i.bytes)) = some (some (.agg #[iv 0, iv 0, iv 0, iv 0, iv 0]), 5, 40) := by kernel_rfl
/-- Block g is a box of five numbers. -/
def Box5 (g : Nat) (w : World) (a b c d e : Int) : Prop := g < w.heap.size ∧ w.cell? ⟨g, 0, none⟩ = some (iv a) ∧ w.cell? ⟨g, 1, none⟩ = some (iv b) ∧ w.cell? ⟨g, 2, none⟩ = some (iv c) ∧ w.cell? ⟨g, 3, none⟩ = some (iv d) ∧ w.cell? ⟨g, 4, none⟩ = some (iv e) ∧ w.frozen? ⟨g, 0, none⟩ = false ∧ w.frozen? ⟨g, 1, none⟩ = false ∧ w.frozen? ⟨g, 2, none⟩ = false ∧ w.frozen? ⟨g, 3, none⟩ = false ∧ w.frozen? ⟨g, 4, none⟩ = false
theorem Box5.new (w : World) (a b c d e : Int) (T : TypeId) : Box5 w.heap.size (w.alloc (.cells #[iv a, iv b, iv c, iv d, iv e] T)) a b c d e := by
  refine ⟨by simp, ?_, ?_, ?_, ?_, ?_, ?_, ?_, ?_, ?_, ?_⟩ <;> simp [go_sem]
theorem Box5.below {g : Nat} {w w1 : World} {a b c d e : Int} (h : Box5 g w a b c d e) (hb : Below w.heap.size w w1) : Box5 g w1 a b c d e := by
  obtain ⟨h0, h1, h2, h3, h4, h5, h6, h7, h8, h9, h10⟩ := h
  obtain ⟨hc, hf⟩ := bcell hb
  exact ⟨Nat.lt_of_lt_of_le h0 hb.size, (hc _ _ h0).trans h1, (hc _ _ h0).trans h2, (hc _ _ h0).trans h3, (hc _ _ h0).trans h4, (hc _ _ h0).trans h5, (hf _ _ h0).trans h6, (hf _ _ h0).trans h7, (hf _ _ h0).trans h8, (hf _ _ h0).trans h9, (hf _ _ h0).trans h10⟩
theorem Box5.drew {g : Nat} {w : World} {a b c d e : Int} (h : Box5 g w a b c d e) : Box5 g w.drew a b c d e := h.below (Below.refl _ _).drew
theorem Box5.grown {g : Nat} {w w1 : World} {a b c d e : Int} {row : Option Nat} (h : Box5 g w a b c d e) (hg : w.grownBy w1 row) (hne : some g ≠ row) : Box5 g w1 a b c d e := by
  obtain ⟨h0, h1, h2, h3, h4, h5, h6, h7, h8, h9, h10⟩ := h
  exact ⟨Nat.lt_of_lt_of_le h0 hg.size, (hg.cell_far ⟨g, 0, none⟩ h0 hne).trans h1, (hg.cell_far ⟨g, 1, none⟩ h0 hne).trans h2, (hg.cell_far ⟨g, 2, none⟩ h0 hne).trans h3, (hg.cell_far ⟨g, 3, none⟩ h0 hne).trans h4, (hg.cell_far ⟨g, 4, none⟩ h0 hne).trans h5, (hg.frozen_far ⟨g, 0, none⟩ h0 hne).trans h6, (hg.frozen_far ⟨g, 1, none⟩ h0 hne).trans h7, (hg.frozen_far ⟨g, 2, none⟩ h0 hne).trans h8, (hg.frozen_far ⟨g, 3, none⟩ h0 hne).trans h9, (hg.frozen_far ⟨g, 4, none⟩ h0 hne).trans h10⟩
theorem Box5.cur {q g : Nat} {w w1 : World} {a b c d e : Int} (h : Box5 q w a b c d e) (hg : w.grownBy w1 (some g)) (hne : q ≠ g) : Box5 q w1 a b c d e := h.grown hg (by intro e; injection e with e; exact hne e)
theorem Box5.set2 {g : Nat} {w : World} {a b c d e : Int} (h : Box5 g w a b c d e) (z : Int) : Box5 g (w.setCell ⟨g, 2, none⟩ (iv z)) a b z d e := by
  obtain ⟨h0, h1, h2, h3, h4, h5, h6, h7, h8, h9, h10⟩ := h
  refine ⟨by simpa using h0, ?_, ?_, ?_, ?_, ?_, ?_, ?_, ?_, ?_, ?_⟩ <;> simp [go_sem, h1, h2, h3, h4, h5, h6, h7, h8, h9, h10]
theorem Box5.far {q g k : Nat} {w : World} {a b c d e : Int} (h : Box5 q w a b c d e) (hne : q ≠ g) (u : Value) : Box5 q (w.setCell ⟨g, k, none⟩ u) a b c d e := h.cur (g := g) ⟨rfl, rfl, rfl, by simp, fun i hi hn => Below.heap_setCell _ _ _ _ (fun e => hn (congrArg some e))⟩ hne
/-- The numbers of a drawn status. -/
def StOk (a1 a2 : Int) : Prop := (0 ≤ a1 ∧ a1 ≤ 59) ∧ (-1 ≤ a2 ∧ a2 ≤ 60)
def StRow (r : List Int) : Prop := ∃ a0 a1 a2 a3 a4, r = [a0, a1, a2, a3, a4] ∧ StOk a1 a2
theorem specMakeStatus_some {B : Nat} {ks : List (List Int)} {v : Value} (a0 a1 a2 a3 a4 : Int) (w : World) (h : Sl B w 5 v ks) (hB : B ≤ w.heap.size) (h1 : StOk a1 a2) :
    Calls Try.prog 185 #[v, .agg #[iv a0, iv a1, iv a2, iv a3, iv a4]] w fun e w' => ∃ b0 b1 b2 b3 b4 ok, e = .returned (.tuple #[.agg #[iv b0, iv b1, iv b2, iv b3, iv b4], .bool ok]) ∧ StOk b1 b2 ∧ Below w.heap.size w w' := by
  by_cases hno : statusB a0 a1 a2 a3 a4 = false ∨ findI 0 a3 ks = -1
  · refine (specMakeStatus_any_no a0 a1 a2 a3 a4 w h hB hno).mono ?_
    rintro e w' ⟨rfl, hb⟩
    exact ⟨0, 0, 0, 0, 0, false, rfl, by unfold StOk; omega, hb⟩
  · rcases findI_range 0 a3 ks with hf | ⟨k, hk, hf, -⟩
    · exact absurd (.inr hf) hno
    · refine (specMakeStatus_any_yes a0 a1 a2 a3 a4 w h hB (by cases hs : statusB a0 a1 a2 a3 a4 with | false => exact absurd (.inl hs) hno | true => rfl) k hk hf).mono ?_
      rintro e w' ⟨rfl, hb⟩
      exact ⟨_, _, _, _, _, _, rfl, h1, hb⟩
def CurStat (g : Nat) (w : World) (e : Ending) (w' : World) : Prop := ∃ a0 a1 a2 a3 a4, e = .returned (.agg #[iv a0, iv a1, iv a2, iv a3, iv a4]) ∧ StOk a1 a2 ∧ Kb g w w'
set_option maxRecDepth 16000 in
set_option maxHeartbeats 16000000 in
theorem l10Draw_any {g : Nat} (w : World) (hc : Cur g w) : Calls Try.prog 170 #[.pointer (some ⟨g, 0, none⟩)] w (CurStat g w) := by
  have hg := hc.lt
  have HK0 := hid ((Kb.refl hc).alloc hg (.cells #[iv 0, iv 0, iv 0, iv 0, iv 0] 89))
  have HR0 := hid (Box5.new w 0 0 0 0 0 89)
  clear hc
  go_enter Try.func170, Try.ntmps170
  go_wp2_with fail
  refine (l1Below_any _ _ HK0.out.1).mono ?_
  rintro e w1 ⟨t, rfl, ⟨t0, t1, -⟩, hc, hgr⟩
  have HK1 := hid (HK0.out.next ⟨hc, hgr⟩)
  have HR1 := hid (HR0.out.cur hgr (by omega))
  have hz1 : w.heap.size < w1.heap.size := by have := hgr.size; (first | omega | (simp at this; omega))
  replace t1 := t1 (by omega)
  clear hc hgr
  go_wp2_with fail
  refine (l1Below_any _ _ HK1.out.1).mono ?_
  rintro e w2 ⟨s, rfl, ⟨s0, s1, -⟩, hc, hgr⟩
  have HK2 := hid (HK1.out.next ⟨hc, hgr⟩)
  have HR2 := hid (HR1.out.cur hgr (by omega))
  have hz2 : w.heap.size < w2.heap.size := by have := hgr.size; (first | omega | (simp at this; omega))
  replace s1 := s1 (by omega)
  clear hc hgr
  go_wp2_with fail
  refine (l1Below_any _ _ HK2.out.1).mono ?_
  rintro e w3 ⟨i, rfl, ⟨i0, i1, -⟩, hc, hgr⟩
  have HK3 := hid (HK2.out.next ⟨hc, hgr⟩)
  have HR3 := hid (HR2.out.cur hgr (by omega))
  have hz3 : w.heap.size < w3.heap.size := by have := hgr.size; (first | omega | (simp at this; omega))
  replace i1 := i1 (by omega)
  clear hc hgr
  obtain ⟨bx, hbx⟩ : ∃ bx, bx = w3.heap.size := ⟨_, rfl⟩
  have HK4 := hid (HK3.out.alloc hg (.cells #[iv (1 + s), iv t, iv (-1), iv (1 + i), iv 0] 89))
  have HR4 := hid (HR3.out.below (below_alloc w3 (.cells #[iv (1 + s), iv t, iv (-1), iv (1 + i), iv 0] 89)))
  have HX4 := hid (Box5.new w3 (1 + s) t (-1) (1 + i) 0 89)
  have hgb : g < bx := by omega
  have hbw : w.heap.size < bx := by omega
  go_wp2_with fail
  refine (l1Once_any _ _ HK4.out.1).mono ?_
  rintro e w5 ⟨b, rfl, hc5, hg5⟩
  have HK5 := hid (HK4.out.next ⟨hc5, hg5⟩)
  have HR5 := hid (HR4.out.cur hg5 (by omega))
  have HX5 := hid (HX4.out.cur hg5 (by omega))
  rw [← hbx] at HX5
  clear hc5 hg5 HK4 HR4 HX4 HK3 HR3 HK2 HR2 HK1 HR1 HK0 HR0
  cases b
  · have HKr := HK5
    have HRr := HR5
    rw [hbx] at HX5
    have HXr := HX5
    clear HK5 HR5 HX5
    have hst : Hid (StOk t (-1)) := hid (by unfold StOk; omega)
    go_wp2_with fail
    have hxl := HXr.out.1
    have hrl := HRr.out.1
    obtain ⟨-, x0, x1, x2, x3, x4, -, -, -, -, -⟩ := HXr.out
    go_region_with (first | (go_at_call 164; refine (l8Keys_any _).mono ?_; rintro e wk ⟨rfl, hok, hbk, -⟩; have HOk := hid (Own.sl (ks := keys10) (Own.of hok) keys10_len); have HRk := hid (HRr.out.drew.below hbk); have HXk := hid (HXr.out.drew.below hbk); have HKk := hid (HKr.out.via hg ((Below.refl _ _).drew.mono (HKr.out.2.size))); obtain ⟨-, y0, y1, y2, y3, y4, -, -, -, -, -⟩ := HXk.out; have HBk := hid hbk; clear hok hbk) | (go_at_call 185; refine (specMakeStatus_some _ _ _ _ _ _ HOk.out (Nat.le_refl _) hst.out).mono ?_; rintro e wm ⟨b0, b1, b2, b3, b4, ok, rfl, hbo, hbm⟩; have HBO := hid hbo; obtain ⟨hzx, z0, z1, z2, z3, z4, z5, z6, z7, z8, z9⟩ := HXk.out.below hbm; obtain ⟨hzr, r0, r1, r2, r3, r4, r5, r6, r7, r8, r9⟩ := HRk.out.below hbm; have HKm := hid ((HKr.out.via hg (Below.drew (Below.refl _ _))).via hg ((below_step HBk.out hbm).mono HKr.out.2.size)); clear hbm hbo))
    all_goals
      have hne : w.heap.size ≠ w3.heap.size := by omega
      have hle3 : w.heap.size ≤ w3.heap.size := by omega
      have hle0 : w.heap.size ≤ w.heap.size := Nat.le_refl _
      clear HXr HRr HKr HOk HRk HXk HKk HBk y0 y1 y2 y3 y4
      go_wp2
      refine bodyPost_ret (v := .agg #[iv b0, iv b1, iv b2, iv b3, iv b4]) (by simp [results, Try.results170, go_sem, r0, r1, r2, r3, r4]) rfl ⟨_, _, _, _, _, rfl, HBO.out, ?_⟩
      have h9 := HKm.out
      clear HKm HBO
      iterate 10 (refine Kb.set ?_ hg (by first | exact hle0 | exact hle3) _)
      exact h9
  · skip
    have hz5 : w.heap.size < w5.heap.size := by have := HX5.out.1; omega
    go_wp2_with fail
    refine (l1Below_any _ _ HK5.out.1).mono ?_
    rintro e w6 ⟨r, rfl, ⟨hr0, hr1, -⟩, hc6, hg6⟩
    replace hr1 := hr1 (by omega)
    rw [hbx] at HX5
    have HX6 := hid (HX5.out.cur hg6 (by omega))
    have HKr := hid ((HK5.out.next ⟨hc6, hg6⟩).set hg (p := ⟨w3.heap.size, 2, none⟩) (by show w.heap.size ≤ w3.heap.size; omega) (iv r))
    have HRr := hid ((HR5.out.cur hg6 (by omega)).far (g := w3.heap.size) (k := 2) (by omega) (iv r))
    have HXr := hid (HX6.out.set2 r)
    obtain ⟨-, u0, u1, u2, u3, u4, v0, v1, v2, v3, v4⟩ := HX6.out
    clear hc6 hg6
    have hst : Hid (StOk t r) := hid (by unfold StOk; omega)
    go_wp2_with fail
    generalize w6.setCell ⟨w3.heap.size, 2, none⟩ (iv r) = wr at HKr HRr HXr ⊢
    have hxl := HXr.out.1
    have hrl := HRr.out.1
    obtain ⟨-, x0, x1, x2, x3, x4, -, -, -, -, -⟩ := HXr.out
    go_region_with (first | (go_at_call 164; refine (l8Keys_any _).mono ?_; rintro e wk ⟨rfl, hok, hbk, -⟩; have HOk := hid (Own.sl (ks := keys10) (Own.of hok) keys10_len); have HRk := hid (HRr.out.drew.below hbk); have HXk := hid (HXr.out.drew.below hbk); have HKk := hid (HKr.out.via hg ((Below.refl _ _).drew.mono (HKr.out.2.size))); obtain ⟨-, y0, y1, y2, y3, y4, -, -, -, -, -⟩ := HXk.out; have HBk := hid hbk; clear hok hbk) | (go_at_call 185; refine (specMakeStatus_some _ _ _ _ _ _ HOk.out (Nat.le_refl _) hst.out).mono ?_; rintro e wm ⟨b0, b1, b2, b3, b4, ok, rfl, hbo, hbm⟩; have HBO := hid hbo; obtain ⟨hzx, z0, z1, z2, z3, z4, z5, z6, z7, z8, z9⟩ := HXk.out.below hbm; obtain ⟨hzr, r0, r1, r2, r3, r4, r5, r6, r7, r8, r9⟩ := HRk.out.below hbm; have HKm := hid ((HKr.out.via hg (Below.drew (Below.refl _ _))).via hg ((below_step HBk.out hbm).mono HKr.out.2.size)); clear hbm hbo))
    all_goals
      have hne : w.heap.size ≠ w3.heap.size := by omega
      have hle3 : w.heap.size ≤ w3.heap.size := by omega
      have hle0 : w.heap.size ≤ w.heap.size := Nat.le_refl _
      clear HXr HRr HKr HOk HRk HXk HKk HBk y0 y1 y2 y3 y4
      go_wp2
      refine bodyPost_ret (v := .agg #[iv b0, iv b1, iv b2, iv b3, iv b4]) (by simp [results, Try.results170, go_sem, r0, r1, r2, r3, r4]) rfl ⟨_, _, _, _, _, rfl, HBO.out, ?_⟩
      have h9 := HKm.out
      clear HKm HBO
      iterate 10 (refine Kb.set ?_ hg (by first | exact hle0 | exact hle3) _)
      exact h9
def CurAgg5 (g : Nat) (w : World) (e : Ending) (w' : World) : Prop := ∃ a0 a1 a2 a3 a4, e = .returned (.agg #[iv a0, iv a1, iv a2, iv a3, iv a4]) ∧ Kb g w w'
set_option maxRecDepth 16000 in
set_option maxHeartbeats 16000000 in
theorem l10Any_any {g : Nat} (w : World) (hc : Cur g w) : Calls Try.prog 125 #[.pointer (some ⟨g, 0, none⟩)] w (CurAgg5 g w) := by
  have hg := hc.lt
  have HK0 := hid ((Kb.refl hc).alloc hg (.cells #[iv 0, iv 0, iv 0, iv 0, iv 0] 89))
  have HR0 := hid (Box5.new w 0 0 0 0 0 89)
  clear hc
  go_enter Try.func125, Try.ntmps125
  go_wp2_with fail
  refine (l10Draw_any _ HK0.out.1).mono ?_
  rintro e w1 ⟨a0, a1, a2, a3, a4, rfl, -, hk1⟩
  have hz1 : w.heap.size < w1.heap.size := by have := hk1.2.size; simp at this; omega
  have HK1 := hid ((HK0.out.next hk1).alloc hg (.cells #[iv a0, iv a1, iv a2, iv a3, iv a4] 89))
  have HR1 := hid ((HR0.out.cur hk1.2 (by omega)).below (below_alloc w1 (.cells #[iv a0, iv a1, iv a2, iv a3, iv a4] 89)))
  have HX1 := hid (Box5.new w1 a0 a1 a2 a3 a4 89)
  clear hk1 HK0 HR0
  go_wp2_with fail
  refine (l1Below_any _ _ HK1.out.1).mono ?_
  rintro e w2 ⟨s, rfl, -, hc2, hg2⟩
  have HK := hid (HK1.out.next ⟨hc2, hg2⟩)
  have HR := hid (HR1.out.cur hg2 (by omega))
  have HX := hid (HX1.out.cur hg2 (by omega))
  have hz2 : w1.heap.size < w2.heap.size := by have := hg2.size; simp at this; omega
  have hne : w.heap.size ≠ w1.heap.size := by omega
  have hle1 : w.heap.size ≤ w1.heap.size := by omega
  have hle0 : w.heap.size ≤ w.heap.size := Nat.le_refl _
  clear hc2 hg2 HK1 HR1 HX1
  by_cases h0 : s = 0
  · skip
    have e0 : (s == 0) = true := by rw [beq_iff_eq]; exact h0
    clear h0
    have HL := hid ((Own.of (World.ownsRow_lit (base := w2.heap.size) (e := 3) (size := 1) w2 #[iv 0, iv 999, iv 1000] 3 (Nat.le_refl _) (by decide) rfl)).si (zs := [0, 999, 1000]))
    have HKA := hid (HK.out.alloc hg (.cells #[iv 0, iv 999, iv 1000] 3))
    have HRA := hid (HR.out.below (below_alloc w2 (.cells #[iv 0, iv 999, iv 1000] 3)))
    have HXA := hid (HX.out.below (below_alloc w2 (.cells #[iv 0, iv 999, iv 1000] 3)))
    go_wp2_with fail
    refine (l1Int_any _ HKA.out.1 HL.out (Nat.le_refl _) (by intro b off n c h; simp only [Value.slice.injEq, Option.some.injEq, Addr.mk.injEq] at h; omega) (by decide)).mono ?_
    rintro e w3 ⟨z, rfl, -, hc3, hg3⟩
    clear HL
    have HR3 := hid (HRA.out.cur hg3 (by omega))
    have HX3 := hid (HXA.out.cur hg3 (by omega))
    have HK3 := hid (HKA.out.next ⟨hc3, hg3⟩)
    clear hc3 hg3 HKA HRA HXA
    obtain ⟨-, x0, x1, x2, x3, x4, x5, x6, x7, x8, x9⟩ := HX3.out
    obtain ⟨-, r0, r1, r2, r3, r4, r5, r6, r7, r8, r9⟩ := HR3.out
    clear HX3 HR3 HX HR HK
    go_wp2
    refine bodyPost_ret (v := .agg #[iv z, iv a1, iv a2, iv a3, iv a4]) (by simp [results, Try.results125, go_sem, r0, r1, r2, r3, r4]) rfl ⟨_, _, _, _, _, rfl, ?_⟩
    have h9 := HK3.out
    clear HK3
    iterate 6 (refine Kb.set ?_ hg (by first | exact hle0 | exact hle1) _)
    exact h9
  have e0 : (s == 0) = false := by rw [beq_eq_false_iff_ne]; exact h0
  clear h0
  by_cases h1 : s = 1
  · skip
    have e1 : (s == 1) = true := by rw [beq_iff_eq]; exact h1
    clear h1
    have HKA := HK
    have HRA := HR
    have HXA := HX
    go_wp2_with fail
    refine (l4Raw_any _ HKA.out.1).mono ?_
    rintro e w3 ⟨z, rfl, -, hc3, hg3⟩
    have HR3 := hid (HRA.out.cur hg3 (by omega))
    have HX3 := hid (HXA.out.cur hg3 (by omega))
    have HK3 := hid (HKA.out.next ⟨hc3, hg3⟩)
    clear hc3 hg3 HKA HRA HXA
    obtain ⟨-, x0, x1, x2, x3, x4, x5, x6, x7, x8, x9⟩ := HX3.out
    obtain ⟨-, r0, r1, r2, r3, r4, r5, r6, r7, r8, r9⟩ := HR3.out
    clear HX3 HR3 HX HR HK
    go_wp2
    refine bodyPost_ret (v := .agg #[iv a0, iv z, iv a2, iv a3, iv a4]) (by simp [results, Try.results125, go_sem, r0, r1, r2, r3, r4]) rfl ⟨_, _, _, _, _, rfl, ?_⟩
    have h9 := HK3.out
    clear HK3
    iterate 6 (refine Kb.set ?_ hg (by first | exact hle0 | exact hle1) _)
    exact h9
  have e1 : (s == 1) = false := by rw [beq_eq_false_iff_ne]; exact h1
  clear h1
  by_cases h2 : s = 2
  · skip
    have e2 : (s == 2) = true := by rw [beq_iff_eq]; exact h2
    clear h2
    have HL := hid ((Own.of (World.ownsRow_lit (base := w2.heap.size) (e := 3) (size := 1) w2 #[iv (-2), iv 0, iv 61, iv 62] 4 (Nat.le_refl _) (by decide) rfl)).si (zs := [-2, 0, 61, 62]))
    have HKA := hid (HK.out.alloc hg (.cells #[iv (-2), iv 0, iv 61, iv 62] 3))
    have HRA := hid (HR.out.below (below_alloc w2 (.cells #[iv (-2), iv 0, iv 61, iv 62] 3)))
    have HXA := hid (HX.out.below (below_alloc w2 (.cells #[iv (-2), iv 0, iv 61, iv 62] 3)))
    go_wp2_with fail
    refine (l1Int_any _ HKA.out.1 HL.out (Nat.le_refl _) (by intro b off n c h; simp only [Value.slice.injEq, Option.some.injEq, Addr.mk.injEq] at h; omega) (by decide)).mono ?_
    rintro e w3 ⟨z, rfl, -, hc3, hg3⟩
    clear HL
    have HR3 := hid (HRA.out.cur hg3 (by omega))
    have HX3 := hid (HXA.out.cur hg3 (by omega))
    have HK3 := hid (HKA.out.next ⟨hc3, hg3⟩)
    clear hc3 hg3 HKA HRA HXA
    obtain ⟨-, x0, x1, x2, x3, x4, x5, x6, x7, x8, x9⟩ := HX3.out
    obtain ⟨-, r0, r1, r2, r3, r4, r5, r6, r7, r8, r9⟩ := HR3.out
    clear HX3 HR3 HX HR HK
    go_wp2
    refine bodyPost_ret (v := .agg #[iv a0, iv a1, iv z, iv a3, iv a4]) (by simp [results, Try.results125, go_sem, r0, r1, r2, r3, r4]) rfl ⟨_, _, _, _, _, rfl, ?_⟩
    have h9 := HK3.out
    clear HK3
    iterate 6 (refine Kb.set ?_ hg (by first | exact hle0 | exact hle1) _)
    exact h9
  have e2 : (s == 2) = false := by rw [beq_eq_false_iff_ne]; exact h2
  clear h2
  by_cases h3 : s = 3
  · skip
    have e3 : (s == 3) = true := by rw [beq_iff_eq]; exact h3
    clear h3
    have HKA := HK
    have HRA := HR
    have HXA := HX
    go_wp2_with fail
    refine (l8Number_any _ HKA.out.1).mono ?_
    rintro e w3 ⟨z, rfl, -, hc3, hg3⟩
    have HR3 := hid (HRA.out.cur hg3 (by omega))
    have HX3 := hid (HXA.out.cur hg3 (by omega))
    have HK3 := hid (HKA.out.next ⟨hc3, hg3⟩)
    clear hc3 hg3 HKA HRA HXA
    obtain ⟨-, x0, x1, x2, x3, x4, x5, x6, x7, x8, x9⟩ := HX3.out
    obtain ⟨-, r0, r1, r2, r3, r4, r5, r6, r7, r8, r9⟩ := HR3.out
    clear HX3 HR3 HX HR HK
    go_wp2
    refine bodyPost_ret (v := .agg #[iv a0, iv a1, iv a2, iv z, iv a4]) (by simp [results, Try.results125, go_sem, r0, r1, r2, r3, r4]) rfl ⟨_, _, _, _, _, rfl, ?_⟩
    have h9 := HK3.out
    clear HK3
    iterate 6 (refine Kb.set ?_ hg (by first | exact hle0 | exact hle1) _)
    exact h9
  have e3 : (s == 3) = false := by rw [beq_eq_false_iff_ne]; exact h3
  clear h3
  by_cases h4 : s = 4
  · skip
    have e4 : (s == 4) = true := by rw [beq_iff_eq]; exact h4
    clear h4
    obtain ⟨-, x0, x1, x2, x3, x4, x5, x6, x7, x8, x9⟩ := HX.out
    obtain ⟨-, r0, r1, r2, r3, r4, r5, r6, r7, r8, r9⟩ := HR.out
    clear HX HR
    go_wp2
    refine bodyPost_ret (v := .agg #[iv a0, iv a1, iv a2, iv a3, iv (wrap64 (a4 + 1))]) (by simp [results, Try.results125, go_sem, r0, r1, r2, r3, r4]) rfl ⟨_, _, _, _, _, rfl, ?_⟩
    have h9 := HK.out
    clear HK
    iterate 6 (refine Kb.set ?_ hg (by first | exact hle0 | exact hle1) _)
    exact h9
  have e4 : (s == 4) = false := by rw [beq_eq_false_iff_ne]; exact h4
  clear h4
  obtain ⟨-, x0, x1, x2, x3, x4, x5, x6, x7, x8, x9⟩ := HX.out
  obtain ⟨-, r0, r1, r2, r3, r4, r5, r6, r7, r8, r9⟩ := HR.out
  clear HX HR
  go_wp2
  refine bodyPost_ret (v := .agg #[iv a0, iv a1, iv a2, iv a3, iv a4]) (by simp [results, Try.results125, go_sem, r0, r1, r2, r3, r4]) rfl ⟨_, _, _, _, _, rfl, ?_⟩
  have h9 := HK.out
  clear HK
  iterate 5 (refine Kb.set ?_ hg (by first | exact hle0 | exact hle1) _)
  exact h9
set_option maxHeartbeats 4000000 in
theorem l10List_any {g : Nat} (w : World) (hc : Cur g w) : Calls Try.prog 169 #[.pointer (some ⟨g, 0, none⟩)] w fun e w' => ∃ (v : Value) (ks : List (List Int)), e = .returned v ∧ (∀ r ∈ ks, StRow r) ∧ ks.length ≤ 4 ∧ Own w' 89 5 v w.heap.size w'.heap.size ks.length (flat ks) ∧ Kb g w w' := by
  have hg := hc.lt
  have HK0 := hid ((Kb.refl hc).alloc hg (.cells #[] 89))
  have HO0 := hid (World.ownsRow_lit (base := w.heap.size) (e := 89) (size := 5) w #[] 0 (Nat.le_refl _) (by decide) rfl)
  clear hc
  go_enter Try.func169, Try.ntmps169
  go_wp2_with fail
  refine (l1Below_any _ _ HK0.out.1).mono ?_
  rintro e w1 ⟨r, rfl, ⟨hr0, hr1, -⟩, hc1, hg1⟩
  have HK1 := hid (HK0.out.next ⟨hc1, hg1⟩)
  have HO1 := hid ((Own.cur (Own.of HO0.out) hg1 hg (Nat.le_refl _)).1)
  replace hr1 := hr1 (by omega)
  obtain ⟨m0, rfl⟩ : ∃ m : Nat, r = m := ⟨r.toNat, by omega⟩
  clear hc1 hg1 HO0 HK0
  go_wp2
  go_loopw [3, 4] (fun l i wr => ∃ (m : Nat) (ks : List (List Int)), i = .int .i64 m ∧ ks.length + m ≤ 4 ∧ (∀ r ∈ ks, StRow r) ∧ wr.ownsRow w.heap.size 89 5 l ks.length (flat ks) ∧ Kb g w wr) (fun _ i _ => (intOf i).toNat)
  case atStart => exact ⟨m0, [], rfl, by simp; omega, fun r hr => (by cases hr), HO1.out, HK1.out⟩
  case round =>
    obtain ⟨m, ks, rfl, hm, h2, how, hk⟩ := hrel
    have HOW := hid how
    have HK := hid hk
    have H2 := hid h2
    clear how hk h2
    by_cases hlt : 0 < m
    · have hm1 : (0 : Int) < (m : Int) := by omega
      go_wp2_with fail
      refine (l10Draw_any _ HK.out.1).mono ?_
      rintro e w2 ⟨a0, a1, a2, a3, a4, rfl, hst, hk2⟩
      have HO2 := hid ((Own.cur (Own.of HOW.out) hk2.2 hg (Nat.le_refl _)).1)
      have HK2 := hid (HK.out.next hk2)
      have HST := hid hst
      clear hk2 hst
      go_wp2_with (first | (at_builtin; refine wpList_append_src _ rfl _ _ 84 rfl w.heap.size 89 Try.underlying84 Try.infoStatus0 rfl (by decide) _ _ ks.length 1 _ [iv a0, iv a1, iv a2, iv a3, iv a4] rfl rfl (HO2.out.alloc _) (Src.lit (cs := #[iv a0, iv a1, iv a2, iv a3, iv a4]) (m := 1) (size := 5) (heap_new_at w2 _ (by simp)) rfl (by simp [Value.oneCell']) 1) (by unfold maxLen; omega) (by omega) ((HK2.out.alloc hg _).2.size) ?_; intro v1 w3 hown1 hg1; have HO3 := hid hown1; have HK3 := hid ((HK2.out.alloc hg _).grown hg hg1 (fun k hk => (HO2.out.lt k hk).1)); clear hown1 hg1) | fail)
      go_roundw
      case rel => exact ⟨m - 1, ks ++ [[a0, a1, a2, a3, a4]], by rw [show ((m - 1 : Nat) : Int) = (m : Int) - 1 by omega], by simp; omega, (by intro r hr; rcases List.mem_append.1 hr with h | h; exact H2.out r h; simp at h; subst h; exact ⟨_, _, _, _, _, rfl, HST.out⟩), by rw [List.length_append, flat_append]; exact HO3.out, HK3.out⟩
      case measure => simp [intOf]; omega
    · obtain rfl : m = 0 := by omega
      go_wp2
      go_ret
      exact ⟨_, ks, rfl, H2.out, by omega, Own.of HOW.out, HK.out⟩
end Go.Proofs.Ytkdpfbodmfjkkaa
