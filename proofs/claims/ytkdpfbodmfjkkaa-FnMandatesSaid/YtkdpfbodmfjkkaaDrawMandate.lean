/- What the reference draws of mandates. Condition: no more than 2^20 bytes. -/
import Derived.Test.YtkdpfbodmfjkkaaRows
import Derived.Test.YtkdpfbodmfjkkaaBase
import Derived.Test.YtkdpfbodmfjkkaaPlain
import Derived.Test.YtkdpfbodmfjkkaaAppend
import Derived.Test.YtkdpfbodmfjkkaaSlices
import Derived.Test.YtkdpfbodmfjkkaaApart
import Derived.Test.YtkdpfbodmfjkkaaCol
import Derived.Test.YtkdpfbodmfjkkaaDraw
import Derived.Test.YtkdpfbodmfjkkaaDrawSpan
import Derived.Test.YtkdpfbodmfjkkaaDrawAgreed
import Derived.Test.YtkdpfbodmfjkkaaDrawKey
import Derived.Test.YtkdpfbodmfjkkaaBlk
import Derived.Test.YtkdpfbodmfjkkaaMakeMandate
namespace Go.Proofs.Ytkdpfbodmfjkkaa
open Go.ChangeShapes Go.WideShapes Go.ChangeAt Go.RowKit Go.Deep

theorem Try.infoMandate0 : (Try.prog.info? 135).map (fun i => (i.zero, i.size, i.bytes)) = some (some (.agg #[iv 0, iv 0, iv 0, iv 0, iv 0, iv 0]), 6, 48) := by kernel_rfl
theorem specMakeMandate_some {B : Nat} {ks : List (List Int)} {v : Value} (a0 a1 a2 a3 a4 a5 : Int) (w : World) (h : Sl B w 5 v ks) (hB : B ≤ w.heap.size) :
    Calls Try.prog 191 #[v, .agg #[iv a0, iv a1, iv a2, iv a3, iv a4, iv a5]] w fun e w' => ∃ b0 b1 b2 b3 b4 b5 ok, e = .returned (.tuple #[.agg #[iv b0, iv b1, iv b2, iv b3, iv b4, iv b5], .bool ok]) ∧ Below w.heap.size w w' := by
  by_cases hno : mandateB a0 a1 a2 a3 a4 a5 = false ∨ findI 0 a4 ks = -1
  · refine (specMakeMandate_any_no a0 a1 a2 a3 a4 a5 w h hB hno).mono ?_
    rintro e w' ⟨rfl, hb⟩
    exact ⟨0, 0, 0, 0, 0, 0, false, rfl, hb⟩
  · rcases findI_range 0 a4 ks with hf | ⟨k, hk, hf, -⟩
    · exact absurd (.inr hf) hno
    · refine (specMakeMandate_any_yes a0 a1 a2 a3 a4 a5 w h hB (by cases hs : mandateB a0 a1 a2 a3 a4 a5 with | false => exact absurd (.inl hs) hno | true => rfl) k hk hf).mono ?_
      rintro e w' ⟨rfl, hb⟩
      exact ⟨_, _, _, _, _, _, _, rfl, hb⟩
def CurAgg6 (g : Nat) (w : World) (e : Ending) (w' : World) : Prop := ∃ a0 a1 a2 a3 a4 a5, e = .returned (.agg #[iv a0, iv a1, iv a2, iv a3, iv a4, iv a5]) ∧ Kb g w w'
set_option maxRecDepth 16000 in
set_option maxHeartbeats 16000000 in
theorem l15Draw_any {g : Nat} (w : World) (hc : Cur g w) : Calls Try.prog 180 #[.pointer (some ⟨g, 0, none⟩)] w (CurAgg6 g w) := by
  have hg := hc.lt
  have HK0 := hid ((Kb.refl hc).alloc hg (.cells #[iv 0, iv 0, iv 0, iv 0, iv 0, iv 0] 135))
  have HR0 := hid (Blk.new w #[iv 0, iv 0, iv 0, iv 0, iv 0, iv 0] 135)
  clear hc
  go_enter Try.func180, Try.ntmps180
  go_wp2_with fail
  refine (l1Below_any _ _ HK0.out.1).mono ?_
  rintro e w1 ⟨f, rfl, ⟨f0, f1, -⟩, hc, hgr⟩
  have HK1 := hid (HK0.out.next ⟨hc, hgr⟩)
  have HR1 := hid (HR0.out.cur hgr (by omega))
  replace f1 := f1 (by omega)
  have hz1 : w.heap.size < w1.heap.size := by have := hgr.size; simp at this; omega
  clear hc hgr HK0 HR0
  go_wp2_with fail
  refine (l8Keys_any _).mono ?_
  rintro e w2 ⟨rfl, ho, hb, -⟩
  have hz2 := hb.size
  have HK2 := hid (HK1.out.via hg (hb.mono (by omega)))
  have HR2 := hid (HR1.out.below hb)
  have HO2 := hid (Own.of ho)
  clear ho hb HK1 HR1
  go_wp2_with fail
  refine (l1Below_any _ _ HK2.out.1).mono ?_
  rintro e w3 ⟨p, rfl, ⟨p0, p1, -⟩, hc, hgr⟩
  have HK3 := hid (HK2.out.next ⟨hc, hgr⟩)
  have HR3 := hid (HR2.out.cur hgr (by omega))
  replace p1 := p1 (by omega)
  have HO3 := hid (Own.cur HO2.out hgr (by omega) (by omega))
  have hz3 := hgr.size
  clear hc hgr HK2 HR2 HO2
  go_wp2_with fail
  refine (l1Below_any _ _ HK3.out.1).mono ?_
  rintro e w4 ⟨r, rfl, ⟨r0, r1, -⟩, hc, hgr⟩
  have HK4 := hid (HK3.out.next ⟨hc, hgr⟩)
  have HR4 := hid (HR3.out.cur hgr (by omega))
  replace r1 := r1 (by omega)
  have HO4 := hid (Own.cur HO3.out hgr (by omega) (by omega))
  have hz4 := hgr.size
  clear hc hgr HK3 HR3 HO3
  have HSk := hid ((Own.sl (ks := keys10) HO4.out keys10_len).mono (show w2.heap.size ≤ w4.heap.size by omega))
  clear HO4
  go_wp2_with fail
  refine (specMakeMandate_some _ _ _ _ _ _ _ HSk.out (Nat.le_refl _)).mono ?_
  rintro e w7 ⟨b0, b1, b2, b3, b4, b5, ok, rfl, hb7⟩
  have HK7 := hid (HK4.out.via hg (hb7.mono (by omega)))
  have HR7 := hid (HR4.out.below hb7)
  have hz7 : w.heap.size < w7.heap.size := by have := hb7.size; omega
  clear hb7 HSk HK4 HR4
  have r0 := HR7.out.cell 0 rfl
  have r1 := HR7.out.cell 1 rfl
  have r2 := HR7.out.cell 2 rfl
  have r3 := HR7.out.cell 3 rfl
  have r4 := HR7.out.cell 4 rfl
  have r5 := HR7.out.cell 5 rfl
  have q0 := HR7.out.frozen 0 (by simp)
  have q1 := HR7.out.frozen 1 (by simp)
  have q2 := HR7.out.frozen 2 (by simp)
  have q3 := HR7.out.frozen 3 (by simp)
  have q4 := HR7.out.frozen 4 (by simp)
  have q5 := HR7.out.frozen 5 (by simp)
  clear HR7
  have hne : w.heap.size ≠ w7.heap.size := by omega
  have hle0 : w.heap.size ≤ w.heap.size := Nat.le_refl _
  go_wp2
  refine bodyPost_ret (v := .agg #[iv b0, iv b1, iv b2, iv b3, iv b4, iv b5]) (by simp [results, Try.results180, go_sem, r0, r1, r2, r3, r4, r5, hz7]) rfl ⟨_, _, _, _, _, _, rfl, ?_⟩
  have h9 := HK7.out
  clear HK7
  repeat (first | with_reducible exact h9 | with_reducible refine Kb.alloc ?_ hg _ | with_reducible refine Kb.set ?_ hg hle0 _)
set_option maxRecDepth 16000 in
set_option maxHeartbeats 16000000 in
theorem l15Any_any {g : Nat} (w : World) (hc : Cur g w) : Calls Try.prog 152 #[.pointer (some ⟨g, 0, none⟩)] w (CurAgg6 g w) := by
  have hg := hc.lt
  have HK0 := hid ((Kb.refl hc).alloc hg (.cells #[iv 0, iv 0, iv 0, iv 0, iv 0, iv 0] 135))
  have HR0 := hid (Blk.new w #[iv 0, iv 0, iv 0, iv 0, iv 0, iv 0] 135)
  clear hc
  go_enter Try.func152, Try.ntmps152
  go_wp2_with fail
  refine (l15Draw_any _ HK0.out.1).mono ?_
  rintro e wb ⟨a0, a1, a2, a3, a4, a5, rfl, hk1⟩
  have hzb : w.heap.size < wb.heap.size := by have := hk1.2.size; simp at this; omega
  have HKb := hid (HK0.out.next hk1)
  have HRb := hid (HR0.out.cur hk1.2 (by omega))
  clear hk1 HK0 HR0
  have HK1 := hid (HKb.out.alloc hg (.cells #[iv a0, iv a1, iv a2, iv a3, iv a4, iv a5] 135))
  have HR1 := hid (HRb.out.alloc (.cells #[iv a0, iv a1, iv a2, iv a3, iv a4, iv a5] 135))
  have HX1 := hid (Blk.new wb #[iv a0, iv a1, iv a2, iv a3, iv a4, iv a5] 135)
  clear HKb HRb
  go_wp2_with fail
  refine (l1Below_any _ _ HK1.out.1).mono ?_
  rintro e w2 ⟨s, rfl, -, hc2, hg2⟩
  have HK := hid (HK1.out.next ⟨hc2, hg2⟩)
  have HR := hid (HR1.out.cur hg2 (by omega))
  have HX := hid (HX1.out.cur hg2 (by omega))
  have hz2 : wb.heap.size < w2.heap.size := by have := hg2.size; simp at this; omega
  have hne : w.heap.size ≠ wb.heap.size := by omega
  have hle1 : w.heap.size ≤ wb.heap.size := by omega
  have hle0 : w.heap.size ≤ w.heap.size := Nat.le_refl _
  clear hc2 hg2 HK1 HR1 HX1
  by_cases h0 : s = 0
  · skip
    have e0 : (s == 0) = true := by rw [beq_iff_eq]; exact h0
    clear h0
    have HL := hid ((Own.of (World.ownsRow_lit (base := w2.heap.size) (e := 3) (size := 1) w2 #[iv 0, iv 51, iv 100] 3 (Nat.le_refl _) (by decide) rfl)).si (zs := [0, 51, 100]))
    have HKA := hid (HK.out.alloc hg (.cells #[iv 0, iv 51, iv 100] 3))
    have HRA := hid (HR.out.alloc (.cells #[iv 0, iv 51, iv 100] 3))
    have HXA := hid (HX.out.alloc (.cells #[iv 0, iv 51, iv 100] 3))
    go_wp2_with fail
    refine (l1Int_any _ HKA.out.1 HL.out (Nat.le_refl _) (by intro b off n c h; simp only [Value.slice.injEq, Option.some.injEq, Addr.mk.injEq] at h; omega) (by decide)).mono ?_
    rintro e w3 ⟨z, rfl, -, hc3, hg3⟩
    clear HL
    have HR3 := hid (HRA.out.cur hg3 (by omega))
    have HX3 := hid (HXA.out.cur hg3 (by omega))
    have HK3 := hid (HKA.out.next ⟨hc3, hg3⟩)
    clear hc3 hg3 HKA HRA HXA
    have x0 := HX3.out.cell 0 rfl
    have x1 := HX3.out.cell 1 rfl
    have x2 := HX3.out.cell 2 rfl
    have x3 := HX3.out.cell 3 rfl
    have x4 := HX3.out.cell 4 rfl
    have x5 := HX3.out.cell 5 rfl
    have y0 := HX3.out.frozen 0 (by simp)
    have y1 := HX3.out.frozen 1 (by simp)
    have y2 := HX3.out.frozen 2 (by simp)
    have y3 := HX3.out.frozen 3 (by simp)
    have y4 := HX3.out.frozen 4 (by simp)
    have y5 := HX3.out.frozen 5 (by simp)
    have r0 := HR3.out.cell 0 rfl
    have r1 := HR3.out.cell 1 rfl
    have r2 := HR3.out.cell 2 rfl
    have r3 := HR3.out.cell 3 rfl
    have r4 := HR3.out.cell 4 rfl
    have r5 := HR3.out.cell 5 rfl
    have q0 := HR3.out.frozen 0 (by simp)
    have q1 := HR3.out.frozen 1 (by simp)
    have q2 := HR3.out.frozen 2 (by simp)
    have q3 := HR3.out.frozen 3 (by simp)
    have q4 := HR3.out.frozen 4 (by simp)
    have q5 := HR3.out.frozen 5 (by simp)
    clear HX3 HR3 HX HR HK
    go_wp2
    refine bodyPost_ret (v := .agg #[iv z, iv a1, iv a2, iv a3, iv a4, iv a5]) (by simp [results, Try.results152, go_sem, r0, r1, r2, r3, r4, r5]) rfl ⟨_, _, _, _, _, _, rfl, ?_⟩
    have h9 := HK3.out
    clear HK3
    repeat (first | with_reducible exact h9 | refine Kb.set ?_ hg (by first | exact hle0 | exact hle1) _)
  have e0 : (s == 0) = false := by rw [beq_eq_false_iff_ne]; exact h0
  clear h0
  by_cases h1 : s = 1
  · skip
    have e1 : (s == 1) = true := by rw [beq_iff_eq]; exact h1
    clear h1
    have HL := hid ((Own.of (World.ownsRow_lit (base := w2.heap.size) (e := 3) (size := 1) w2 #[iv (-1), iv 2, iv 100] 3 (Nat.le_refl _) (by decide) rfl)).si (zs := [-1, 2, 100]))
    have HKA := hid (HK.out.alloc hg (.cells #[iv (-1), iv 2, iv 100] 3))
    have HRA := hid (HR.out.alloc (.cells #[iv (-1), iv 2, iv 100] 3))
    have HXA := hid (HX.out.alloc (.cells #[iv (-1), iv 2, iv 100] 3))
    go_wp2_with fail
    refine (l1Int_any _ HKA.out.1 HL.out (Nat.le_refl _) (by intro b off n c h; simp only [Value.slice.injEq, Option.some.injEq, Addr.mk.injEq] at h; omega) (by decide)).mono ?_
    rintro e w3 ⟨z, rfl, -, hc3, hg3⟩
    clear HL
    have HR3 := hid (HRA.out.cur hg3 (by omega))
    have HX3 := hid (HXA.out.cur hg3 (by omega))
    have HK3 := hid (HKA.out.next ⟨hc3, hg3⟩)
    clear hc3 hg3 HKA HRA HXA
    have x0 := HX3.out.cell 0 rfl
    have x1 := HX3.out.cell 1 rfl
    have x2 := HX3.out.cell 2 rfl
    have x3 := HX3.out.cell 3 rfl
    have x4 := HX3.out.cell 4 rfl
    have x5 := HX3.out.cell 5 rfl
    have y0 := HX3.out.frozen 0 (by simp)
    have y1 := HX3.out.frozen 1 (by simp)
    have y2 := HX3.out.frozen 2 (by simp)
    have y3 := HX3.out.frozen 3 (by simp)
    have y4 := HX3.out.frozen 4 (by simp)
    have y5 := HX3.out.frozen 5 (by simp)
    have r0 := HR3.out.cell 0 rfl
    have r1 := HR3.out.cell 1 rfl
    have r2 := HR3.out.cell 2 rfl
    have r3 := HR3.out.cell 3 rfl
    have r4 := HR3.out.cell 4 rfl
    have r5 := HR3.out.cell 5 rfl
    have q0 := HR3.out.frozen 0 (by simp)
    have q1 := HR3.out.frozen 1 (by simp)
    have q2 := HR3.out.frozen 2 (by simp)
    have q3 := HR3.out.frozen 3 (by simp)
    have q4 := HR3.out.frozen 4 (by simp)
    have q5 := HR3.out.frozen 5 (by simp)
    clear HX3 HR3 HX HR HK
    go_wp2
    refine bodyPost_ret (v := .agg #[iv a0, iv z, iv a2, iv a3, iv a4, iv a5]) (by simp [results, Try.results152, go_sem, r0, r1, r2, r3, r4, r5]) rfl ⟨_, _, _, _, _, _, rfl, ?_⟩
    have h9 := HK3.out
    clear HK3
    repeat (first | with_reducible exact h9 | refine Kb.set ?_ hg (by first | exact hle0 | exact hle1) _)
  have e1 : (s == 1) = false := by rw [beq_eq_false_iff_ne]; exact h1
  clear h1
  by_cases h2 : s = 2
  · skip
    have e2 : (s == 2) = true := by rw [beq_iff_eq]; exact h2
    clear h2
    have HKA := HK
    have HRA := HR
    have HXA := HX
    go_wp2_with fail
    refine (l4Raw_any _ HKA.out.1).mono ?_
    rintro e w3 ⟨z, rfl, -, hc3, hg3⟩
    have HR3 := hid (HRA.out.cur hg3 (by omega))
    have HX3 := hid (HXA.out.cur hg3 (by omega))
    have HK3 := hid (HKA.out.next ⟨hc3, hg3⟩)
    clear hc3 hg3 HKA HRA HXA
    have x0 := HX3.out.cell 0 rfl
    have x1 := HX3.out.cell 1 rfl
    have x2 := HX3.out.cell 2 rfl
    have x3 := HX3.out.cell 3 rfl
    have x4 := HX3.out.cell 4 rfl
    have x5 := HX3.out.cell 5 rfl
    have y0 := HX3.out.frozen 0 (by simp)
    have y1 := HX3.out.frozen 1 (by simp)
    have y2 := HX3.out.frozen 2 (by simp)
    have y3 := HX3.out.frozen 3 (by simp)
    have y4 := HX3.out.frozen 4 (by simp)
    have y5 := HX3.out.frozen 5 (by simp)
    have r0 := HR3.out.cell 0 rfl
    have r1 := HR3.out.cell 1 rfl
    have r2 := HR3.out.cell 2 rfl
    have r3 := HR3.out.cell 3 rfl
    have r4 := HR3.out.cell 4 rfl
    have r5 := HR3.out.cell 5 rfl
    have q0 := HR3.out.frozen 0 (by simp)
    have q1 := HR3.out.frozen 1 (by simp)
    have q2 := HR3.out.frozen 2 (by simp)
    have q3 := HR3.out.frozen 3 (by simp)
    have q4 := HR3.out.frozen 4 (by simp)
    have q5 := HR3.out.frozen 5 (by simp)
    clear HX3 HR3 HX HR HK
    go_wp2
    refine bodyPost_ret (v := .agg #[iv a0, iv a1, iv a2, iv z, iv a4, iv a5]) (by simp [results, Try.results152, go_sem, r0, r1, r2, r3, r4, r5]) rfl ⟨_, _, _, _, _, _, rfl, ?_⟩
    have h9 := HK3.out
    clear HK3
    repeat (first | with_reducible exact h9 | refine Kb.set ?_ hg (by first | exact hle0 | exact hle1) _)
  have e2 : (s == 2) = false := by rw [beq_eq_false_iff_ne]; exact h2
  clear h2
  by_cases h3 : s = 3
  · skip
    have e3 : (s == 3) = true := by rw [beq_iff_eq]; exact h3
    clear h3
    have HKA := HK
    have HRA := HR
    have HXA := HX
    go_wp2_with fail
    refine (l8Number_any _ HKA.out.1).mono ?_
    rintro e w3 ⟨z, rfl, -, hc3, hg3⟩
    have HR3 := hid (HRA.out.cur hg3 (by omega))
    have HX3 := hid (HXA.out.cur hg3 (by omega))
    have HK3 := hid (HKA.out.next ⟨hc3, hg3⟩)
    clear hc3 hg3 HKA HRA HXA
    have x0 := HX3.out.cell 0 rfl
    have x1 := HX3.out.cell 1 rfl
    have x2 := HX3.out.cell 2 rfl
    have x3 := HX3.out.cell 3 rfl
    have x4 := HX3.out.cell 4 rfl
    have x5 := HX3.out.cell 5 rfl
    have y0 := HX3.out.frozen 0 (by simp)
    have y1 := HX3.out.frozen 1 (by simp)
    have y2 := HX3.out.frozen 2 (by simp)
    have y3 := HX3.out.frozen 3 (by simp)
    have y4 := HX3.out.frozen 4 (by simp)
    have y5 := HX3.out.frozen 5 (by simp)
    have r0 := HR3.out.cell 0 rfl
    have r1 := HR3.out.cell 1 rfl
    have r2 := HR3.out.cell 2 rfl
    have r3 := HR3.out.cell 3 rfl
    have r4 := HR3.out.cell 4 rfl
    have r5 := HR3.out.cell 5 rfl
    have q0 := HR3.out.frozen 0 (by simp)
    have q1 := HR3.out.frozen 1 (by simp)
    have q2 := HR3.out.frozen 2 (by simp)
    have q3 := HR3.out.frozen 3 (by simp)
    have q4 := HR3.out.frozen 4 (by simp)
    have q5 := HR3.out.frozen 5 (by simp)
    clear HX3 HR3 HX HR HK
    go_wp2
    refine bodyPost_ret (v := .agg #[iv a0, iv a1, iv a2, iv a3, iv z, iv a5]) (by simp [results, Try.results152, go_sem, r0, r1, r2, r3, r4, r5]) rfl ⟨_, _, _, _, _, _, rfl, ?_⟩
    have h9 := HK3.out
    clear HK3
    repeat (first | with_reducible exact h9 | refine Kb.set ?_ hg (by first | exact hle0 | exact hle1) _)
  have e3 : (s == 3) = false := by rw [beq_eq_false_iff_ne]; exact h3
  clear h3
  by_cases h4 : s = 4
  · skip
    have e4 : (s == 4) = true := by rw [beq_iff_eq]; exact h4
    clear h4
    have x0 := HX.out.cell 0 rfl
    have x1 := HX.out.cell 1 rfl
    have x2 := HX.out.cell 2 rfl
    have x3 := HX.out.cell 3 rfl
    have x4 := HX.out.cell 4 rfl
    have x5 := HX.out.cell 5 rfl
    have y0 := HX.out.frozen 0 (by simp)
    have y1 := HX.out.frozen 1 (by simp)
    have y2 := HX.out.frozen 2 (by simp)
    have y3 := HX.out.frozen 3 (by simp)
    have y4 := HX.out.frozen 4 (by simp)
    have y5 := HX.out.frozen 5 (by simp)
    have r0 := HR.out.cell 0 rfl
    have r1 := HR.out.cell 1 rfl
    have r2 := HR.out.cell 2 rfl
    have r3 := HR.out.cell 3 rfl
    have r4 := HR.out.cell 4 rfl
    have r5 := HR.out.cell 5 rfl
    have q0 := HR.out.frozen 0 (by simp)
    have q1 := HR.out.frozen 1 (by simp)
    have q2 := HR.out.frozen 2 (by simp)
    have q3 := HR.out.frozen 3 (by simp)
    have q4 := HR.out.frozen 4 (by simp)
    have q5 := HR.out.frozen 5 (by simp)
    clear HX HR
    go_wp2
    refine bodyPost_ret (v := .agg #[iv a0, iv a1, iv a2, iv a3, iv a4, iv (wrap64 (a5 + 1))]) (by simp [results, Try.results152, go_sem, r0, r1, r2, r3, r4, r5]) rfl ⟨_, _, _, _, _, _, rfl, ?_⟩
    have h9 := HK.out
    clear HK
    repeat (first | with_reducible exact h9 | refine Kb.set ?_ hg (by first | exact hle0 | exact hle1) _)
  have e4 : (s == 4) = false := by rw [beq_eq_false_iff_ne]; exact h4
  clear h4
  have x0 := HX.out.cell 0 rfl
  have x1 := HX.out.cell 1 rfl
  have x2 := HX.out.cell 2 rfl
  have x3 := HX.out.cell 3 rfl
  have x4 := HX.out.cell 4 rfl
  have x5 := HX.out.cell 5 rfl
  have y0 := HX.out.frozen 0 (by simp)
  have y1 := HX.out.frozen 1 (by simp)
  have y2 := HX.out.frozen 2 (by simp)
  have y3 := HX.out.frozen 3 (by simp)
  have y4 := HX.out.frozen 4 (by simp)
  have y5 := HX.out.frozen 5 (by simp)
  have r0 := HR.out.cell 0 rfl
  have r1 := HR.out.cell 1 rfl
  have r2 := HR.out.cell 2 rfl
  have r3 := HR.out.cell 3 rfl
  have r4 := HR.out.cell 4 rfl
  have r5 := HR.out.cell 5 rfl
  have q0 := HR.out.frozen 0 (by simp)
  have q1 := HR.out.frozen 1 (by simp)
  have q2 := HR.out.frozen 2 (by simp)
  have q3 := HR.out.frozen 3 (by simp)
  have q4 := HR.out.frozen 4 (by simp)
  have q5 := HR.out.frozen 5 (by simp)
  clear HX HR
  go_wp2
  refine bodyPost_ret (v := .agg #[iv a0, iv a1, iv a2, iv a3, iv a4, iv a5]) (by simp [results, Try.results152, go_sem, r0, r1, r2, r3, r4, r5]) rfl ⟨_, _, _, _, _, _, rfl, ?_⟩
  have h9 := HK.out
  clear HK
  repeat (first | with_reducible exact h9 | refine Kb.set ?_ hg (by first | exact hle0 | exact hle1) _)
def DrewMan (w : World) (e : Ending) (w' : World) : Prop :=
  ∃ (u : Value) (ks : List (List Int)) (x : Value) (ls : List (List Int)) (o p : Int), e = .returned (.tuple #[u, x, iv o, iv p]) ∧ (∀ r ∈ ks, r.length = 5) ∧ ks.length ≤ 10 ∧ (∀ r ∈ ls, r.length = 6) ∧ ls.length ≤ 4 ∧ Own w' 64 5 u w.heap.size w'.heap.size ks.length (flat ks) ∧ Own w' 135 6 x w.heap.size w'.heap.size ls.length (flat ls) ∧ Below w.heap.size w w'
set_option maxRecDepth 16000 in
set_option maxHeartbeats 8000000 in
theorem DrawMandateSpans_any {n : Nat} {v : Value} (w : World) (hv : Bytes w.heap.size w v n) (hn : n ≤ 1048576) :
    Calls Try.prog 145 #[v] w (DrewMan w) := by
  go_enter Try.func145, Try.ntmps145
  go_wp2_with fail
  refine (l1New_any _ hv hn).mono ?_
  rintro e w1 ⟨rfl, hc1, hb1⟩
  have HB1 := hid hb1
  have hg := hc1.lt
  have HK1 := hid ((Kb.refl hc1).alloc hg (.cells #[] 135))
  have HO1 := hid (World.ownsRow_lit (base := w1.heap.size) (e := 135) (size := 6) w1 #[] 0 (Nat.le_refl _) (by decide) rfl)
  obtain ⟨g, hgg⟩ : ∃ g, g = w.heap.size := ⟨_, rfl⟩
  rw [← hgg] at hg HK1 ⊢
  have hgw : w.heap.size ≤ g := by rw [hgg]; simp
  clear hb1 hc1 hgg hv
  go_wp2_with fail
  refine (l1Below_any _ _ HK1.out.1).mono ?_
  rintro e w2 ⟨r, rfl, ⟨hr0, hr1, -⟩, hc2, hg2⟩
  have HK2 := hid (HK1.out.next ⟨hc2, hg2⟩)
  have HO2 := hid ((Own.cur (Own.of HO1.out) hg2 (by omega) (Nat.le_refl _)).1)
  replace hr1 := hr1 (by omega)
  obtain ⟨m0, rfl⟩ : ∃ m : Nat, r = m := ⟨r.toNat, by omega⟩
  clear hc2 hg2 HO1 HK1
  go_wp2
  go_loopw [7, 8] (fun l i wr => ∃ (m : Nat) (ls : List (List Int)), i = .int .i64 m ∧ ls.length + m ≤ 4 ∧ (∀ r ∈ ls, r.length = 6) ∧ wr.ownsRow w1.heap.size 135 6 l ls.length (flat ls) ∧ Kb g w1 wr) (fun _ i _ => (intOf i).toNat)
  case atStart => exact ⟨m0, [], rfl, by simp; omega, fun r hr => (by cases hr), HO2.out, HK2.out⟩
  case round =>
    obtain ⟨m, ls, rfl, hm, h2, how, hk⟩ := hrel
    have HOW := hid how
    have HK := hid hk
    have H2 := hid h2
    have hzr := hk.2.size
    clear how hk h2
    by_cases hlt : 0 < m
    · have hm1 : (0 : Int) < (m : Int) := by omega
      go_wp2_with fail
      refine (l15Any_any _ HK.out.1).mono ?_
      rintro e w3 ⟨a0, a1, a2, a3, a4, a5, rfl, hk3⟩
      have HO3 := hid ((Own.cur (Own.of HOW.out) hk3.2 (by omega) (Nat.le_refl _)).1)
      have HK3 := hid (HK.out.next hk3)
      clear hk3
      go_wp2_with (first | (at_builtin; refine wpList_append_src _ rfl _ _ 128 rfl w1.heap.size 135 Try.underlying128 Try.infoMandate0 rfl (by decide) _ _ ls.length 1 _ [iv a0, iv a1, iv a2, iv a3, iv a4, iv a5] rfl rfl (HO3.out.alloc _) (Src.lit (cs := #[iv a0, iv a1, iv a2, iv a3, iv a4, iv a5]) (m := 1) (size := 6) (heap_new_at w3 _ (by simp)) rfl (by simp [Value.oneCell']) 1) (by unfold maxLen; omega) (by omega) ((HK3.out.alloc hg _).2.size) ?_; intro v1 w4 hown1 hg1; have HO4 := hid hown1; have HK4 := hid ((HK3.out.alloc hg _).grown hg hg1 (fun k hk => (HO3.out.lt k hk).1)); clear hown1 hg1) | fail)
      go_roundw
      case rel => exact ⟨m - 1, ls ++ [[a0, a1, a2, a3, a4, a5]], by rw [show ((m - 1 : Nat) : Int) = (m : Int) - 1 by omega], by simp; omega, (by intro r hr; rcases List.mem_append.1 hr with h | h; exact H2.out r h; simp at h; subst h; rfl), by rw [List.length_append, flat_append]; exact HO4.out, HK4.out⟩
      case measure => simp [intOf]; omega
    · obtain rfl : m = 0 := by omega
      have hll : ls.length ≤ 4 := by omega
      go_wp2_with fail
      refine (l8Keys_any _).mono ?_
      rintro e w3 ⟨rfl, ho, hb, -⟩
      have hz3 := hb.size
      have HK3 := hid ((HK.out.via hg (hb.mono hzr)).alloc hg (.cells #[iv 50, iv 50, iv 51] 3))
      have HO3 := hid ((Own.of ho).below (below_alloc w3 (.cells #[iv 50, iv 50, iv 51] 3)) (Nat.le_refl _))
      have HP3 := hid (((Own.of HOW.out).below hb (Nat.le_refl _)).below (below_alloc w3 (.cells #[iv 50, iv 50, iv 51] 3)) (by omega))
      have HL := hid ((Own.of (World.ownsRow_lit (base := w3.heap.size) (e := 3) (size := 1) w3 #[iv 50, iv 50, iv 51] 3 (Nat.le_refl _) (by decide) rfl)).si (zs := [50, 50, 51]))
      clear ho hb
      go_wp2_with fail
      refine (l1Int_any _ HK3.out.1 HL.out (Nat.le_refl _) (by intro b off n c h; simp only [Value.slice.injEq, Option.some.injEq, Addr.mk.injEq] at h; omega) (by decide)).mono ?_
      rintro e w4 ⟨o, rfl, -, hc4, hg4⟩
      have HK4 := hid (HK3.out.next ⟨hc4, hg4⟩)
      have HO4 := hid (Own.cur HO3.out hg4 (by omega) (by simp))
      have HP4 := hid (Own.cur HP3.out hg4 (by omega) (by simp; omega))
      have hz4 : w3.heap.size ≤ w4.heap.size := by have := hg4.size; simp at this; omega
      clear hc4 hg4 HL HO3 HP3 HK3
      go_wp2_with fail
      refine (l1Below_any _ _ HK4.out.1).mono ?_
      rintro e w5 ⟨p, rfl, ⟨p0, p1, -⟩, hc5, hg5⟩
      replace p1 := p1 (by omega)
      have HK5 := hid (HK4.out.next ⟨hc5, hg5⟩)
      have HO5 := hid (Own.cur HO4.out hg5 (by omega) hz4)
      have HP5 := hid (Own.cur HP4.out hg5 (by omega) (by omega))
      have hz5 := hg5.size
      clear hc5 hg5
      obtain ⟨A, c, rfl⟩ := ownsRow_form HP5.out.1
      go_wp2
      refine bodyPost_ret (v := .tuple #[.slice (some ⟨wr.heap.size, 0, none⟩) 10 10, .slice A ls.length c, iv o, iv (1 + p)]) (by simp [results, Try.results145, go_sem]) rfl ?_
      exact ⟨_, keys10, _, ls, _, _, rfl, keys10_len, by decide, H2.out, hll, HO5.out.mono (by omega) (by omega), HP5.out.mono (by omega) (by omega), kb_below HB1.out hgw hg HK5.out⟩
def DrewMay (w : World) (e : Ending) (w' : World) : Prop :=
  ∃ (u : Value) (ks : List (List Int)) (x : Value) (ls : List (List Int)) (o p a0 a1 : Int), e = .returned (.tuple #[u, x, iv o, iv p, .agg #[iv a0, iv a1]]) ∧ (∀ r ∈ ks, r.length = 5) ∧ ks.length ≤ 10 ∧ (∀ r ∈ ls, r.length = 6) ∧ ls.length ≤ 4 ∧ Own w' 64 5 u w.heap.size w'.heap.size ks.length (flat ks) ∧ Own w' 135 6 x w.heap.size w'.heap.size ls.length (flat ls) ∧ Below w.heap.size w w'
set_option maxRecDepth 16000 in
set_option maxHeartbeats 8000000 in
theorem DrawMaySignFor_any {n : Nat} {v : Value} (w : World) (hv : Bytes w.heap.size w v n) (hn : n ≤ 1048576) :
    Calls Try.prog 80 #[v] w (DrewMay w) := by
  have HV := hid ((hv.below (below_alloc w (.cells #[iv 0, iv 0] 47)) (Nat.le_refl _)).mono (B' := (w.alloc (.cells #[iv 0, iv 0] 47)).heap.size) (by simp))
  have HX0 := hid (Blk.new w #[iv 0, iv 0] 47)
  have HB0 := hid (below_alloc w (.cells #[iv 0, iv 0] 47))
  clear hv
  go_enter Try.func80, Try.ntmps80
  go_wp2_with fail
  generalize hW0 : w.alloc (.cells #[iv 0, iv 0] 47) = W0 at HV HX0 HB0 ⊢
  have hz0 : w.heap.size < W0.heap.size := by rw [← hW0]; simp
  clear hW0
  refine (DrawMandateSpans_any _ HV.out hn).mono ?_
  rintro e w1 ⟨u, ks, x, ls, o, p, rfl, h1, hl1, h2, hl2, hu, hx, hb1⟩
  have HX1 := hid (HX0.out.below hb1)
  have HB1 := hid (below_step HB0.out hb1)
  have HV1 := hid ((HV.out.below hb1 (Nat.le_refl _)).mono hb1.size)
  have HU := hid hu
  have HL := hid hx
  have H1 := hid h1
  have H2 := hid h2
  have hz1 := hb1.size
  clear hb1 hu hx h1 h2 HX0 HB0 HV
  go_wp2_with fail
  refine (l1New_any _ HV1.out hn).mono ?_
  rintro e w2 ⟨rfl, hc2, hb2⟩
  have HX2 := hid (HX1.out.below hb2)
  have HB2 := hid (below_step HB1.out hb2)
  have HU2 := hid (HU.out.below hb2 (Nat.le_refl _))
  have HL2 := hid (HL.out.below hb2 (Nat.le_refl _))
  have hg := hc2.lt
  have HK2 := hid (Kb.refl hc2)
  have hz2 := hb2.size
  clear hb2 hc2 HX1 HB1 HU HL HV1
  go_wp2_with fail
  refine (l1Once_any _ _ HK2.out.1).mono ?_
  rintro e w3 ⟨b, rfl, hc3, hg3⟩
  have HX3 := hid (HX2.out.cur hg3 (by omega))
  have HU3 := hid (HU2.out.below (cur_stay (Below.refl w1.heap.size w2) hg3 (Nat.le_refl _) hg) (Nat.le_refl _))
  have HL3 := hid (HL2.out.below (cur_stay (Below.refl w1.heap.size w2) hg3 (Nat.le_refl _) hg) (Nat.le_refl _))
  have HK3 := hid (HK2.out.next ⟨hc3, hg3⟩)
  have hz3 := hg3.size
  clear hc3 hg3 HX2 HU2 HL2
  cases b
  · skip
    go_wp2_with fail
    refine (l4Any_any _ HK3.out.1).mono ?_
    rintro e w4 ⟨a0, a1, rfl, hk4⟩
    have HX4 := hid (HX3.out.cur hk4.2 (by omega))
    have HS4 := hid (cur_stay (Below.refl w1.heap.size w3) hk4.2 (Nat.le_refl _) (Nat.lt_of_lt_of_le hg hz3))
    have HU4 := hid (HU3.out.below HS4.out (Nat.le_refl _))
    have HL4 := hid (HL3.out.below HS4.out (Nat.le_refl _))
    have HK4 := hid (HK3.out.next hk4)
    have hz4 := hk4.2.size
    clear hk4 HX3 HU3 HL3 HK3 HS4
    have r0 := HX4.out.cell 0 rfl
    have r1 := HX4.out.cell 1 rfl
    have q0 := HX4.out.frozen 0 (by simp)
    have q1 := HX4.out.frozen 1 (by simp)
    clear HX4
    have hle0 : w.heap.size ≤ w.heap.size := Nat.le_refl _
    have hls : w.heap.size < w.heap.size + 1 := Nat.lt_succ_self _
    go_wp2
    refine bodyPost_ret (v := .tuple #[u, x, iv o, iv p, .agg #[iv a0, iv a1]]) (by simp [results, Try.results80, go_sem, r0, r1]) rfl ⟨_, ks, _, ls, _, _, _, _, rfl, H1.out, hl1, H2.out, hl2, ?_, ?_, ?_⟩
    · have h9 := HU4.out.mono (lo' := w.heap.size + 1) (hi' := w4.heap.size) (by omega) (by omega)
      refine (h9.apart (hi0 := w.heap.size + 1) ?_ (Nat.le_refl _)).mono (by omega) (by simp)
      repeat (first | with_reducible exact Apart.refl _ _ | with_reducible refine Apart.setCell ?_ hls _)
    · have h9 := HL4.out.mono (lo' := w.heap.size + 1) (hi' := w4.heap.size) (by omega) (by omega)
      refine (h9.apart (hi0 := w.heap.size + 1) ?_ (Nat.le_refl _)).mono (by omega) (by simp)
      repeat (first | with_reducible exact Apart.refl _ _ | with_reducible refine Apart.setCell ?_ hls _)
    · have h9 := kb_below HB2.out (show w.heap.size ≤ w1.heap.size by omega) hg HK4.out
      repeat (first | with_reducible exact h9 | with_reducible refine Below.setCell ?_ hle0 _)
  · skip
    go_wp2_with fail
    refine (l4Any_any _ HK3.out.1).mono ?_
    rintro e w4 ⟨a0, a1, rfl, hk4⟩
    have HX4 := hid (HX3.out.cur hk4.2 (by omega))
    have HS4 := hid (cur_stay (Below.refl w1.heap.size w3) hk4.2 (Nat.le_refl _) (Nat.lt_of_lt_of_le hg hz3))
    have HU4 := hid (HU3.out.below HS4.out (Nat.le_refl _))
    have HL4 := hid (HL3.out.below HS4.out (Nat.le_refl _))
    have HK4 := hid (HK3.out.next hk4)
    have hz4 := hk4.2.size
    clear hk4 HX3 HU3 HL3 HK3 HS4
    have r0 := HX4.out.cell 0 rfl
    have r1 := HX4.out.cell 1 rfl
    have q0 := HX4.out.frozen 0 (by simp)
    have q1 := HX4.out.frozen 1 (by simp)
    clear HX4
    have hle0 : w.heap.size ≤ w.heap.size := Nat.le_refl _
    have hls : w.heap.size < w.heap.size + 1 := Nat.lt_succ_self _
    go_wp2
    refine bodyPost_ret (v := .tuple #[u, x, iv 0, iv p, .agg #[iv a0, iv a1]]) (by simp [results, Try.results80, go_sem, r0, r1]) rfl ⟨_, ks, _, ls, _, _, _, _, rfl, H1.out, hl1, H2.out, hl2, ?_, ?_, ?_⟩
    · have h9 := HU4.out.mono (lo' := w.heap.size + 1) (hi' := w4.heap.size) (by omega) (by omega)
      refine (h9.apart (hi0 := w.heap.size + 1) ?_ (Nat.le_refl _)).mono (by omega) (by simp)
      repeat (first | with_reducible exact Apart.refl _ _ | with_reducible refine Apart.setCell ?_ hls _)
    · have h9 := HL4.out.mono (lo' := w.heap.size + 1) (hi' := w4.heap.size) (by omega) (by omega)
      refine (h9.apart (hi0 := w.heap.size + 1) ?_ (Nat.le_refl _)).mono (by omega) (by simp)
      repeat (first | with_reducible exact Apart.refl _ _ | with_reducible refine Apart.setCell ?_ hls _)
    · have h9 := kb_below HB2.out (show w.heap.size ≤ w1.heap.size by omega) hg HK4.out
      repeat (first | with_reducible exact h9 | with_reducible refine Below.setCell ?_ hle0 _)
def DrewKeys6 (w : World) (e : Ending) (w' : World) : Prop :=
  ∃ (u : Value) (ks : List (List Int)) (a0 a1 a2 a3 a4 a5 : Int), e = .returned (.tuple #[u, .agg #[iv a0, iv a1, iv a2, iv a3, iv a4, iv a5]]) ∧ (∀ r ∈ ks, r.length = 5) ∧ ks.length = 10 ∧ Own w' 64 5 u w.heap.size w'.heap.size ks.length (flat ks) ∧ Below w.heap.size w w'
set_option maxHeartbeats 4000000 in
theorem DrawMakeMandate_any {n : Nat} {v : Value} (w : World) (hv : Bytes w.heap.size w v n) (hn : n ≤ 1048576) :
    Calls Try.prog 85 #[v] w (DrewKeys6 w) := by
  have HV := hid ((hv.below (below_alloc w (.cells #[iv 0, iv 0, iv 0, iv 0, iv 0, iv 0] 135)) (Nat.le_refl _)).mono (B' := (w.alloc (.cells #[iv 0, iv 0, iv 0, iv 0, iv 0, iv 0] 135)).heap.size) (by simp))
  have HX0 := hid (Blk.new w #[iv 0, iv 0, iv 0, iv 0, iv 0, iv 0] 135)
  clear hv
  go_enter Try.func85, Try.ntmps85
  go_wp2_with fail
  refine (l1New_any _ HV.out hn).mono ?_
  rintro e w1 ⟨rfl, hc1, hb1⟩
  have HX1 := hid (HX0.out.below hb1)
  have HB1 := hid (below_step (below_alloc w (.cells #[iv 0, iv 0, iv 0, iv 0, iv 0, iv 0] 135)) hb1)
  have hg := hc1.lt
  have HK1 := hid (Kb.refl hc1)
  obtain ⟨g, hgg⟩ : ∃ g, g = (w.alloc (.cells #[iv 0, iv 0, iv 0, iv 0, iv 0, iv 0] 135)).heap.size := ⟨_, rfl⟩
  rw [← hgg] at hg HK1 ⊢
  have hgw : w.heap.size < g := by rw [hgg]; simp
  clear hb1 hc1 hgg
  go_wp2_with fail
  refine (l8Any_any _ HK1.out.1).mono ?_
  rintro e w2 ⟨u, ks, rfl, h2, hl, ho2, hk2⟩
  have HK2 := hid (HK1.out.next hk2)
  have HX2 := hid (HX1.out.cur hk2.2 (by omega))
  have HO2 := hid ho2.1
  have H2 := hid h2
  clear ho2 hk2 h2
  go_wp2_with fail
  refine (l15Any_any _ HK2.out.1).mono ?_
  rintro e w3 ⟨a0, a1, a2, a3, a4, a5, rfl, hk3⟩
  have HK3 := hid (HK2.out.next hk3)
  have HO3 := hid ((Own.cur (Own.of HO2.out) hk3.2 hg (Nat.le_refl _)).1)
  have HX3 := hid (HX2.out.cur hk3.2 (by omega))
  have r0 := HX3.out.cell 0 rfl
  have r1 := HX3.out.cell 1 rfl
  have r2 := HX3.out.cell 2 rfl
  have r3 := HX3.out.cell 3 rfl
  have r4 := HX3.out.cell 4 rfl
  have r5 := HX3.out.cell 5 rfl
  have q0 := HX3.out.frozen 0 (by simp)
  have q1 := HX3.out.frozen 1 (by simp)
  have q2 := HX3.out.frozen 2 (by simp)
  have q3 := HX3.out.frozen 3 (by simp)
  have q4 := HX3.out.frozen 4 (by simp)
  have q5 := HX3.out.frozen 5 (by simp)
  clear hk3 HX3 HX2 HX1 HX0
  go_wp2
  refine bodyPost_ret (v := .tuple #[u, .agg #[iv a0, iv a1, iv a2, iv a3, iv a4, iv a5]]) (by simp [results, Try.results85, go_sem, r0, r1, r2, r3, r4, r5]) rfl ⟨_, ks, _, _, _, _, _, _, rfl, H2.out, hl, ?_, ?_⟩
  · have h9 := (Own.of HO3.out).mono (lo' := w.heap.size + 1) (hi' := w3.heap.size) (by omega) (Nat.le_refl _)
    refine (h9.apart (hi0 := w.heap.size + 1) ?_ (Nat.le_refl _)).mono (by omega) (by simp)
    repeat (first | with_reducible exact Apart.refl _ _ | refine Apart.setCell ?_ (by simp) _)
  · have h9 := kb_below HB1.out (Nat.le_of_lt hgw) hg HK3.out
    repeat (first | with_reducible exact h9 | refine Below.setCell ?_ (by simp) _)
end Go.Proofs.Ytkdpfbodmfjkkaa
