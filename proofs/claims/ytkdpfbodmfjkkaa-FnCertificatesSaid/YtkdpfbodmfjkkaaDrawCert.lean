/- What the reference draws of certificates: three of its own, one with a field changed, keys with a certificate. Condition: no more than 2^20 bytes. -/
import Derived.Test.YtkdpfbodmfjkkaaRows
import Derived.Test.YtkdpfbodmfjkkaaBase
import Derived.Test.YtkdpfbodmfjkkaaPlain
import Derived.Test.YtkdpfbodmfjkkaaAppend
import Derived.Test.YtkdpfbodmfjkkaaSlices
import Derived.Test.YtkdpfbodmfjkkaaApart
import Derived.Test.YtkdpfbodmfjkkaaCol
import Derived.Test.YtkdpfbodmfjkkaaDraw
import Derived.Test.YtkdpfbodmfjkkaaDrawSpan
import Derived.Test.YtkdpfbodmfjkkaaDrawAgreed
import Derived.Test.YtkdpfbodmfjkkaaDrawKey
import Derived.Test.YtkdpfbodmfjkkaaBlk
import Derived.Test.YtkdpfbodmfjkkaaMakeCert
namespace Go.Proofs.Ytkdpfbodmfjkkaa
open Go.ChangeShapes Go.WideShapes Go.ChangeAt Go.RowKit Go.Deep

theorem specIssueCert_some {B : Nat} {ks : List (List Int)} {v : Value} (a0 a1 a2 a3 a4 a5 a6 : Int) (w : World) (h : Sl B w 5 v ks) (hB : B ≤ w.heap.size) :
    Calls Try.prog 49 #[v, .agg #[iv a0, iv a1, iv a2, iv a3, iv a4, iv a5, iv a6]] w fun e w' => ∃ b0 b1 b2 b3 b4 b5 b6 ok, e = .returned (.tuple #[.agg #[iv b0, iv b1, iv b2, iv b3, iv b4, iv b5, iv b6], .bool ok]) ∧ Below w.heap.size w w' := by
  by_cases hno : certB a0 a1 a2 a3 a4 a5 a6 = false ∨ findI 0 a5 ks = -1 ∨ findI 0 a1 ks = -1
  · refine (specIssueCert_any_no a0 a1 a2 a3 a4 a5 a6 w h hB hno).mono ?_
    rintro e w' ⟨rfl, hb⟩
    exact ⟨0, 0, 0, 0, 0, 0, 0, false, rfl, hb⟩
  · rcases findI_range 0 a5 ks with hf | ⟨k, hk, hf, -⟩
    · exact absurd (.inr (.inl hf)) hno
    · rcases findI_range 0 a1 ks with hf2 | ⟨j, hj, hf2, -⟩
      · exact absurd (.inr (.inr hf2)) hno
      · refine (specIssueCert_any_yes a0 a1 a2 a3 a4 a5 a6 w h hB (by cases hs : certB a0 a1 a2 a3 a4 a5 a6 with | false => exact absurd (.inl hs) hno | true => rfl) k hk hf j hf2).mono ?_
        rintro e w' ⟨rfl, hb⟩
        exact ⟨_, _, _, _, _, _, _, _, rfl, hb⟩
/-- The call returned a list of its own with m rows of s numbers; what was there stands. -/
def RetRows (E s m : Nat) (w : World) (e : Ending) (w' : World) : Prop :=
  ∃ (v : Value) (ks : List (List Int)), e = .returned v ∧ (∀ r ∈ ks, r.length = s) ∧ ks.length = m ∧ Own w' E s v w.heap.size w'.heap.size ks.length (flat ks) ∧ Below w.heap.size w w'
set_option maxRecDepth 16000 in
set_option maxHeartbeats 8000000 in
theorem l9Certs_any (w : World) : Calls Try.prog 167 #[] w (RetRows 74 7 3 w) := by
  go_enter Try.func167, Try.ntmps167
  go_wp2_with fail
  refine (l8Keys_any _).mono ?_
  rintro e k0 ⟨rfl, ho, hb, -⟩
  have HS := hid (Own.sl (ks := keys10) (Own.of ho) keys10_len)
  have HB := hid hb
  clear ho hb
  go_wp2_with fail
  refine (specIssueCert_some _ _ _ _ _ _ _ _ HS.out (Nat.le_refl _)).mono ?_
  rintro e m0 ⟨a0, a1, a2, a3, a4, a5, a6, ok0, rfl, hb⟩
  have HB := hid ((below_step HB.out hb).trans ((below_alloc m0 (.cells #[iv a0, iv a1, iv a2, iv a3, iv a4, iv a5, iv a6] 74)).mono (below_step HB.out hb).size))
  have Ha := hid (Blk.new m0 #[iv a0, iv a1, iv a2, iv a3, iv a4, iv a5, iv a6] 74)
  clear hb HS
  go_wp2_with fail
  generalize m0.alloc (.cells #[iv a0, iv a1, iv a2, iv a3, iv a4, iv a5, iv a6] 74) = wz1 at HB Ha ⊢
  refine (l8Keys_any _).mono ?_
  rintro e k1 ⟨rfl, ho, hb, -⟩
  have HS := hid (Own.sl (ks := keys10) (Own.of ho) keys10_len)
  have HB := hid (below_step HB.out hb)
  have Ha := hid (Ha.out.below hb)
  clear ho hb
  go_wp2_with fail
  refine (specIssueCert_some _ _ _ _ _ _ _ _ HS.out (Nat.le_refl _)).mono ?_
  rintro e m1 ⟨b0, b1, b2, b3, b4, b5, b6, ok1, rfl, hb⟩
  have HB := hid ((below_step HB.out hb).trans ((below_alloc m1 (.cells #[iv b0, iv b1, iv b2, iv b3, iv b4, iv b5, iv b6] 74)).mono (below_step HB.out hb).size))
  have Ha := hid ((Ha.out.below hb).alloc (.cells #[iv b0, iv b1, iv b2, iv b3, iv b4, iv b5, iv b6] 74))
  have Hb := hid (Blk.new m1 #[iv b0, iv b1, iv b2, iv b3, iv b4, iv b5, iv b6] 74)
  clear hb HS
  go_wp2_with fail
  generalize m1.alloc (.cells #[iv b0, iv b1, iv b2, iv b3, iv b4, iv b5, iv b6] 74) = wz2 at HB Ha Hb ⊢
  refine (l8Keys_any _).mono ?_
  rintro e k2 ⟨rfl, ho, hb, -⟩
  have HS := hid (Own.sl (ks := keys10) (Own.of ho) keys10_len)
  have HB := hid (below_step HB.out hb)
  have Ha := hid (Ha.out.below hb)
  have Hb := hid (Hb.out.below hb)
  clear ho hb
  go_wp2_with fail
  refine (specIssueCert_some _ _ _ _ _ _ _ _ HS.out (Nat.le_refl _)).mono ?_
  rintro e m2 ⟨c0, c1, c2, c3, c4, c5, c6, ok2, rfl, hb⟩
  have HB := hid (below_step HB.out hb)
  have Ha := hid (Ha.out.below hb)
  have Hb := hid (Hb.out.below hb)
  clear hb HS
  have ax0 := Ha.out.cell 0 rfl
  have ax1 := Ha.out.cell 1 rfl
  have ax2 := Ha.out.cell 2 rfl
  have ax3 := Ha.out.cell 3 rfl
  have ax4 := Ha.out.cell 4 rfl
  have ax5 := Ha.out.cell 5 rfl
  have ax6 := Ha.out.cell 6 rfl
  have hna : m0.heap.size < m2.heap.size := Ha.out.lt
  have bx0 := Hb.out.cell 0 rfl
  have bx1 := Hb.out.cell 1 rfl
  have bx2 := Hb.out.cell 2 rfl
  have bx3 := Hb.out.cell 3 rfl
  have bx4 := Hb.out.cell 4 rfl
  have bx5 := Hb.out.cell 5 rfl
  have bx6 := Hb.out.cell 6 rfl
  have hnb : m1.heap.size < m2.heap.size := Hb.out.lt
  clear Ha Hb
  go_wp2
  go_ret
  obtain ⟨v, hv, ho, hb⟩ := retOwn_lit (w := m2) (o := .cells #[iv c0, iv c1, iv c2, iv c3, iv c4, iv c5, iv c6] 74) (e := 74) (size := 7) (n := 3) #[iv a0, iv a1, iv a2, iv a3, iv a4, iv a5, iv a6, iv b0, iv b1, iv b2, iv b3, iv b4, iv b5, iv b6, iv c0, iv c1, iv c2, iv c3, iv c4, iv c5, iv c6] (by decide) rfl
  refine ⟨v, [[a0, a1, a2, a3, a4, a5, a6], [b0, b1, b2, b3, b4, b5, b6], [c0, c1, c2, c3, c4, c5, c6]], hv, by simp, rfl, ho.mono HB.out.size (Nat.le_refl _), below_step HB.out hb⟩
def CurAgg7 (g : Nat) (w : World) (e : Ending) (w' : World) : Prop := ∃ a0 a1 a2 a3 a4 a5 a6, e = .returned (.agg #[iv a0, iv a1, iv a2, iv a3, iv a4, iv a5, iv a6]) ∧ Kb g w w'
set_option maxRecDepth 16000 in
set_option maxHeartbeats 16000000 in
theorem l9Any_any {g : Nat} (w : World) (hc : Cur g w) : Calls Try.prog 119 #[.pointer (some ⟨g, 0, none⟩)] w (CurAgg7 g w) := by
  have hg := hc.lt
  have HK0 := hid ((Kb.refl hc).alloc hg (.cells #[iv 0, iv 0, iv 0, iv 0, iv 0, iv 0, iv 0] 74))
  have HR0 := hid (Blk.new w #[iv 0, iv 0, iv 0, iv 0, iv 0, iv 0, iv 0] 74)
  clear hc
  go_enter Try.func119, Try.ntmps119
  go_wp2_with fail
  refine (l9Certs_any _).mono ?_
  rintro e w1 ⟨v, ks, rfl, h2, hl, ho, hb⟩
  have HKa := hid (HK0.out.via hg (hb.mono (HK0.out.2.size)))
  have HRa := hid (HR0.out.below hb)
  have HOa := hid ho.1
  have H2 := hid h2
  have hza : w.heap.size < w1.heap.size := by have := hb.size; simp at this; omega
  have hgo : g < (w.alloc (.cells #[iv 0, iv 0, iv 0, iv 0, iv 0, iv 0, iv 0] 74)).heap.size := by simp; omega
  clear ho hb h2 HK0 HR0
  obtain ⟨A, c, rfl⟩ := ownsRow_form HOa.out
  go_wp2_with fail
  refine (l1Below_any _ _ HKa.out.1).mono ?_
  rintro e wb ⟨r, rfl, ⟨hr0, hr1, -⟩, hc3, hg3⟩
  replace hr1 := hr1 (by omega)
  obtain ⟨k, rfl⟩ : ∃ k : Nat, r = k := ⟨r.toNat, by omega⟩
  have HKb := hid (HKa.out.next ⟨hc3, hg3⟩)
  have HRb := hid (HRa.out.cur hg3 (by omega))
  have HSb := hid ((Own.cur (Own.of HOa.out) hg3 hgo (Nat.le_refl _)).sl H2.out)
  have hzb : w.heap.size < wb.heap.size := by have := hg3.size; omega
  clear hc3 hg3 HOa HKa HRa
  obtain ⟨A', c', hv', hd1, hd2, -, hcell⟩ := id HSb.out
  obtain ⟨b, off, hA', hbB, hcc⟩ := hcell (by omega)
  simp only [Value.slice.injEq] at hv'
  obtain ⟨rfl, -, rfl⟩ := hv'
  subst hA'
  have hk : k < ks.length := by omega
  have hi1 : (k : Int) < (ks.length : Int) := by omega
  have c0 := hcc k 0 hk (by omega)
  have c1 := hcc k 1 hk (by omega)
  have c2 := hcc k 2 hk (by omega)
  have c3 := hcc k 3 hk (by omega)
  have c4 := hcc k 4 hk (by omega)
  have c5 := hcc k 5 hk (by omega)
  have c6 := hcc k 6 hk (by omega)
  rw [Nat.add_zero] at c0
  clear hcc hcell HSb
  generalize fld ks k 0 = a0 at c0
  generalize fld ks k 1 = a1 at c1
  generalize fld ks k 2 = a2 at c2
  generalize fld ks k 3 = a3 at c3
  generalize fld ks k 4 = a4 at c4
  generalize fld ks k 5 = a5 at c5
  generalize fld ks k 6 = a6 at c6
  have HK1 := hid (HKb.out.alloc hg (.cells #[iv a0, iv a1, iv a2, iv a3, iv a4, iv a5, iv a6] 74))
  have HR1 := hid (HRb.out.alloc (.cells #[iv a0, iv a1, iv a2, iv a3, iv a4, iv a5, iv a6] 74))
  have HX1 := hid (Blk.new wb #[iv a0, iv a1, iv a2, iv a3, iv a4, iv a5, iv a6] 74)
  clear HKb HRb
  go_wp2_with fail
  refine (l1Below_any _ _ HK1.out.1).mono ?_
  rintro e w2 ⟨s, rfl, -, hc2, hg2⟩
  have HK := hid (HK1.out.next ⟨hc2, hg2⟩)
  have HR := hid (HR1.out.cur hg2 (by omega))
  have HX := hid (HX1.out.cur hg2 (by omega))
  have hz2 : wb.heap.size < w2.heap.size := by have := hg2.size; simp at this; omega
  have hne : w.heap.size ≠ wb.heap.size := by omega
  have hle1 : w.heap.size ≤ wb.heap.size := by omega
  have hle0 : w.heap.size ≤ w.heap.size := Nat.le_refl _
  clear hc2 hg2 HK1 HR1 HX1
  by_cases h0 : s = 0
  · skip
    have e0 : (s == 0) = true := by rw [beq_iff_eq]; exact h0
    clear h0
    have HL := hid ((Own.of (World.ownsRow_lit (base := w2.heap.size) (e := 3) (size := 1) w2 #[iv 0, iv 1, iv 999, iv 1000] 4 (Nat.le_refl _) (by decide) rfl)).si (zs := [0, 1, 999, 1000]))
    have HKA := hid (HK.out.alloc hg (.cells #[iv 0, iv 1, iv 999, iv 1000] 3))
    have HRA := hid (HR.out.alloc (.cells #[iv 0, iv 1, iv 999, iv 1000] 3))
    have HXA := hid (HX.out.alloc (.cells #[iv 0, iv 1, iv 999, iv 1000] 3))
    go_wp2_with fail
    refine (l1Int_any _ HKA.out.1 HL.out (Nat.le_refl _) (by intro b off n c h; simp only [Value.slice.injEq, Option.some.injEq, Addr.mk.injEq] at h; omega) (by decide)).mono ?_
    rintro e w3 ⟨z, rfl, -, hc3, hg3⟩
    clear HL
    have HR3 := hid (HRA.out.cur hg3 (by omega))
    have HX3 := hid (HXA.out.cur hg3 (by omega))
    have HK3 := hid (HKA.out.next ⟨hc3, hg3⟩)
    clear hc3 hg3 HKA HRA HXA
    have x0 := HX3.out.cell 0 rfl
    have x1 := HX3.out.cell 1 rfl
    have x2 := HX3.out.cell 2 rfl
    have x3 := HX3.out.cell 3 rfl
    have x4 := HX3.out.cell 4 rfl
    have x5 := HX3.out.cell 5 rfl
    have x6 := HX3.out.cell 6 rfl
    have y0 := HX3.out.frozen 0 (by simp)
    have y1 := HX3.out.frozen 1 (by simp)
    have y2 := HX3.out.frozen 2 (by simp)
    have y3 := HX3.out.frozen 3 (by simp)
    have y4 := HX3.out.frozen 4 (by simp)
    have y5 := HX3.out.frozen 5 (by simp)
    have y6 := HX3.out.frozen 6 (by simp)
    have r0 := HR3.out.cell 0 rfl
    have r1 := HR3.out.cell 1 rfl
    have r2 := HR3.out.cell 2 rfl
    have r3 := HR3.out.cell 3 rfl
    have r4 := HR3.out.cell 4 rfl
    have r5 := HR3.out.cell 5 rfl
    have r6 := HR3.out.cell 6 rfl
    have q0 := HR3.out.frozen 0 (by simp)
    have q1 := HR3.out.frozen 1 (by simp)
    have q2 := HR3.out.frozen 2 (by simp)
    have q3 := HR3.out.frozen 3 (by simp)
    have q4 := HR3.out.frozen 4 (by simp)
    have q5 := HR3.out.frozen 5 (by simp)
    have q6 := HR3.out.frozen 6 (by simp)
    clear HX3 HR3 HX HR HK
    go_wp2
    refine bodyPost_ret (v := .agg #[iv z, iv a1, iv a2, iv a3, iv a4, iv a5, iv a6]) (by simp [results, Try.results119, go_sem, r0, r1, r2, r3, r4, r5, r6]) rfl ⟨_, _, _, _, _, _, _, rfl, ?_⟩
    have h9 := HK3.out
    clear HK3
    repeat (first | with_reducible exact h9 | refine Kb.set ?_ hg (by first | exact hle0 | exact hle1) _)
  have e0 : (s == 0) = false := by rw [beq_eq_false_iff_ne]; exact h0
  clear h0
  by_cases h1 : s = 1
  · skip
    have e1 : (s == 1) = true := by rw [beq_iff_eq]; exact h1
    clear h1
    have HKA := HK
    have HRA := HR
    have HXA := HX
    go_wp2_with fail
    refine (l8Number_any _ HKA.out.1).mono ?_
    rintro e w3 ⟨z, rfl, -, hc3, hg3⟩
    have HR3 := hid (HRA.out.cur hg3 (by omega))
    have HX3 := hid (HXA.out.cur hg3 (by omega))
    have HK3 := hid (HKA.out.next ⟨hc3, hg3⟩)
    clear hc3 hg3 HKA HRA HXA
    have x0 := HX3.out.cell 0 rfl
    have x1 := HX3.out.cell 1 rfl
    have x2 := HX3.out.cell 2 rfl
    have x3 := HX3.out.cell 3 rfl
    have x4 := HX3.out.cell 4 rfl
    have x5 := HX3.out.cell 5 rfl
    have x6 := HX3.out.cell 6 rfl
    have y0 := HX3.out.frozen 0 (by simp)
    have y1 := HX3.out.frozen 1 (by simp)
    have y2 := HX3.out.frozen 2 (by simp)
    have y3 := HX3.out.frozen 3 (by simp)
    have y4 := HX3.out.frozen 4 (by simp)
    have y5 := HX3.out.frozen 5 (by simp)
    have y6 := HX3.out.frozen 6 (by simp)
    have r0 := HR3.out.cell 0 rfl
    have r1 := HR3.out.cell 1 rfl
    have r2 := HR3.out.cell 2 rfl
    have r3 := HR3.out.cell 3 rfl
    have r4 := HR3.out.cell 4 rfl
    have r5 := HR3.out.cell 5 rfl
    have r6 := HR3.out.cell 6 rfl
    have q0 := HR3.out.frozen 0 (by simp)
    have q1 := HR3.out.frozen 1 (by simp)
    have q2 := HR3.out.frozen 2 (by simp)
    have q3 := HR3.out.frozen 3 (by simp)
    have q4 := HR3.out.frozen 4 (by simp)
    have q5 := HR3.out.frozen 5 (by simp)
    have q6 := HR3.out.frozen 6 (by simp)
    clear HX3 HR3 HX HR HK
    go_wp2
    refine bodyPost_ret (v := .agg #[iv a0, iv z, iv a2, iv a3, iv a4, iv a5, iv a6]) (by simp [results, Try.results119, go_sem, r0, r1, r2, r3, r4, r5, r6]) rfl ⟨_, _, _, _, _, _, _, rfl, ?_⟩
    have h9 := HK3.out
    clear HK3
    repeat (first | with_reducible exact h9 | refine Kb.set ?_ hg (by first | exact hle0 | exact hle1) _)
  have e1 : (s == 1) = false := by rw [beq_eq_false_iff_ne]; exact h1
  clear h1
  by_cases h2 : s = 2
  · skip
    have e2 : (s == 2) = true := by rw [beq_iff_eq]; exact h2
    clear h2
    have HL := hid ((Own.of (World.ownsRow_lit (base := w2.heap.size) (e := 3) (size := 1) w2 #[iv (-1), iv 2, iv 100] 3 (Nat.le_refl _) (by decide) rfl)).si (zs := [-1, 2, 100]))
    have HKA := hid (HK.out.alloc hg (.cells #[iv (-1), iv 2, iv 100] 3))
    have HRA := hid (HR.out.alloc (.cells #[iv (-1), iv 2, iv 100] 3))
    have HXA := hid (HX.out.alloc (.cells #[iv (-1), iv 2, iv 100] 3))
    go_wp2_with fail
    refine (l1Int_any _ HKA.out.1 HL.out (Nat.le_refl _) (by intro b off n c h; simp only [Value.slice.injEq, Option.some.injEq, Addr.mk.injEq] at h; omega) (by decide)).mono ?_
    rintro e w3 ⟨z, rfl, -, hc3, hg3⟩
    clear HL
    have HR3 := hid (HRA.out.cur hg3 (by omega))
    have HX3 := hid (HXA.out.cur hg3 (by omega))
    have HK3 := hid (HKA.out.next ⟨hc3, hg3⟩)
    clear hc3 hg3 HKA HRA HXA
    have x0 := HX3.out.cell 0 rfl
    have x1 := HX3.out.cell 1 rfl
    have x2 := HX3.out.cell 2 rfl
    have x3 := HX3.out.cell 3 rfl
    have x4 := HX3.out.cell 4 rfl
    have x5 := HX3.out.cell 5 rfl
    have x6 := HX3.out.cell 6 rfl
    have y0 := HX3.out.frozen 0 (by simp)
    have y1 := HX3.out.frozen 1 (by simp)
    have y2 := HX3.out.frozen 2 (by simp)
    have y3 := HX3.out.frozen 3 (by simp)
    have y4 := HX3.out.frozen 4 (by simp)
    have y5 := HX3.out.frozen 5 (by simp)
    have y6 := HX3.out.frozen 6 (by simp)
    have r0 := HR3.out.cell 0 rfl
    have r1 := HR3.out.cell 1 rfl
    have r2 := HR3.out.cell 2 rfl
    have r3 := HR3.out.cell 3 rfl
    have r4 := HR3.out.cell 4 rfl
    have r5 := HR3.out.cell 5 rfl
    have r6 := HR3.out.cell 6 rfl
    have q0 := HR3.out.frozen 0 (by simp)
    have q1 := HR3.out.frozen 1 (by simp)
    have q2 := HR3.out.frozen 2 (by simp)
    have q3 := HR3.out.frozen 3 (by simp)
    have q4 := HR3.out.frozen 4 (by simp)
    have q5 := HR3.out.frozen 5 (by simp)
    have q6 := HR3.out.frozen 6 (by simp)
    clear HX3 HR3 HX HR HK
    go_wp2
    refine bodyPost_ret (v := .agg #[iv a0, iv a1, iv z, iv a3, iv a4, iv a5, iv a6]) (by simp [results, Try.results119, go_sem, r0, r1, r2, r3, r4, r5, r6]) rfl ⟨_, _, _, _, _, _, _, rfl, ?_⟩
    have h9 := HK3.out
    clear HK3
    repeat (first | with_reducible exact h9 | refine Kb.set ?_ hg (by first | exact hle0 | exact hle1) _)
  have e2 : (s == 2) = false := by rw [beq_eq_false_iff_ne]; exact h2
  clear h2
  by_cases h3 : s = 3
  · skip
    have e3 : (s == 3) = true := by rw [beq_iff_eq]; exact h3
    clear h3
    have HKA := HK
    have HRA := HR
    have HXA := HX
    go_wp2_with fail
    refine (l4Raw_any _ HKA.out.1).mono ?_
    rintro e w3 ⟨z, rfl, -, hc3, hg3⟩
    have HR3 := hid (HRA.out.cur hg3 (by omega))
    have HX3 := hid (HXA.out.cur hg3 (by omega))
    have HK3 := hid (HKA.out.next ⟨hc3, hg3⟩)
    clear hc3 hg3 HKA HRA HXA
    have x0 := HX3.out.cell 0 rfl
    have x1 := HX3.out.cell 1 rfl
    have x2 := HX3.out.cell 2 rfl
    have x3 := HX3.out.cell 3 rfl
    have x4 := HX3.out.cell 4 rfl
    have x5 := HX3.out.cell 5 rfl
    have x6 := HX3.out.cell 6 rfl
    have y0 := HX3.out.frozen 0 (by simp)
    have y1 := HX3.out.frozen 1 (by simp)
    have y2 := HX3.out.frozen 2 (by simp)
    have y3 := HX3.out.frozen 3 (by simp)
    have y4 := HX3.out.frozen 4 (by simp)
    have y5 := HX3.out.frozen 5 (by simp)
    have y6 := HX3.out.frozen 6 (by simp)
    have r0 := HR3.out.cell 0 rfl
    have r1 := HR3.out.cell 1 rfl
    have r2 := HR3.out.cell 2 rfl
    have r3 := HR3.out.cell 3 rfl
    have r4 := HR3.out.cell 4 rfl
    have r5 := HR3.out.cell 5 rfl
    have r6 := HR3.out.cell 6 rfl
    have q0 := HR3.out.frozen 0 (by simp)
    have q1 := HR3.out.frozen 1 (by simp)
    have q2 := HR3.out.frozen 2 (by simp)
    have q3 := HR3.out.frozen 3 (by simp)
    have q4 := HR3.out.frozen 4 (by simp)
    have q5 := HR3.out.frozen 5 (by simp)
    have q6 := HR3.out.frozen 6 (by simp)
    clear HX3 HR3 HX HR HK
    go_wp2
    refine bodyPost_ret (v := .agg #[iv a0, iv a1, iv a2, iv a3, iv z, iv a5, iv a6]) (by simp [results, Try.results119, go_sem, r0, r1, r2, r3, r4, r5, r6]) rfl ⟨_, _, _, _, _, _, _, rfl, ?_⟩
    have h9 := HK3.out
    clear HK3
    repeat (first | with_reducible exact h9 | refine Kb.set ?_ hg (by first | exact hle0 | exact hle1) _)
  have e3 : (s == 3) = false := by rw [beq_eq_false_iff_ne]; exact h3
  clear h3
  by_cases h4 : s = 4
  · skip
    have e4 : (s == 4) = true := by rw [beq_iff_eq]; exact h4
    clear h4
    have x0 := HX.out.cell 0 rfl
    have x1 := HX.out.cell 1 rfl
    have x2 := HX.out.cell 2 rfl
    have x3 := HX.out.cell 3 rfl
    have x4 := HX.out.cell 4 rfl
    have x5 := HX.out.cell 5 rfl
    have x6 := HX.out.cell 6 rfl
    have y0 := HX.out.frozen 0 (by simp)
    have y1 := HX.out.frozen 1 (by simp)
    have y2 := HX.out.frozen 2 (by simp)
    have y3 := HX.out.frozen 3 (by simp)
    have y4 := HX.out.frozen 4 (by simp)
    have y5 := HX.out.frozen 5 (by simp)
    have y6 := HX.out.frozen 6 (by simp)
    have r0 := HR.out.cell 0 rfl
    have r1 := HR.out.cell 1 rfl
    have r2 := HR.out.cell 2 rfl
    have r3 := HR.out.cell 3 rfl
    have r4 := HR.out.cell 4 rfl
    have r5 := HR.out.cell 5 rfl
    have r6 := HR.out.cell 6 rfl
    have q0 := HR.out.frozen 0 (by simp)
    have q1 := HR.out.frozen 1 (by simp)
    have q2 := HR.out.frozen 2 (by simp)
    have q3 := HR.out.frozen 3 (by simp)
    have q4 := HR.out.frozen 4 (by simp)
    have q5 := HR.out.frozen 5 (by simp)
    have q6 := HR.out.frozen 6 (by simp)
    clear HX HR
    go_wp2
    refine bodyPost_ret (v := .agg #[iv a0, iv a1, iv a2, iv a3, iv a4, iv a5, iv (wrap64 (a6 + 1))]) (by simp [results, Try.results119, go_sem, r0, r1, r2, r3, r4, r5, r6]) rfl ⟨_, _, _, _, _, _, _, rfl, ?_⟩
    have h9 := HK.out
    clear HK
    repeat (first | with_reducible exact h9 | refine Kb.set ?_ hg (by first | exact hle0 | exact hle1) _)
  have e4 : (s == 4) = false := by rw [beq_eq_false_iff_ne]; exact h4
  clear h4
  by_cases h5 : s = 5
  · skip
    have e5 : (s == 5) = true := by rw [beq_iff_eq]; exact h5
    clear h5
    have HKA := HK
    have HRA := HR
    have HXA := HX
    go_wp2_with fail
    refine (l8Number_any _ HKA.out.1).mono ?_
    rintro e w3 ⟨z, rfl, -, hc3, hg3⟩
    have HR3 := hid (HRA.out.cur hg3 (by omega))
    have HX3 := hid (HXA.out.cur hg3 (by omega))
    have HK3 := hid (HKA.out.next ⟨hc3, hg3⟩)
    clear hc3 hg3 HKA HRA HXA
    have x0 := HX3.out.cell 0 rfl
    have x1 := HX3.out.cell 1 rfl
    have x2 := HX3.out.cell 2 rfl
    have x3 := HX3.out.cell 3 rfl
    have x4 := HX3.out.cell 4 rfl
    have x5 := HX3.out.cell 5 rfl
    have x6 := HX3.out.cell 6 rfl
    have y0 := HX3.out.frozen 0 (by simp)
    have y1 := HX3.out.frozen 1 (by simp)
    have y2 := HX3.out.frozen 2 (by simp)
    have y3 := HX3.out.frozen 3 (by simp)
    have y4 := HX3.out.frozen 4 (by simp)
    have y5 := HX3.out.frozen 5 (by simp)
    have y6 := HX3.out.frozen 6 (by simp)
    have r0 := HR3.out.cell 0 rfl
    have r1 := HR3.out.cell 1 rfl
    have r2 := HR3.out.cell 2 rfl
    have r3 := HR3.out.cell 3 rfl
    have r4 := HR3.out.cell 4 rfl
    have r5 := HR3.out.cell 5 rfl
    have r6 := HR3.out.cell 6 rfl
    have q0 := HR3.out.frozen 0 (by simp)
    have q1 := HR3.out.frozen 1 (by simp)
    have q2 := HR3.out.frozen 2 (by simp)
    have q3 := HR3.out.frozen 3 (by simp)
    have q4 := HR3.out.frozen 4 (by simp)
    have q5 := HR3.out.frozen 5 (by simp)
    have q6 := HR3.out.frozen 6 (by simp)
    clear HX3 HR3 HX HR HK
    go_wp2
    refine bodyPost_ret (v := .agg #[iv a0, iv a1, iv a2, iv a3, iv a4, iv z, iv a6]) (by simp [results, Try.results119, go_sem, r0, r1, r2, r3, r4, r5, r6]) rfl ⟨_, _, _, _, _, _, _, rfl, ?_⟩
    have h9 := HK3.out
    clear HK3
    repeat (first | with_reducible exact h9 | refine Kb.set ?_ hg (by first | exact hle0 | exact hle1) _)
  have e5 : (s == 5) = false := by rw [beq_eq_false_iff_ne]; exact h5
  clear h5
  have x0 := HX.out.cell 0 rfl
  have x1 := HX.out.cell 1 rfl
  have x2 := HX.out.cell 2 rfl
  have x3 := HX.out.cell 3 rfl
  have x4 := HX.out.cell 4 rfl
  have x5 := HX.out.cell 5 rfl
  have x6 := HX.out.cell 6 rfl
  have y0 := HX.out.frozen 0 (by simp)
  have y1 := HX.out.frozen 1 (by simp)
  have y2 := HX.out.frozen 2 (by simp)
  have y3 := HX.out.frozen 3 (by simp)
  have y4 := HX.out.frozen 4 (by simp)
  have y5 := HX.out.frozen 5 (by simp)
  have y6 := HX.out.frozen 6 (by simp)
  have r0 := HR.out.cell 0 rfl
  have r1 := HR.out.cell 1 rfl
  have r2 := HR.out.cell 2 rfl
  have r3 := HR.out.cell 3 rfl
  have r4 := HR.out.cell 4 rfl
  have r5 := HR.out.cell 5 rfl
  have r6 := HR.out.cell 6 rfl
  have q0 := HR.out.frozen 0 (by simp)
  have q1 := HR.out.frozen 1 (by simp)
  have q2 := HR.out.frozen 2 (by simp)
  have q3 := HR.out.frozen 3 (by simp)
  have q4 := HR.out.frozen 4 (by simp)
  have q5 := HR.out.frozen 5 (by simp)
  have q6 := HR.out.frozen 6 (by simp)
  clear HX HR
  go_wp2
  refine bodyPost_ret (v := .agg #[iv a0, iv a1, iv a2, iv a3, iv a4, iv a5, iv a6]) (by simp [results, Try.results119, go_sem, r0, r1, r2, r3, r4, r5, r6]) rfl ⟨_, _, _, _, _, _, _, rfl, ?_⟩
  have h9 := HK.out
  clear HK
  repeat (first | with_reducible exact h9 | refine Kb.set ?_ hg (by first | exact hle0 | exact hle1) _)
def DrewKeys7 (w : World) (e : Ending) (w' : World) : Prop :=
  ∃ (u : Value) (ks : List (List Int)) (a0 a1 a2 a3 a4 a5 a6 : Int), e = .returned (.tuple #[u, .agg #[iv a0, iv a1, iv a2, iv a3, iv a4, iv a5, iv a6]]) ∧ (∀ r ∈ ks, r.length = 5) ∧ ks.length = 10 ∧ Own w' 64 5 u w.heap.size w'.heap.size ks.length (flat ks) ∧ Below w.heap.size w w'
set_option maxHeartbeats 4000000 in
theorem DrawIssueCert_any {n : Nat} {v : Value} (w : World) (hv : Bytes w.heap.size w v n) (hn : n ≤ 1048576) :
    Calls Try.prog 47 #[v] w (DrewKeys7 w) := by
  have HV := hid ((hv.below (below_alloc w (.cells #[iv 0, iv 0, iv 0, iv 0, iv 0, iv 0, iv 0] 74)) (Nat.le_refl _)).mono (B' := (w.alloc (.cells #[iv 0, iv 0, iv 0, iv 0, iv 0, iv 0, iv 0] 74)).heap.size) (by simp))
  have HX0 := hid (Blk.new w #[iv 0, iv 0, iv 0, iv 0, iv 0, iv 0, iv 0] 74)
  clear hv
  go_enter Try.func47, Try.ntmps47
  go_wp2_with fail
  refine (l1New_any _ HV.out hn).mono ?_
  rintro e w1 ⟨rfl, hc1, hb1⟩
  have HX1 := hid (HX0.out.below hb1)
  have HB1 := hid (below_step (below_alloc w (.cells #[iv 0, iv 0, iv 0, iv 0, iv 0, iv 0, iv 0] 74)) hb1)
  have hg := hc1.lt
  have HK1 := hid (Kb.refl hc1)
  obtain ⟨g, hgg⟩ : ∃ g, g = (w.alloc (.cells #[iv 0, iv 0, iv 0, iv 0, iv 0, iv 0, iv 0] 74)).heap.size := ⟨_, rfl⟩
  rw [← hgg] at hg HK1 ⊢
  have hgw : w.heap.size < g := by rw [hgg]; simp
  clear hb1 hc1 hgg
  go_wp2_with fail
  refine (l8Any_any _ HK1.out.1).mono ?_
  rintro e w2 ⟨u, ks, rfl, h2, hl, ho2, hk2⟩
  have HK2 := hid (HK1.out.next hk2)
  have HX2 := hid (HX1.out.cur hk2.2 (by omega))
  have HO2 := hid ho2.1
  have H2 := hid h2
  clear ho2 hk2 h2
  go_wp2_with fail
  refine (l9Any_any _ HK2.out.1).mono ?_
  rintro e w3 ⟨a0, a1, a2, a3, a4, a5, a6, rfl, hk3⟩
  have HK3 := hid (HK2.out.next hk3)
  have HO3 := hid ((Own.cur (Own.of HO2.out) hk3.2 hg (Nat.le_refl _)).1)
  have HX3 := hid (HX2.out.cur hk3.2 (by omega))
  have r0 := HX3.out.cell 0 rfl
  have r1 := HX3.out.cell 1 rfl
  have r2 := HX3.out.cell 2 rfl
  have r3 := HX3.out.cell 3 rfl
  have r4 := HX3.out.cell 4 rfl
  have r5 := HX3.out.cell 5 rfl
  have r6 := HX3.out.cell 6 rfl
  have q0 := HX3.out.frozen 0 (by simp)
  have q1 := HX3.out.frozen 1 (by simp)
  have q2 := HX3.out.frozen 2 (by simp)
  have q3 := HX3.out.frozen 3 (by simp)
  have q4 := HX3.out.frozen 4 (by simp)
  have q5 := HX3.out.frozen 5 (by simp)
  have q6 := HX3.out.frozen 6 (by simp)
  clear hk3 HX3 HX2 HX1 HX0
  go_wp2
  refine bodyPost_ret (v := .tuple #[u, .agg #[iv a0, iv a1, iv a2, iv a3, iv a4, iv a5, iv a6]]) (by simp [results, Try.results47, go_sem, r0, r1, r2, r3, r4, r5, r6]) rfl ⟨_, ks, _, _, _, _, _, _, _, rfl, H2.out, hl, ?_, ?_⟩
  · have h9 := (Own.of HO3.out).mono (lo' := w.heap.size + 1) (hi' := w3.heap.size) (by omega) (Nat.le_refl _)
    refine (h9.apart (hi0 := w.heap.size + 1) ?_ (Nat.le_refl _)).mono (by omega) (by simp)
    repeat (first | with_reducible exact Apart.refl _ _ | refine Apart.setCell ?_ (by simp) _)
  · have h9 := kb_below HB1.out (Nat.le_of_lt hgw) hg HK3.out
    repeat (first | with_reducible exact h9 | refine Below.setCell ?_ (by simp) _)
end Go.Proofs.Ytkdpfbodmfjkkaa
