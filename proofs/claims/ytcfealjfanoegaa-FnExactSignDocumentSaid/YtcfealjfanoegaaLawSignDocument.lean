/- The law FnExactSignDocument is true of every input: the program's SignDocument and the reference's return the same, and leave their arguments as they were. No condition. -/
import Derived.Test.YtcfealjfanoegaaRows
import Derived.Test.YtcfealjfanoegaaBase
import Derived.Test.YtcfealjfanoegaaOpen
import Derived.Test.YtcfealjfanoegaaPlain
import Derived.Test.YtcfealjfanoegaaBlk
import Derived.Test.YtcfealjfanoegaaHelpKey
import Derived.Test.YtcfealjfanoegaaHelpSignature
import Derived.Test.YtcfealjfanoegaaHelpDoc
import Derived.Test.YtcfealjfanoegaaSignDoc
import Derived.Test.YtcfealjfanoegaaBox
import Derived.Test.YtcfealjfanoegaaOpenDoc
import Derived.Test.YtcfealjfanoegaaOpen5
import Derived.Deep.DeepCutAuto
namespace Go.Proofs.Ytcfealjfanoegaa
open Go.ChangeShapes Go.WideShapes Go.ChangeAt Go.RowKit Go.Deep

/-- Block g holds these nine numbers. -/
def Blk9 (g : Nat) (w : World) (r0 r1 r2 r3 r4 r5 r6 r7 r8 : Int) : Prop := g < w.heap.size ∧ w.cell? ⟨g, 0, none⟩ = some (iv r0) ∧ w.cell? ⟨g, 1, none⟩ = some (iv r1) ∧ w.cell? ⟨g, 2, none⟩ = some (iv r2) ∧ w.cell? ⟨g, 3, none⟩ = some (iv r3) ∧ w.cell? ⟨g, 4, none⟩ = some (iv r4) ∧ w.cell? ⟨g, 5, none⟩ = some (iv r5) ∧ w.cell? ⟨g, 6, none⟩ = some (iv r6) ∧ w.cell? ⟨g, 7, none⟩ = some (iv r7) ∧ w.cell? ⟨g, 8, none⟩ = some (iv r8)
theorem Blk9.below {g : Nat} {w w1 : World} {r0 r1 r2 r3 r4 r5 r6 r7 r8 : Int} (h : Blk9 g w r0 r1 r2 r3 r4 r5 r6 r7 r8) (hb : Below w.heap.size w w1) : Blk9 g w1 r0 r1 r2 r3 r4 r5 r6 r7 r8 := by
  obtain ⟨h0, h1, h2, h3, h4, h5, h6, h7, h8, h9⟩ := h
  obtain ⟨hc, -⟩ := bcell hb
  exact ⟨Nat.lt_of_lt_of_le h0 hb.size, (hc _ _ h0).trans h1, (hc _ _ h0).trans h2, (hc _ _ h0).trans h3, (hc _ _ h0).trans h4, (hc _ _ h0).trans h5, (hc _ _ h0).trans h6, (hc _ _ h0).trans h7, (hc _ _ h0).trans h8, (hc _ _ h0).trans h9⟩
theorem Blk9.new (w : World) (r0 r1 r2 r3 r4 r5 r6 r7 r8 : Int) (T : TypeId) : Blk9 w.heap.size (w.alloc (.cells #[iv r0, iv r1, iv r2, iv r3, iv r4, iv r5, iv r6, iv r7, iv r8] T)) r0 r1 r2 r3 r4 r5 r6 r7 r8 := by
  have h := heap_new w (.cells #[iv r0, iv r1, iv r2, iv r3, iv r4, iv r5, iv r6, iv r7, iv r8] T)
  exact ⟨by simp, cell_in h 0 rfl, cell_in h 1 rfl, cell_in h 2 rfl, cell_in h 3 rfl, cell_in h 4 rfl, cell_in h 5 rfl, cell_in h 6 rfl, cell_in h 7 rfl, cell_in h 8 rfl⟩

set_option maxRecDepth 16000 in
set_option maxHeartbeats 8000000 in
theorem lawSignDocument_any {ks : List (List Int)} {ps : List ByteArray} {zs : List Int} {v0 P S : Value} (k s m t cm : Int) (w : World) (s0 : Sl w.heap.size w 5 v0 ks) (hs0 : ∀ r ∈ ks, r.length = 5) (sp : Ss w.heap.size w P ps) (hsz : ∀ k, k < ps.length → (nthS ps k).size ≤ 9223372036854775807) (sz : Si w.heap.size w S zs) :
    Calls Try.prog 14 #[v0, iv k, iv s, iv m, .agg #[iv t, P, S], iv cm] w (Ret (.bool true) w) := by
  obtain ⟨A0, c0, rfl, hca0, hcb0, -⟩ := id s0
  obtain ⟨A1, c1, rfl, hd1, hd2, -⟩ := id sp
  obtain ⟨A2, c2, rfl, hd3, hd4, -⟩ := id sz
  have H0 := hid (below_alloc w (.cells #[iv t, .slice A1 ps.length c1, .slice A2 zs.length c2] 97))
  by_cases hl0 : ks.length ≤ 1048576
  rotate_left
  · go_enter Try.func14, Try.ntmps14
    go_wp2_with fail
    refine (szKeyS_no _ _ (by omega) (by omega) (by omega) (by omega)).mono ?_
    rintro e w' ⟨rfl, rfl⟩
    go_wp2
    go_ret
    exact ⟨rfl, H0.out⟩
  obtain ⟨r0, r1, r2, r3, r4, r5, r6, r7, r8, b, hI, hP⟩ := both_sign ks k s m (docI m t ps zs) cm 0 0 0 0
  have HI := hid hI
  have HP := hid hP
  have HSZ := hid hsz
  have HK := hid (s0.step H0.out)
  have HSP := hid (sp.step H0.out)
  have HSI := hid (sz.step H0.out)
  have HA := hid (Blk.new w #[iv t, .slice A1 ps.length c1, .slice A2 zs.length c2] 97)
  clear hI hP hsz s0 sp sz
  go_enter Try.func14, Try.ntmps14
  go_wp2_with fail
  refine (szKeyS_ok _ _ (by omega) (by omega) (by omega)).mono ?_
  rintro e w' ⟨rfl, rfl⟩
  go_wp2_with fail
  generalize w.alloc (.cells #[iv t, .slice A1 ps.length c1, .slice A2 zs.length c2] 97) = W0 at H0 HK HSP HSI HA ⊢
  refine (szDocument_any t _ W0 HSP.out HSI.out (Nat.le_refl _) (by omega) (by omega) HSZ.out).mono ?_
  rintro e w0 ⟨r, rfl, hr, hb0⟩
  replace H0 := hid (below_step H0.out hb0)
  rcases hr with rfl | ⟨hr0, hr1⟩
  · go_wp2
    go_ret
    exact ⟨rfl, H0.out⟩
  have HZ0 := hid (HA.out.below hb0)
  have s0 := HK.out.step hb0
  have sp := HSP.out.step hb0
  have sz := HSI.out.step hb0
  have hps : ps.length ≤ 1048576 := by omega
  have hzs : zs.length ≤ 1048576 := by omega
  clear hb0 HA HK HSP HSI HSZ hr1
  have HX : Below w0.heap.size w0 w0 := Below.refl _ _
  have HS : Hid (∀ w' : World, Below w0.heap.size w0 w' → (w'.cell? ⟨w.heap.size, 0, none⟩ = some (iv t) ∧ w'.cell? ⟨w.heap.size, 1, none⟩ = some (.slice A1 ps.length c1) ∧ w'.cell? ⟨w.heap.size, 2, none⟩ = some (.slice A2 zs.length c2) ∧ Below w0.heap.size w0 w')) := hid fun w' hx => ⟨(HZ0.out.below hx).cell 0 rfl, (HZ0.out.below hx).cell 1 rfl, (HZ0.out.below hx).cell 2 rfl, hx⟩
  have hlw : w.heap.size < w0.heap.size := HZ0.out.lt
  go_upto_region 8 with fail
  go_cut [14, 15] (fun s14 s15 wx => ∃ g : Nat, s14 = .pointer (some ⟨g, 0, none⟩) ∧ s15 = .bool b ∧ (wx.cell? ⟨g, 0, none⟩ = some (iv r0) ∧ wx.cell? ⟨g, 1, none⟩ = some (iv r1) ∧ wx.cell? ⟨g, 2, none⟩ = some (iv r2) ∧ wx.cell? ⟨g, 3, none⟩ = some (iv r3) ∧ wx.cell? ⟨g, 4, none⟩ = some (iv r4) ∧ wx.cell? ⟨g, 5, none⟩ = some (iv r5) ∧ wx.cell? ⟨g, 6, none⟩ = some (iv r6) ∧ wx.cell? ⟨g, 7, none⟩ = some (iv r7) ∧ wx.cell? ⟨g, 8, none⟩ = some (iv r8)) ∧ w0.heap.size ≤ g ∧ g < wx.heap.size ∧ Below w0.heap.size w0 wx)
  case first =>
    go_region_held3 (fun w' => w'.cell? ⟨w.heap.size, 0, none⟩ = some (iv t) ∧ w'.cell? ⟨w.heap.size, 1, none⟩ = some (.slice A1 ps.length c1) ∧ w'.cell? ⟨w.heap.size, 2, none⟩ = some (.slice A2 zs.length c2) ∧ Below w0.heap.size w0 w') (first | with_reducible exact HS.out _ HX.drew | with_reducible exact HS.out _ HZ1.out | with_reducible exact HS.out _ HZ2.out | with_reducible exact HS.out _ HZ3.out | with_reducible exact HS.out _ (HX.alloc HX.size _).drew | with_reducible exact HS.out _ (HZ1.out.alloc HZ1.out.size _) | with_reducible exact HS.out _ (HZ2.out.alloc HZ2.out.size _) | with_reducible exact HS.out _ (HZ3.out.alloc HZ3.out.size _) | (refine HS.out _ ?_; (repeat (first | refine Below.setCell ?_ (Nat.le_refl _) _ | refine Below.setCell ?_ HZ3.out.size _ | refine Below.setCell ?_ HZ2.out.size _ | refine Below.setCell ?_ HZ1.out.size _ | refine Below.setCell ?_ HX.drew.size _)); exact HZ3.out) | go_keep)
      (first | (go_at_call 21; (first | refine (toKeyS_any _ (s0.below HX.drew (Nat.le_refl _)) hs0 HX.drew.size (by omega)).mono ?_ | refine (toKeyS_any _ (s0.below (HX.alloc HX.size _).drew (Nat.le_refl _)) hs0 (HX.alloc HX.size _).drew.size (by omega)).mono ?_); rintro e w1 ⟨o1, rfl, ho1, hb1⟩; (first | have HZ1 := hid (below_step HX.drew hb1) | have HZ1 := hid (below_step (HX.alloc HX.size _).drew hb1)); have t1 := (Own.sl ho1 hs0); (first | have Q1 := hid (box_step_drew (show w0.heap.size = w0.heap.size from rfl) hb1) | skip)) | (go_at_call 69; (first | refine (toDocument_any t _ (sp.below HZ1.out (Nat.le_refl _)) (sz.below HZ1.out (Nat.le_refl _)) HZ1.out.size hps hzs).mono ?_ | refine (toDocument_any t _ (sp.below (HZ1.out.alloc HZ1.out.size _) (Nat.le_refl _)) (sz.below (HZ1.out.alloc HZ1.out.size _) (Nat.le_refl _)) (HZ1.out.alloc HZ1.out.size _).size hps hzs).mono ?_); rintro e w2 ⟨p2, z2, rfl, hp2, hz2, hb2⟩; (first | have HZ2 := hid (below_step HZ1.out hb2) | have HZ2 := hid (below_step (HZ1.out.alloc HZ1.out.size _) hb2)); (first | have t1x2 := t1.step hb2 | have t1x2 := (t1.step (below_alloc _ _)).step hb2); have tp2 := Own.ss hp2; have tz2 := Own.si hz2; (first | have Q2 := hid (box_next Q1.out hb2) | have Q2 := hid (box_step hb2) | skip)) | (go_at_call 68; (first | refine (specSignDocument_any k s m t cm r0 r1 r2 r3 r4 r5 r6 r7 r8 b _ t1x2 tp2 tz2 (Nat.le_refl _) HP.out).mono ?_ | refine (specSignDocument_any k s m t cm r0 r1 r2 r3 r4 r5 r6 r7 r8 b _ (t1x2.step (below_alloc _ _)) (tp2.step (below_alloc _ _)) (tz2.step (below_alloc _ _)) (Nat.le_refl _) HP.out).mono ?_); rintro e w3 ⟨rfl, hb3⟩; (first | have HZ3 := hid (below_step HZ2.out hb3) | have HZ3 := hid (below_step (HZ2.out.alloc HZ2.out.size _) hb3)); (first | have Q3 := box_next Q2.out hb3 | have Q3 := box_step hb3 | skip); (try obtain ⟨hzA, hcA, hfA⟩ := Q3)))
    all_goals (go_wp2_with fail; go_meet; go_split_ands; refine ⟨_, rfl, rfl, ⟨?_, ?_, ?_, ?_, ?_, ?_, ?_, ?_, ?_⟩, ?_, ?_, ?_⟩)
    all_goals first | (with_reducible assumption; done) | with_reducible exact HZ3.out.size | with_reducible exact HZ2.out.size | with_reducible exact HZ1.out.size | with_reducible exact Nat.le_refl _ | (simp [go_sem]; done) | (simp [go_sem, hcA]; done) | (simp [go_sem]; omega)
  case rest =>
    obtain ⟨gA, rfl, rfl, hA, hgA, hgB, HX2⟩ := hcut
    clear HX
    have HA : Hid (Blk9 gA wc r0 r1 r2 r3 r4 r5 r6 r7 r8) := hid ⟨hgB, hA⟩
    have HXc := hid HX2
    have HZc := hid (HZ0.out.below HX2)
    have HKc := hid (s0.below HX2 (Nat.le_refl _))
    have HPc := hid (sp.below HX2 (Nat.le_refl _))
    have HIc := hid (sz.below HX2 (Nat.le_refl _))
    have hzc := HX2.size
    clear hA hgB HX2 HS HP s0 sp sz HZ0
    go_wp2_with fail
    refine (toKeyS_any wc HKc.out hs0 hzc (by omega)).mono ?_
    rintro e w1 ⟨o1, rfl, ho1, hb1⟩
    have HO1 := hid ho1
    have HX1 := hid (below_step HXc.out hb1)
    have HZ1 := hid (HZc.out.below hb1)
    have HA1 := hid (HA.out.below hb1)
    have hz1 := hb1.size
    have HP1 := hid (HPc.out.below hb1 hzc)
    have HI1 := hid (HIc.out.below hb1 hzc)
    have HK1 := hid (HKc.out.below hb1 hzc)
    obtain ⟨G1, d1, rfl⟩ := ownsRow_form ho1.1
    have x0 := HZ1.out.cell 0 rfl
    have x1 := HZ1.out.cell 1 rfl
    have x2 := HZ1.out.cell 2 rfl
    clear hb1 ho1 HXc HZc HA HKc HPc HIc
    go_wp2_with fail
    clear x0 x1 x2
    refine (toDocument_any t w1 HP1.out HI1.out (by omega) hps hzs).mono ?_
    rintro e w2 ⟨p2, z2, rfl, hp2, hz2, hb2⟩
    obtain ⟨G2, d2, rfl⟩ := ownsRow_form hp2.1
    obtain ⟨G3, d3, rfl⟩ := ownsRow_form hz2.1
    have hz2' := hb2.size
    have HO2 := hid (((Own.sl HO1.out hs0).below hb2 (Nat.le_refl _)).below (below_alloc w2 (.cells #[iv t, .slice G2 ps.length d2, .slice G3 zs.length d3] 101)) (by omega))
    have HP2 := hid ((Own.ss hp2).below (below_alloc w2 (.cells #[iv t, .slice G2 ps.length d2, .slice G3 zs.length d3] 101)) (Nat.le_refl _))
    have HI2 := hid ((Own.si hz2).below (below_alloc w2 (.cells #[iv t, .slice G2 ps.length d2, .slice G3 zs.length d3] 101)) (Nat.le_refl _))
    have HX2 := hid (below_step (below_step HX1.out hb2) (below_alloc w2 (.cells #[iv t, .slice G2 ps.length d2, .slice G3 zs.length d3] 101)))
    have HZ2 := hid ((HZ1.out.below hb2).alloc (.cells #[iv t, .slice G2 ps.length d2, .slice G3 zs.length d3] 101))
    have HA2 := hid ((HA1.out.below hb2).below (below_alloc w2 (.cells #[iv t, .slice G2 ps.length d2, .slice G3 zs.length d3] 101)))
    have HY2 := hid (Blk.new w2 #[iv t, .slice G2 ps.length d2, .slice G3 zs.length d3] 101)
    have HQ2 := hid ((HP1.out.below hb2 (by omega)).below (below_alloc w2 (.cells #[iv t, .slice G2 ps.length d2, .slice G3 zs.length d3] 101)) (by omega))
    have HJ2 := hid ((HI1.out.below hb2 (by omega)).below (below_alloc w2 (.cells #[iv t, .slice G2 ps.length d2, .slice G3 zs.length d3] 101)) (by omega))
    have HK2 := hid ((HK1.out.below hb2 (by omega)).below (below_alloc w2 (.cells #[iv t, .slice G2 ps.length d2, .slice G3 zs.length d3] 101)) (by omega))
    have hz3 : w2.heap.size < (w2.alloc (.cells #[iv t, .slice G2 ps.length d2, .slice G3 zs.length d3] 101)).heap.size := by simp
    clear hb2 hp2 hz2 HO1 HX1 HZ1 HA1 HP1 HI1 HK1
    go_wp2_with fail
    generalize w2.alloc (.cells #[iv t, .slice G2 ps.length d2, .slice G3 zs.length d3] 101) = W2 at HO2 HP2 HI2 HX2 HZ2 HA2 HY2 HQ2 HJ2 HK2 hz3 ⊢
    have y0 := HY2.out.cell 0 rfl
    refine (implSignDocument_any k s m t cm r0 r1 r2 r3 r4 r5 r6 r7 r8 b W2 (HO2.out.mono (show w1.heap.size ≤ W2.heap.size by omega)) (HP2.out.mono (show w2.heap.size ≤ W2.heap.size by omega)) (HI2.out.mono (show w2.heap.size ≤ W2.heap.size by omega)) (Nat.le_refl _) HI.out).mono ?_
    rintro e w3 ⟨rfl, hb3⟩
    have hz4 := hb3.size
    have hb4 := below_step hb3 (below_alloc w3 (.cells #[iv r0, iv r1, iv r2, iv r3, iv r4, iv r5, iv r6, iv r7, iv r8] 25))
    have HO4 := hid (HO2.out.below hb4 (by omega))
    have HP4 := hid (HP2.out.below hb4 (by omega))
    have HI4 := hid (HI2.out.below hb4 (by omega))
    have HX4 := hid (below_step HX2.out hb4)
    have HZ4 := hid (HZ2.out.below hb4)
    have HY4 := hid (HY2.out.below hb4)
    have HA4 := hid (HA2.out.below hb4)
    have HQ4 := hid (HQ2.out.below hb4 (by omega))
    have HJ4 := hid (HJ2.out.below hb4 (by omega))
    have HK4 := hid (HK2.out.below hb4 (by omega))
    have HB4 := hid (Blk9.new w3 r0 r1 r2 r3 r4 r5 r6 r7 r8 25)
    have hz5 : w3.heap.size < (w3.alloc (.cells #[iv r0, iv r1, iv r2, iv r3, iv r4, iv r5, iv r6, iv r7, iv r8] 25)).heap.size := by simp
    clear y0 hb3 hb4 HO2 HP2 HI2 HX2 HZ2 HY2 HA2 HQ2 HJ2 HK2 HI
    obtain ⟨a9, a0, a1, a2, a3, a4, a5, a6, a7, a8⟩ := HA4.out
    obtain ⟨e9, e0, e1, e2, e3, e4, e5, e6, e7, e8⟩ := HB4.out
    go_wp2_with fail
    clear a0 a1 a2 a3 a4 a5 a6 a7 a8 a9 e0 e1 e2 e3 e4 e5 e6 e7 e8 e9
    generalize w3.alloc (.cells #[iv r0, iv r1, iv r2, iv r3, iv r4, iv r5, iv r6, iv r7, iv r8] 25) = W4 at HO4 HP4 HI4 HX4 HZ4 HY4 HA4 HQ4 HJ4 HK4 HB4 hz5 ⊢
    refine (eqSignature_any r0 r1 r2 r3 r4 r5 r6 r7 r8 W4).mono ?_
    rintro e w5 ⟨rfl, hb5⟩
    have hz6 := hb5.size
    have HO5 := hid (HO4.out.below hb5 (by omega))
    have HP5 := hid (HP4.out.below hb5 (by omega))
    have HI5 := hid (HI4.out.below hb5 (by omega))
    have HX5 := hid (below_step HX4.out hb5)
    have HZ5 := hid (HZ4.out.below hb5)
    have HY5 := hid (HY4.out.below hb5)
    have HQ5 := hid (HQ4.out.below hb5 (by omega))
    have HJ5 := hid (HJ4.out.below hb5 (by omega))
    have HK5 := hid (HK4.out.below hb5 (by omega))
    clear hb5 HO4 HP4 HI4 HX4 HZ4 HY4 HA4 HB4 HQ4 HJ4 HK4
    go_wp2_with fail
    refine (toKeyS_any w5 HK5.out hs0 (by omega) (by omega)).mono ?_
    rintro e w6 ⟨o6, rfl, ho6, hb6⟩
    have hz7 := hb6.size
    have HO6 := hid (HO5.out.below hb6 (by omega))
    have HT6 := hid (Own.sl ho6 hs0)
    have HP6 := hid (HP5.out.below hb6 (by omega))
    have HI6 := hid (HI5.out.below hb6 (by omega))
    have HX6 := hid (below_step HX5.out hb6)
    have HZ6 := hid (HZ5.out.below hb6)
    have HY6 := hid (HY5.out.below hb6)
    have HQ6 := hid (HQ5.out.below hb6 (by omega))
    have HJ6 := hid (HJ5.out.below hb6 (by omega))
    clear hb6 ho6 HO5 HP5 HI5 HX5 HZ5 HY5 HQ5 HJ5 HK5
    go_wp2_with fail
    refine (eqKeyS_any w6 (HO6.out.mono (show w1.heap.size ≤ w6.heap.size by omega)) HT6.out (Nat.le_refl _)).mono ?_
    rintro e w7 ⟨rfl, hb7⟩
    have hz8 := hb7.size
    have HP7 := hid (HP6.out.below hb7 (by omega))
    have HI7 := hid (HI6.out.below hb7 (by omega))
    have HX7 := hid (below_step HX6.out hb7)
    have HZ7 := hid (HZ6.out.below hb7)
    have HY7 := hid (HY6.out.below hb7)
    have HQ7 := hid (HQ6.out.below hb7 (by omega))
    have HJ7 := hid (HJ6.out.below hb7 (by omega))
    clear hb7 HO6 HT6 HP6 HI6 HX6 HZ6 HY6 HQ6 HJ6
    have HR : Hid (∀ w' : World, Below w7.heap.size w7 w' → (w'.cell? ⟨w.heap.size, 0, none⟩ = some (iv t) ∧ w'.cell? ⟨w.heap.size, 1, none⟩ = some (.slice A1 ps.length c1) ∧ w'.cell? ⟨w.heap.size, 2, none⟩ = some (.slice A2 zs.length c2) ∧ w'.cell? ⟨w2.heap.size, 0, none⟩ = some (iv t) ∧ w'.cell? ⟨w2.heap.size, 1, none⟩ = some (.slice G2 ps.length d2) ∧ w'.cell? ⟨w2.heap.size, 2, none⟩ = some (.slice G3 zs.length d3) ∧ Below w7.heap.size w7 w')) := hid fun w' hx => ⟨(HZ7.out.below hx).cell 0 rfl, (HZ7.out.below hx).cell 1 rfl, (HZ7.out.below hx).cell 2 rfl, (HY7.out.below hx).cell 0 rfl, (HY7.out.below hx).cell 1 rfl, (HY7.out.below hx).cell 2 rfl, hx⟩
    go_wp2_with fail
    go_region_held3 (fun w' => w'.cell? ⟨w.heap.size, 0, none⟩ = some (iv t) ∧ w'.cell? ⟨w.heap.size, 1, none⟩ = some (.slice A1 ps.length c1) ∧ w'.cell? ⟨w.heap.size, 2, none⟩ = some (.slice A2 zs.length c2) ∧ w'.cell? ⟨w2.heap.size, 0, none⟩ = some (iv t) ∧ w'.cell? ⟨w2.heap.size, 1, none⟩ = some (.slice G2 ps.length d2) ∧ w'.cell? ⟨w2.heap.size, 2, none⟩ = some (.slice G3 zs.length d3) ∧ Below w7.heap.size w7 w') (first | with_reducible exact HR.out _ (Below.refl w7.heap.size w7).drew | with_reducible exact HR.out _ HE8.out | with_reducible exact HR.out _ HE9.out | go_keep)
      (first | (go_at_call 69; refine (toDocument_any t _ (HQ7.out.below (Below.refl w7.heap.size w7).drew (by omega)) (HJ7.out.below (Below.refl w7.heap.size w7).drew (by omega)) (Nat.le_trans (show w0.heap.size ≤ w7.heap.size by omega) (Below.refl w7.heap.size w7).drew.size) hps hzs).mono ?_; rintro e w8 ⟨p8, z8, rfl, hp8, hz8, hb8⟩; have HE8 := hid (below_step (Below.refl w7.heap.size w7).drew hb8); have HP8 := hid (Own.ss hp8); have HI8 := hid (Own.si hz8)) | (go_at_call 72; refine (eqDocument_any t w8 ((HP7.out.below HE8.out (by omega)).mono (Nat.le_trans (show w2.heap.size ≤ w7.heap.size by omega) HE8.out.size)) ((HI7.out.below HE8.out (by omega)).mono (Nat.le_trans (show w2.heap.size ≤ w7.heap.size by omega) HE8.out.size)) HP8.out HI8.out (Nat.le_refl _)).mono ?_; rintro e w9 ⟨rfl, hb9⟩; have HE9 := hid (below_step HE8.out hb9)))
    go_wp2
    go_ret
    exact ⟨rfl, below_step H0.out (HX7.out.trans (HE9.out.mono (by omega)))⟩

set_option maxRecDepth 100000 in
theorem lawSignDocument_lifted (os : Os) (started : os.Started) (H : Type) (enc : TypeId × Value → H) :
    ReturnsInHanded {} Try.checked os 14 .any (Rows.fnExactSignDocumentSpec.pre6 enc Try.prog Try.f14 Rows.fnExactSignDocumentRow.domain false) (Rows.fnExactSignDocumentSpec.post enc Try.prog Try.f14 false true false false) := by
  refine returnsInHanded_of_change (C := Try.checked) Try.own started (by kernel_rfl) Try.func14
    (ChangeSpec.witness6 (enc := enc) (C := Try.checked) false ⟨#[], #[.slice none 0 0, .int .i64 0, .int .i64 0, .int .i64 0, .agg #[.int .i64 0, .slice none 0 0, .slice none 0 0], .int .i64 0], []⟩ 8 (by kernel_rfl) (by kernel_rfl) (by kernel_rfl) (by kernel_rfl)) ?_
  intro W base args ds gs before hval0 hW hcnd _
  have hval : ∀ (j : Nat) t v, Try.f14.params[j]? = some t → args[j]? = some v → Value.okWide Try.prog W .any base t v := hval0
  have hW' := hW
  obtain ⟨p, q, hA0, hV, rfl, hfz, hnd⟩ := hW
  have hA : DataW.TrodAll enc Try.prog W 0 (fun _ => true) true Try.f14.params.toList args.toList ds p := hA0
  rw [Try.params14] at hA hval
  obtain ⟨v0, v1, v2, v3, v4, v5, d0, d1, d2, d3, d4, d5, p0, p1, p2, p3, p4, p5, rfl, rfl, rfl, h0, h1, h2, h3, h4, h5⟩ := args_six hA
  obtain ⟨rfl, rfl⟩ := trodVars_none hV
  obtain ⟨ks, s0, hs0, -⟩ := open_rows Try.underlying28 Try.underlying115 (by kernel_rfl) (N := 5) (by kernel_rfl) (by kernel_rfl) (by decide) Try.underlying3 (by kernel_rfl) (hval 0 28 v0 rfl rfl) h0
  obtain ⟨k, rfl, rfl, rfl, -⟩ := open_int Try.underlying3 (hval 1 3 v1 rfl rfl) h1
  obtain ⟨s, rfl, rfl, rfl, -⟩ := open_int Try.underlying3 (hval 2 3 v2 rfl rfl) h2
  obtain ⟨m, rfl, rfl, rfl, -⟩ := open_int Try.underlying3 (hval 3 3 v3 rfl rfl) h3
  obtain ⟨t, ps, zs, u1, u2, rfl, sp, hsz, sz⟩ := open_doc Try.underlying97 (by kernel_rfl) (by kernel_rfl) Try.underlying3 Try.underlying95 Try.underlying9 (by kernel_rfl) Try.underlying61 Try.underlying3 (by kernel_rfl) (hval 4 97 v4 rfl rfl) h4
  obtain ⟨cm, rfl, rfl, rfl, -⟩ := open_int Try.underlying3 (hval 5 3 v5 rfl rfl) h5
  refine (lawSignDocument_any k s m t cm W s0 hs0 sp hsz sz).mono fun e W' ⟨he, hb⟩ => ?_
  subst he
  exact ⟨_, rfl, post_true hW' rfl Try.laidOut (by kernel_rfl) rfl Try.underlying4 rfl hb⟩

theorem lawSignDocument_holds : Rows.FnExactSignDocumentSaid :=
  OpenClaim.holds_of_wide 14 Try.f14 rfl rfl rfl rfl rfl rfl rfl ⟨rfl, rfl, rfl, rfl, rfl⟩ rfl rfl rfl rfl rfl (by kernel_rfl) Try.func14 (by kernel_rfl)
    (of_decide_eq_true (by kernel_rfl)) (by unfold Func.isWrapper; first | (rw [if_pos (by decide +kernel)]; kernel_rfl) | (rw [if_neg (by decide +kernel)]; exact ⟨rfl, rfl⟩))
    (fun os started H enc _ => lawSignDocument_lifted os started H enc)
end Go.Proofs.Ytcfealjfanoegaa
