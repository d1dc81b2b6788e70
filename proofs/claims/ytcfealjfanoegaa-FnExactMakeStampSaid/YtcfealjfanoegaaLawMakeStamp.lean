/- The law FnExactMakeStamp is true of every input: the program's MakeStamp and the reference's return the same, and leave their arguments as they were. No condition. -/
import Derived.Test.YtcfealjfanoegaaRows
import Derived.Test.YtcfealjfanoegaaBase
import Derived.Test.YtcfealjfanoegaaOpen
import Derived.Test.YtcfealjfanoegaaPlain
import Derived.Test.YtcfealjfanoegaaHelpKey
import Derived.Test.YtcfealjfanoegaaHelpAuthority
import Derived.Test.YtcfealjfanoegaaHelpStamp
import Derived.Test.YtcfealjfanoegaaMakeStamp
import Derived.Deep.DeepCutAuto
import Derived.Test.YtcfealjfanoegaaBox
namespace Go.Proofs.Ytcfealjfanoegaa
open Go.ChangeShapes Go.WideShapes Go.ChangeAt Go.RowKit Go.Deep

set_option maxHeartbeats 4000000 in
theorem lawMakeStamp_any_no {ks : List (List Int)} {v0 : Value} {ls : List (List Int)} {v1 : Value} (a0 a1 a2 a3 a4 : Int) (w : World) (s0 : Sl w.heap.size w 5 v0 ks) (hs0 : ∀ r ∈ ks, r.length = 5) (s1 : Sl w.heap.size w 3 v1 ls) (hs1 : ∀ r ∈ ls, r.length = 3) (hno : Hid (findI 0 a0 ls = -1 ∨ a1 < 0 ∨ timeB a2 = false ∨ ∃ i : Nat, findI 0 a0 ls = (i : Int) ∧ findI 0 (fld ls i 1) ks = -1)) :
    Calls Try.prog 12 #[v0, v1, .agg #[iv a0, iv a1, iv a2, iv a3, iv a4]] w (Ret (.bool true) w) := by
  obtain ⟨A0, c0, rfl, hca0, hcb0, -⟩ := id s0
  obtain ⟨A1, c1, rfl, hca1, hcb1, -⟩ := id s1
  have H0 : Below w.heap.size w (w.alloc (.cells #[iv a0, iv a1, iv a2, iv a3, iv a4] 68)) := (below_alloc _ _)
  by_cases hl0 : ks.length ≤ 1048576
  rotate_left
  · have HH := hid H0
    clear H0
    go_enter Try.func12, Try.ntmps12
    go_wp2_with fail
    refine (szKeyS_no _ _ (by omega) (by omega) (by omega) (by omega)).mono ?_
    rintro e w' ⟨rfl, rfl⟩
    go_wp2
    go_ret
    exact ⟨rfl, HH.out⟩
  by_cases hl1 : ks.length + ls.length ≤ 1048576
  rotate_left
  · have HH := hid H0
    clear H0
    go_enter Try.func12, Try.ntmps12
    go_wp2_with fail
    refine (szKeyS_ok _ _ (by omega) (by omega) (by omega)).mono ?_
    rintro e w' ⟨rfl, rfl⟩
    go_wp2_with fail
    refine (szAuthorityS_no _ _ (by omega) (by omega) (by omega) (by omega)).mono ?_
    rintro e w' ⟨rfl, rfl⟩
    go_wp2
    go_ret
    exact ⟨rfl, HH.out⟩
  have HS : Hid (∀ w' : World, Below (w.alloc (.cells #[iv a0, iv a1, iv a2, iv a3, iv a4] 68)).heap.size (w.alloc (.cells #[iv a0, iv a1, iv a2, iv a3, iv a4] 68)) w' → (w'.cell? ⟨w.heap.size, 0, none⟩ = some (iv a0) ∧ w'.cell? ⟨w.heap.size, 1, none⟩ = some (iv a1) ∧ w'.cell? ⟨w.heap.size, 2, none⟩ = some (iv a2) ∧ w'.cell? ⟨w.heap.size, 3, none⟩ = some (iv a3) ∧ w'.cell? ⟨w.heap.size, 4, none⟩ = some (iv a4) ∧ Below (w.alloc (.cells #[iv a0, iv a1, iv a2, iv a3, iv a4] 68)).heap.size (w.alloc (.cells #[iv a0, iv a1, iv a2, iv a3, iv a4] 68)) w')) := hid fun w' hx => ⟨(hx.cell (p := ⟨w.heap.size, 0, none⟩) (by simp)).trans (by simp [go_sem]), (hx.cell (p := ⟨w.heap.size, 1, none⟩) (by simp)).trans (by simp [go_sem]), (hx.cell (p := ⟨w.heap.size, 2, none⟩) (by simp)).trans (by simp [go_sem]), (hx.cell (p := ⟨w.heap.size, 3, none⟩) (by simp)).trans (by simp [go_sem]), (hx.cell (p := ⟨w.heap.size, 4, none⟩) (by simp)).trans (by simp [go_sem]), hx⟩
  go_enter Try.func12, Try.ntmps12
  go_wp2_with fail
  refine (szKeyS_ok _ _ (by omega) (by omega) (by omega)).mono ?_
  rintro e w' ⟨rfl, rfl⟩
  go_wp2_with fail
  refine (szAuthorityS_ok _ _ (by omega) (by omega) (by omega)).mono ?_
  rintro e w' ⟨rfl, rfl⟩
  replace s0 := s0.step H0
  replace s1 := s1.step H0
  have HH := hid H0
  clear H0
  have HX : Below (w.alloc (.cells #[iv a0, iv a1, iv a2, iv a3, iv a4] 68)).heap.size (w.alloc (.cells #[iv a0, iv a1, iv a2, iv a3, iv a4] 68)) (w.alloc (.cells #[iv a0, iv a1, iv a2, iv a3, iv a4] 68)) := Below.refl _ _
  have heq0 : Hid ((w.alloc (.cells #[iv a0, iv a1, iv a2, iv a3, iv a4] 68)).heap.size = w.heap.size + 1) := hid (by simp)
  go_upto_region 8 with fail
  go_cut [8, 9] (fun s8 s9 wx => ∃ g : Nat, s8 = .pointer (some ⟨g, 0, none⟩) ∧ s9 = .bool false ∧ (wx.cell? ⟨g, 0, none⟩ = some (iv 0) ∧ wx.cell? ⟨g, 1, none⟩ = some (iv 0) ∧ wx.cell? ⟨g, 2, none⟩ = some (iv 0) ∧ wx.cell? ⟨g, 3, none⟩ = some (iv 0) ∧ wx.cell? ⟨g, 4, none⟩ = some (iv 0)) ∧ (w.alloc (.cells #[iv a0, iv a1, iv a2, iv a3, iv a4] 68)).heap.size ≤ g ∧ g < wx.heap.size ∧ Below (w.alloc (.cells #[iv a0, iv a1, iv a2, iv a3, iv a4] 68)).heap.size (w.alloc (.cells #[iv a0, iv a1, iv a2, iv a3, iv a4] 68)) wx)
  case first =>
    go_region_held3 (fun w' => w'.cell? ⟨w.heap.size, 0, none⟩ = some (iv a0) ∧ w'.cell? ⟨w.heap.size, 1, none⟩ = some (iv a1) ∧ w'.cell? ⟨w.heap.size, 2, none⟩ = some (iv a2) ∧ w'.cell? ⟨w.heap.size, 3, none⟩ = some (iv a3) ∧ w'.cell? ⟨w.heap.size, 4, none⟩ = some (iv a4) ∧ Below (w.alloc (.cells #[iv a0, iv a1, iv a2, iv a3, iv a4] 68)).heap.size (w.alloc (.cells #[iv a0, iv a1, iv a2, iv a3, iv a4] 68)) w') (first | with_reducible exact HS.out _ HX.drew | with_reducible exact HS.out _ HZ1.out | with_reducible exact HS.out _ HZ2.out | with_reducible exact HS.out _ HZ3.out | with_reducible exact HS.out _ HZ4.out | with_reducible exact HS.out _ (HX.alloc HX.size _).drew | with_reducible exact HS.out _ (HZ1.out.alloc HZ1.out.size _) | with_reducible exact HS.out _ (HZ2.out.alloc HZ2.out.size _) | with_reducible exact HS.out _ (HZ3.out.alloc HZ3.out.size _) | with_reducible exact HS.out _ (HZ4.out.alloc HZ4.out.size _) | (refine HS.out _ ?_; (repeat (first | refine Below.setCell ?_ (Nat.le_of_eq heq0.out) _ | refine Below.setCell ?_ HZ4.out.size _ | refine Below.setCell ?_ HZ3.out.size _ | refine Below.setCell ?_ HZ2.out.size _ | refine Below.setCell ?_ HZ1.out.size _ | refine Below.setCell ?_ HX.drew.size _)); exact HZ4.out) | go_keep)
      (first | (go_at_call 21; (first | refine (toKeyS_any _ (s0.below HX.drew (Nat.le_refl _)) hs0 HX.drew.size (by omega)).mono ?_ | refine (toKeyS_any _ (s0.below (HX.alloc HX.size _).drew (Nat.le_refl _)) hs0 (HX.alloc HX.size _).drew.size (by omega)).mono ?_); rintro e w1 ⟨o1, rfl, ho1, hb1⟩; (first | have HZ1 := hid (below_step HX.drew hb1) | have HZ1 := hid (below_step (HX.alloc HX.size _).drew hb1)); have t1 := (Own.sl ho1 hs0); (first | have Q1 := hid (box_step_drew heq0.out hb1) | skip)) | (go_at_call 48; (first | refine (toAuthorityS_any _ (s1.below HZ1.out (Nat.le_refl _)) hs1 HZ1.out.size (by omega)).mono ?_ | refine (toAuthorityS_any _ (s1.below (HZ1.out.alloc HZ1.out.size _) (Nat.le_refl _)) hs1 (HZ1.out.alloc HZ1.out.size _).size (by omega)).mono ?_); rintro e w2 ⟨o2, rfl, ho2, hb2⟩; (first | have HZ2 := hid (below_step HZ1.out hb2) | have HZ2 := hid (below_step (HZ1.out.alloc HZ1.out.size _) hb2)); (first | have t1x2 := t1.step hb2 | have t1x2 := (t1.step (below_alloc _ _)).step hb2); have t2 := (Own.sl ho2 hs1); (first | have Q2 := hid (box_next Q1.out hb2) | have Q2 := hid (box_step hb2) | skip)) | (go_at_call 49; refine (toStamp_any _ _ _ _ _ _).mono ?_; rintro e w3 ⟨rfl, hb3⟩; (first | have HZ3 := hid (below_step HZ2.out hb3) | have HZ3 := hid (below_step (HZ2.out.alloc HZ2.out.size _) hb3)); (first | have t1x3 := t1x2.step hb3 | have t1x3 := (t1x2.step (below_alloc _ _)).step hb3); (first | have t2x3 := t2.step hb3 | have t2x3 := (t2.step (below_alloc _ _)).step hb3); (first | have Q3 := hid (box_next Q2.out hb3) | have Q3 := hid (box_step hb3) | skip)) | (go_at_call 62; (first | refine (specMakeStamp_any_no _ _ _ _ _ _ t1x3 t2x3 (Nat.le_refl _) hno.out).mono ?_ | refine (specMakeStamp_any_no _ _ _ _ _ _ (t1x3.step (below_alloc _ _)) (t2x3.step (below_alloc _ _)) (Nat.le_refl _) hno.out).mono ?_); rintro e w4 ⟨rfl, hb4⟩; (first | have HZ4 := hid (below_step HZ3.out hb4) | have HZ4 := hid (below_step (HZ3.out.alloc HZ3.out.size _) hb4)); (first | have Q4 := box_next Q3.out hb4 | have Q4 := box_step hb4 | skip); (try obtain ⟨hzA, hcA, hfA⟩ := Q4)))
    all_goals (go_wp2_with fail; go_meet; go_split_ands; refine ⟨_, rfl, rfl, ⟨?_, ?_, ?_, ?_, ?_⟩, ?_, ?_, ?_⟩)
    all_goals first | (with_reducible assumption; done) | with_reducible exact HZ4.out.size | with_reducible exact HZ3.out.size | with_reducible exact HZ2.out.size | with_reducible exact HZ1.out.size | with_reducible exact Nat.le_of_eq heq0.out | (simp [go_sem]; done) | (simp [go_sem, hcA]; done) | (simp [go_sem]; omega)
  case rest =>
    obtain ⟨gA, rfl, rfl, hA, hgA, hgB, HX2⟩ := hcut
    replace hA := hid hA
    replace hgA := hid hgA
    replace hgB := hid hgB
    replace HX := HX2
    clear HX2
    have HXA : Below wc.heap.size wc wc := Below.refl _ _
    obtain ⟨hcX, -⟩ := bcell HX
    obtain ⟨hcA, -⟩ := bcell HXA
    have hzA := hgB.out
    go_wp2_with fail
    clear hcX hcA hzA
    refine (toKeyS_any _ (s0.below HX (Nat.le_refl _)) hs0 HX.size (by omega)).mono ?_
    rintro e w5 ⟨o5, rfl, ho5, hb5⟩
    replace HX := below_step HX hb5
    replace HXA := below_step HXA hb5
    have t5 := (Own.sl ho5 hs0)
    obtain ⟨hcX, -⟩ := bcell HX
    obtain ⟨hcA, -⟩ := bcell HXA
    have hzA := hgB.out
    go_wp2_with fail
    clear hcX hcA hzA
    refine (toAuthorityS_any _ (s1.below HX (Nat.le_refl _)) hs1 HX.size (by omega)).mono ?_
    rintro e w6 ⟨o6, rfl, ho6, hb6⟩
    replace HX := below_step HX hb6
    replace t5 := t5.step hb6
    replace HXA := below_step HXA hb6
    have t6 := (Own.sl ho6 hs1)
    obtain ⟨hcX, -⟩ := bcell HX
    obtain ⟨hcA, -⟩ := bcell HXA
    have hzA := hgB.out
    go_wp2_with fail
    clear hcX hcA hzA
    refine (toStamp_any _ _ _ _ _ _).mono ?_
    rintro e w7 ⟨rfl, hb7⟩
    replace HX := below_step HX hb7
    replace t5 := t5.step hb7
    replace t6 := t6.step hb7
    replace HXA := below_step HXA hb7
    go_wp2_with fail
    refine (implMakeStamp_any_no _ _ _ _ _ _ t5 t6 (Nat.le_refl _) hno.out).mono ?_
    rintro e w8 ⟨rfl, hb8⟩
    replace HX := below_step HX hb8
    replace t5 := t5.step hb8
    replace t6 := t6.step hb8
    replace HXA := below_step HXA hb8
    replace t5 := t5.step (below_alloc w8 (.cells #[iv 0, iv 0, iv 0, iv 0, iv 0] 73))
    replace t6 := t6.step (below_alloc w8 (.cells #[iv 0, iv 0, iv 0, iv 0, iv 0] 73))
    replace HX : Below (w.alloc (.cells #[iv a0, iv a1, iv a2, iv a3, iv a4] 68)).heap.size (w.alloc (.cells #[iv a0, iv a1, iv a2, iv a3, iv a4] 68)) (w8.alloc (.cells #[iv 0, iv 0, iv 0, iv 0, iv 0] 73)) := HX.alloc HX.size _
    replace HXA := below_step HXA (below_alloc w8 (.cells #[iv 0, iv 0, iv 0, iv 0, iv 0] 73))
    have HXB : Below (w8.alloc (.cells #[iv 0, iv 0, iv 0, iv 0, iv 0] 73)).heap.size (w8.alloc (.cells #[iv 0, iv 0, iv 0, iv 0, iv 0] 73)) (w8.alloc (.cells #[iv 0, iv 0, iv 0, iv 0, iv 0] 73)) := Below.refl _ _
    obtain ⟨hcX, -⟩ := bcell HX
    obtain ⟨hcA, -⟩ := bcell HXA
    have hzA := hgB.out
    obtain ⟨hcB, -⟩ := bcell HXB
    have hzB := below_size HXB
    obtain ⟨hA0, hA1, hA2, hA3, hA4⟩ := hA.out
    go_wp2_with fail
    clear hcX hcA hzA hcB hzB hA0 hA1 hA2 hA3 hA4
    refine (eqStamp_any _ _ _ _ _ _).mono ?_
    rintro e w9 ⟨rfl, hb9⟩
    replace HX := below_step HX hb9
    replace t5 := t5.step hb9
    replace t6 := t6.step hb9
    replace HXA := below_step HXA hb9
    replace HXB := below_step HXB hb9
    clear HXA
    clear HXB
    go_wp2_with fail
    refine (toKeyS_any _ (s0.below HX (Nat.le_refl _)) hs0 HX.size (by omega)).mono ?_
    rintro e w10 ⟨o10, rfl, ho10, hb10⟩
    replace HX := below_step HX hb10
    replace t5 := t5.step hb10
    replace t6 := t6.step hb10
    have t10 := (Own.sl ho10 hs0)
    go_wp2_with fail
    refine (eqKeyS_any _ t5 t10 (Nat.le_refl _)).mono ?_
    rintro e w11 ⟨rfl, hb11⟩
    replace HX := below_step HX hb11
    replace t5 := t5.step hb11
    replace t6 := t6.step hb11
    replace t10 := t10.step hb11
    clear t10
    go_wp2_with fail
    refine (toAuthorityS_any _ (s1.below HX (Nat.le_refl _)) hs1 HX.size (by omega)).mono ?_
    rintro e w12 ⟨o12, rfl, ho12, hb12⟩
    replace HX := below_step HX hb12
    replace t5 := t5.step hb12
    replace t6 := t6.step hb12
    have t12 := (Own.sl ho12 hs1)
    go_wp2_with fail
    refine (eqAuthorityS_any _ t6 t12 (Nat.le_refl _)).mono ?_
    rintro e w13 ⟨rfl, hb13⟩
    replace HX := below_step HX hb13
    replace t5 := t5.step hb13
    replace t6 := t6.step hb13
    replace t12 := t12.step hb13
    clear t12
    go_wp2
    go_ret
    exact ⟨rfl, below_step HH.out HX⟩

set_option maxHeartbeats 4000000 in
theorem lawMakeStamp_any_yes {ks : List (List Int)} {v0 : Value} {ls : List (List Int)} {v1 : Value} (a0 a1 a2 a3 a4 : Int) (w : World) (s0 : Sl w.heap.size w 5 v0 ks) (hs0 : ∀ r ∈ ks, r.length = 5) (s1 : Sl w.heap.size w 3 v1 ls) (hs1 : ∀ r ∈ ls, r.length = 3) (i k : Nat) (hyes : Hid (i < ls.length ∧ findI 0 a0 ls = (i : Int) ∧ 0 ≤ a1 ∧ timeB a2 = true ∧ k < ks.length ∧ findI 0 (fld ls i 1) ks = (k : Int))) :
    Calls Try.prog 12 #[v0, v1, .agg #[iv a0, iv a1, iv a2, iv a3, iv a4]] w (Ret (.bool true) w) := by
  obtain ⟨A0, c0, rfl, hca0, hcb0, -⟩ := id s0
  obtain ⟨A1, c1, rfl, hca1, hcb1, -⟩ := id s1
  have H0 : Below w.heap.size w (w.alloc (.cells #[iv a0, iv a1, iv a2, iv a3, iv a4] 68)) := (below_alloc _ _)
  by_cases hl0 : ks.length ≤ 1048576
  rotate_left
  · have HH := hid H0
    clear H0
    go_enter Try.func12, Try.ntmps12
    go_wp2_with fail
    refine (szKeyS_no _ _ (by omega) (by omega) (by omega) (by omega)).mono ?_
    rintro e w' ⟨rfl, rfl⟩
    go_wp2
    go_ret
    exact ⟨rfl, HH.out⟩
  by_cases hl1 : ks.length + ls.length ≤ 1048576
  rotate_left
  · have HH := hid H0
    clear H0
    go_enter Try.func12, Try.ntmps12
    go_wp2_with fail
    refine (szKeyS_ok _ _ (by omega) (by omega) (by omega)).mono ?_
    rintro e w' ⟨rfl, rfl⟩
    go_wp2_with fail
    refine (szAuthorityS_no _ _ (by omega) (by omega) (by omega) (by omega)).mono ?_
    rintro e w' ⟨rfl, rfl⟩
    go_wp2
    go_ret
    exact ⟨rfl, HH.out⟩
  have HS : Hid (∀ w' : World, Below (w.alloc (.cells #[iv a0, iv a1, iv a2, iv a3, iv a4] 68)).heap.size (w.alloc (.cells #[iv a0, iv a1, iv a2, iv a3, iv a4] 68)) w' → (w'.cell? ⟨w.heap.size, 0, none⟩ = some (iv a0) ∧ w'.cell? ⟨w.heap.size, 1, none⟩ = some (iv a1) ∧ w'.cell? ⟨w.heap.size, 2, none⟩ = some (iv a2) ∧ w'.cell? ⟨w.heap.size, 3, none⟩ = some (iv a3) ∧ w'.cell? ⟨w.heap.size, 4, none⟩ = some (iv a4) ∧ Below (w.alloc (.cells #[iv a0, iv a1, iv a2, iv a3, iv a4] 68)).heap.size (w.alloc (.cells #[iv a0, iv a1, iv a2, iv a3, iv a4] 68)) w')) := hid fun w' hx => ⟨(hx.cell (p := ⟨w.heap.size, 0, none⟩) (by simp)).trans (by simp [go_sem]), (hx.cell (p := ⟨w.heap.size, 1, none⟩) (by simp)).trans (by simp [go_sem]), (hx.cell (p := ⟨w.heap.size, 2, none⟩) (by simp)).trans (by simp [go_sem]), (hx.cell (p := ⟨w.heap.size, 3, none⟩) (by simp)).trans (by simp [go_sem]), (hx.cell (p := ⟨w.heap.size, 4, none⟩) (by simp)).trans (by simp [go_sem]), hx⟩
  go_enter Try.func12, Try.ntmps12
  go_wp2_with fail
  refine (szKeyS_ok _ _ (by omega) (by omega) (by omega)).mono ?_
  rintro e w' ⟨rfl, rfl⟩
  go_wp2_with fail
  refine (szAuthorityS_ok _ _ (by omega) (by omega) (by omega)).mono ?_
  rintro e w' ⟨rfl, rfl⟩
  replace s0 := s0.step H0
  replace s1 := s1.step H0
  have HH := hid H0
  clear H0
  have HX : Below (w.alloc (.cells #[iv a0, iv a1, iv a2, iv a3, iv a4] 68)).heap.size (w.alloc (.cells #[iv a0, iv a1, iv a2, iv a3, iv a4] 68)) (w.alloc (.cells #[iv a0, iv a1, iv a2, iv a3, iv a4] 68)) := Below.refl _ _
  have heq0 : Hid ((w.alloc (.cells #[iv a0, iv a1, iv a2, iv a3, iv a4] 68)).heap.size = w.heap.size + 1) := hid (by simp)
  go_upto_region 8 with fail
  go_cut [8, 9] (fun s8 s9 wx => ∃ g : Nat, s8 = .pointer (some ⟨g, 0, none⟩) ∧ s9 = .bool true ∧ (wx.cell? ⟨g, 0, none⟩ = some (iv a0) ∧ wx.cell? ⟨g, 1, none⟩ = some (iv a1) ∧ wx.cell? ⟨g, 2, none⟩ = some (iv a2) ∧ wx.cell? ⟨g, 3, none⟩ = some (iv a3) ∧ wx.cell? ⟨g, 4, none⟩ = some (iv (markW (fld ks k 2) (fld ks k 4) [103, a0, a1, a2, a3]))) ∧ (w.alloc (.cells #[iv a0, iv a1, iv a2, iv a3, iv a4] 68)).heap.size ≤ g ∧ g < wx.heap.size ∧ Below (w.alloc (.cells #[iv a0, iv a1, iv a2, iv a3, iv a4] 68)).heap.size (w.alloc (.cells #[iv a0, iv a1, iv a2, iv a3, iv a4] 68)) wx)
  case first =>
    go_region_held3 (fun w' => w'.cell? ⟨w.heap.size, 0, none⟩ = some (iv a0) ∧ w'.cell? ⟨w.heap.size, 1, none⟩ = some (iv a1) ∧ w'.cell? ⟨w.heap.size, 2, none⟩ = some (iv a2) ∧ w'.cell? ⟨w.heap.size, 3, none⟩ = some (iv a3) ∧ w'.cell? ⟨w.heap.size, 4, none⟩ = some (iv a4) ∧ Below (w.alloc (.cells #[iv a0, iv a1, iv a2, iv a3, iv a4] 68)).heap.size (w.alloc (.cells #[iv a0, iv a1, iv a2, iv a3, iv a4] 68)) w') (first | with_reducible exact HS.out _ HX.drew | with_reducible exact HS.out _ HZ1.out | with_reducible exact HS.out _ HZ2.out | with_reducible exact HS.out _ HZ3.out | with_reducible exact HS.out _ HZ4.out | with_reducible exact HS.out _ (HX.alloc HX.size _).drew | with_reducible exact HS.out _ (HZ1.out.alloc HZ1.out.size _) | with_reducible exact HS.out _ (HZ2.out.alloc HZ2.out.size _) | with_reducible exact HS.out _ (HZ3.out.alloc HZ3.out.size _) | with_reducible exact HS.out _ (HZ4.out.alloc HZ4.out.size _) | (refine HS.out _ ?_; (repeat (first | refine Below.setCell ?_ (Nat.le_of_eq heq0.out) _ | refine Below.setCell ?_ HZ4.out.size _ | refine Below.setCell ?_ HZ3.out.size _ | refine Below.setCell ?_ HZ2.out.size _ | refine Below.setCell ?_ HZ1.out.size _ | refine Below.setCell ?_ HX.drew.size _)); exact HZ4.out) | go_keep)
      (first | (go_at_call 21; (first | refine (toKeyS_any _ (s0.below HX.drew (Nat.le_refl _)) hs0 HX.drew.size (by omega)).mono ?_ | refine (toKeyS_any _ (s0.below (HX.alloc HX.size _).drew (Nat.le_refl _)) hs0 (HX.alloc HX.size _).drew.size (by omega)).mono ?_); rintro e w1 ⟨o1, rfl, ho1, hb1⟩; (first | have HZ1 := hid (below_step HX.drew hb1) | have HZ1 := hid (below_step (HX.alloc HX.size _).drew hb1)); have t1 := (Own.sl ho1 hs0); (first | have Q1 := hid (box_step_drew heq0.out hb1) | skip)) | (go_at_call 48; (first | refine (toAuthorityS_any _ (s1.below HZ1.out (Nat.le_refl _)) hs1 HZ1.out.size (by omega)).mono ?_ | refine (toAuthorityS_any _ (s1.below (HZ1.out.alloc HZ1.out.size _) (Nat.le_refl _)) hs1 (HZ1.out.alloc HZ1.out.size _).size (by omega)).mono ?_); rintro e w2 ⟨o2, rfl, ho2, hb2⟩; (first | have HZ2 := hid (below_step HZ1.out hb2) | have HZ2 := hid (below_step (HZ1.out.alloc HZ1.out.size _) hb2)); (first | have t1x2 := t1.step hb2 | have t1x2 := (t1.step (below_alloc _ _)).step hb2); have t2 := (Own.sl ho2 hs1); (first | have Q2 := hid (box_next Q1.out hb2) | have Q2 := hid (box_step hb2) | skip)) | (go_at_call 49; refine (toStamp_any _ _ _ _ _ _).mono ?_; rintro e w3 ⟨rfl, hb3⟩; (first | have HZ3 := hid (below_step HZ2.out hb3) | have HZ3 := hid (below_step (HZ2.out.alloc HZ2.out.size _) hb3)); (first | have t1x3 := t1x2.step hb3 | have t1x3 := (t1x2.step (below_alloc _ _)).step hb3); (first | have t2x3 := t2.step hb3 | have t2x3 := (t2.step (below_alloc _ _)).step hb3); (first | have Q3 := hid (box_next Q2.out hb3) | have Q3 := hid (box_step hb3) | skip)) | (go_at_call 62; (first | refine (specMakeStamp_any_yes _ _ _ _ _ _ t1x3 t2x3 (Nat.le_refl _) i hyes.out.1 hyes.out.2.1 hyes.out.2.2.1 hyes.out.2.2.2.1 k hyes.out.2.2.2.2.1 hyes.out.2.2.2.2.2).mono ?_ | refine (specMakeStamp_any_yes _ _ _ _ _ _ (t1x3.step (below_alloc _ _)) (t2x3.step (below_alloc _ _)) (Nat.le_refl _) i hyes.out.1 hyes.out.2.1 hyes.out.2.2.1 hyes.out.2.2.2.1 k hyes.out.2.2.2.2.1 hyes.out.2.2.2.2.2).mono ?_); rintro e w4 ⟨rfl, hb4⟩; (first | have HZ4 := hid (below_step HZ3.out hb4) | have HZ4 := hid (below_step (HZ3.out.alloc HZ3.out.size _) hb4)); (first | have Q4 := box_next Q3.out hb4 | have Q4 := box_step hb4 | skip); (try obtain ⟨hzA, hcA, hfA⟩ := Q4)))
    all_goals (go_wp2_with fail; go_meet; go_split_ands; refine ⟨_, rfl, rfl, ⟨?_, ?_, ?_, ?_, ?_⟩, ?_, ?_, ?_⟩)
    all_goals first | (with_reducible assumption; done) | with_reducible exact HZ4.out.size | with_reducible exact HZ3.out.size | with_reducible exact HZ2.out.size | with_reducible exact HZ1.out.size | with_reducible exact Nat.le_of_eq heq0.out | (simp [go_sem]; done) | (simp [go_sem, hcA]; done) | (simp [go_sem]; omega)
  case rest =>
    obtain ⟨gA, rfl, rfl, hA, hgA, hgB, HX2⟩ := hcut
    replace hA := hid hA
    replace hgA := hid hgA
    replace hgB := hid hgB
    replace HX := HX2
    clear HX2
    have HXA : Below wc.heap.size wc wc := Below.refl _ _
    obtain ⟨hcX, -⟩ := bcell HX
    obtain ⟨hcA, -⟩ := bcell HXA
    have hzA := hgB.out
    go_wp2_with fail
    clear hcX hcA hzA
    refine (toKeyS_any _ (s0.below HX (Nat.le_refl _)) hs0 HX.size (by omega)).mono ?_
    rintro e w5 ⟨o5, rfl, ho5, hb5⟩
    replace HX := below_step HX hb5
    replace HXA := below_step HXA hb5
    have t5 := (Own.sl ho5 hs0)
    obtain ⟨hcX, -⟩ := bcell HX
    obtain ⟨hcA, -⟩ := bcell HXA
    have hzA := hgB.out
    go_wp2_with fail
    clear hcX hcA hzA
    refine (toAuthorityS_any _ (s1.below HX (Nat.le_refl _)) hs1 HX.size (by omega)).mono ?_
    rintro e w6 ⟨o6, rfl, ho6, hb6⟩
    replace HX := below_step HX hb6
    replace t5 := t5.step hb6
    replace HXA := below_step HXA hb6
    have t6 := (Own.sl ho6 hs1)
    obtain ⟨hcX, -⟩ := bcell HX
    obtain ⟨hcA, -⟩ := bcell HXA
    have hzA := hgB.out
    go_wp2_with fail
    clear hcX hcA hzA
    refine (toStamp_any _ _ _ _ _ _).mono ?_
    rintro e w7 ⟨rfl, hb7⟩
    replace HX := below_step HX hb7
    replace t5 := t5.step hb7
    replace t6 := t6.step hb7
    replace HXA := below_step HXA hb7
    go_wp2_with fail
    refine (implMakeStamp_any_yes _ _ _ _ _ _ t5 t6 (Nat.le_refl _) i hyes.out.1 hyes.out.2.1 hyes.out.2.2.1 hyes.out.2.2.2.1 k hyes.out.2.2.2.2.1 hyes.out.2.2.2.2.2).mono ?_
    rintro e w8 ⟨rfl, hb8⟩
    replace HX := below_step HX hb8
    replace t5 := t5.step hb8
    replace t6 := t6.step hb8
    replace HXA := below_step HXA hb8
    replace t5 := t5.step (below_alloc w8 (.cells #[iv a0, iv a1, iv a2, iv a3, iv (markW (fld ks k 2) (fld ks k 4) [103, a0, a1, a2, a3])] 73))
    replace t6 := t6.step (below_alloc w8 (.cells #[iv a0, iv a1, iv a2, iv a3, iv (markW (fld ks k 2) (fld ks k 4) [103, a0, a1, a2, a3])] 73))
    replace HX : Below (w.alloc (.cells #[iv a0, iv a1, iv a2, iv a3, iv a4] 68)).heap.size (w.alloc (.cells #[iv a0, iv a1, iv a2, iv a3, iv a4] 68)) (w8.alloc (.cells #[iv a0, iv a1, iv a2, iv a3, iv (markW (fld ks k 2) (fld ks k 4) [103, a0, a1, a2, a3])] 73)) := HX.alloc HX.size _
    replace HXA := below_step HXA (below_alloc w8 (.cells #[iv a0, iv a1, iv a2, iv a3, iv (markW (fld ks k 2) (fld ks k 4) [103, a0, a1, a2, a3])] 73))
    have HXB : Below (w8.alloc (.cells #[iv a0, iv a1, iv a2, iv a3, iv (markW (fld ks k 2) (fld ks k 4) [103, a0, a1, a2, a3])] 73)).heap.size (w8.alloc (.cells #[iv a0, iv a1, iv a2, iv a3, iv (markW (fld ks k 2) (fld ks k 4) [103, a0, a1, a2, a3])] 73)) (w8.alloc (.cells #[iv a0, iv a1, iv a2, iv a3, iv (markW (fld ks k 2) (fld ks k 4) [103, a0, a1, a2, a3])] 73)) := Below.refl _ _
    obtain ⟨hcX, -⟩ := bcell HX
    obtain ⟨hcA, -⟩ := bcell HXA
    have hzA := hgB.out
    obtain ⟨hcB, -⟩ := bcell HXB
    have hzB := below_size HXB
    obtain ⟨hA0, hA1, hA2, hA3, hA4⟩ := hA.out
    go_wp2_with fail
    clear hcX hcA hzA hcB hzB hA0 hA1 hA2 hA3 hA4
    refine (eqStamp_any _ _ _ _ _ _).mono ?_
    rintro e w9 ⟨rfl, hb9⟩
    replace HX := below_step HX hb9
    replace t5 := t5.step hb9
    replace t6 := t6.step hb9
    replace HXA := below_step HXA hb9
    replace HXB := below_step HXB hb9
    clear HXA
    clear HXB
    go_wp2_with fail
    refine (toKeyS_any _ (s0.below HX (Nat.le_refl _)) hs0 HX.size (by omega)).mono ?_
    rintro e w10 ⟨o10, rfl, ho10, hb10⟩
    replace HX := below_step HX hb10
    replace t5 := t5.step hb10
    replace t6 := t6.step hb10
    have t10 := (Own.sl ho10 hs0)
    go_wp2_with fail
    refine (eqKeyS_any _ t5 t10 (Nat.le_refl _)).mono ?_
    rintro e w11 ⟨rfl, hb11⟩
    replace HX := below_step HX hb11
    replace t5 := t5.step hb11
    replace t6 := t6.step hb11
    replace t10 := t10.step hb11
    clear t10
    go_wp2_with fail
    refine (toAuthorityS_any _ (s1.below HX (Nat.le_refl _)) hs1 HX.size (by omega)).mono ?_
    rintro e w12 ⟨o12, rfl, ho12, hb12⟩
    replace HX := below_step HX hb12
    replace t5 := t5.step hb12
    replace t6 := t6.step hb12
    have t12 := (Own.sl ho12 hs1)
    go_wp2_with fail
    refine (eqAuthorityS_any _ t6 t12 (Nat.le_refl _)).mono ?_
    rintro e w13 ⟨rfl, hb13⟩
    replace HX := below_step HX hb13
    replace t5 := t5.step hb13
    replace t6 := t6.step hb13
    replace t12 := t12.step hb13
    clear t12
    go_wp2
    go_ret
    exact ⟨rfl, below_step HH.out HX⟩

theorem lawMakeStamp_any {ks : List (List Int)} {v0 : Value} {ls : List (List Int)} {v1 : Value} (a0 a1 a2 a3 a4 : Int) (w : World) (s0 : Sl w.heap.size w 5 v0 ks) (hs0 : ∀ r ∈ ks, r.length = 5) (s1 : Sl w.heap.size w 3 v1 ls) (hs1 : ∀ r ∈ ls, r.length = 3) :
    Calls Try.prog 12 #[v0, v1, .agg #[iv a0, iv a1, iv a2, iv a3, iv a4]] w (Ret (.bool true) w) := by
  rcases findI_range 0 a0 ls with hf | ⟨i, hi, hf, -⟩
  · exact lawMakeStamp_any_no a0 a1 a2 a3 a4 w s0 hs0 s1 hs1 (.inl hf)
  · by_cases h1 : a1 < 0
    · exact lawMakeStamp_any_no a0 a1 a2 a3 a4 w s0 hs0 s1 hs1 (.inr (.inl h1))
    · cases h2 : timeB a2
      · exact lawMakeStamp_any_no a0 a1 a2 a3 a4 w s0 hs0 s1 hs1 (.inr (.inr (.inl h2)))
      · rcases findI_range 0 (fld ls i 1) ks with hg | ⟨k, hk, hg, -⟩
        · exact lawMakeStamp_any_no a0 a1 a2 a3 a4 w s0 hs0 s1 hs1 (.inr (.inr (.inr ⟨i, hf, hg⟩)))
        · exact lawMakeStamp_any_yes a0 a1 a2 a3 a4 w s0 hs0 s1 hs1 i k ⟨hi, hf, by omega, h2, hk, hg⟩


set_option maxRecDepth 100000 in
theorem lawMakeStamp_lifted (os : Os) (started : os.Started) (H : Type) (enc : TypeId × Value → H) :
    ReturnsInHanded {} Try.checked os 12 .any (Rows.fnExactMakeStampSpec.pre6 enc Try.prog Try.f12 Rows.fnExactMakeStampRow.domain false) (Rows.fnExactMakeStampSpec.post enc Try.prog Try.f12 false true false false) := by
  refine returnsInHanded_of_change (C := Try.checked) Try.own started (by kernel_rfl) Try.func12
    (ChangeSpec.witness6 (enc := enc) (C := Try.checked) false ⟨#[], #[.slice none 0 0, .slice none 0 0, .agg #[.int .i64 0, .int .i64 0, .int .i64 0, .int .i64 0, .int .i64 0]], []⟩ 8 (by kernel_rfl) (by kernel_rfl) (by kernel_rfl) (by kernel_rfl)) ?_
  intro W base args ds gs before hval0 hW hcnd _
  have hval : ∀ (j : Nat) t v, Try.f12.params[j]? = some t → args[j]? = some v → Value.okWide Try.prog W .any base t v := hval0
  have hW' := hW
  obtain ⟨p, q, hA0, hV, rfl, hfz, hnd⟩ := hW
  have hA : DataW.TrodAll enc Try.prog W 0 (fun _ => true) true Try.f12.params.toList args.toList ds p := hA0
  rw [Try.params12] at hA hval
  obtain ⟨v0, v1, v2, d0, d1, d2, p0, p1, p2, rfl, rfl, rfl, h0, h1, h2⟩ := trodAll_three hA
  obtain ⟨rfl, rfl⟩ := trodVars_none hV
  obtain ⟨ks, s0, hs0, -⟩ := open_rows Try.underlying28 Try.underlying115 (by kernel_rfl) (N := 5) (by kernel_rfl) (by kernel_rfl) (by decide) Try.underlying3 (by kernel_rfl) (hval 0 28 v0 rfl rfl) h0
  obtain ⟨ls, s1, hs1, -⟩ := open_rows Try.underlying66 Try.underlying130 (by kernel_rfl) (N := 3) (by kernel_rfl) (by kernel_rfl) (by decide) Try.underlying3 (by kernel_rfl) (hval 1 66 v1 rfl rfl) h1
  obtain ⟨zs2, hlen2, rfl, -⟩ := open_ints_agg Try.underlying68 (by kernel_rfl) (N := 5) (by kernel_rfl) (by kernel_rfl) Try.underlying3 (by kernel_rfl) (hval 2 68 v2 rfl rfl) h2
  obtain ⟨a0, a1, a2, a3, a4, rfl⟩ := list5 hlen2
  refine (lawMakeStamp_any a0 a1 a2 a3 a4 W s0 hs0 s1 hs1).mono fun e W' ⟨he, hb⟩ => ?_
  subst he
  exact ⟨_, rfl, post_true hW' rfl Try.laidOut (by kernel_rfl) rfl Try.underlying4 rfl hb⟩

theorem lawMakeStamp_holds : Rows.FnExactMakeStampSaid :=
  OpenClaim.holds_of_wide 12 Try.f12 rfl rfl rfl rfl rfl rfl rfl ⟨rfl, rfl, rfl, rfl, rfl⟩ rfl rfl rfl rfl rfl (by kernel_rfl) Try.func12 (by kernel_rfl)
    (of_decide_eq_true (by kernel_rfl)) (by unfold Func.isWrapper; first | (rw [if_pos (by decide +kernel)]; kernel_rfl) | (rw [if_neg (by decide +kernel)]; exact ⟨rfl, rfl⟩))
    (fun os started H enc _ => lawMakeStamp_lifted os started H enc)
end Go.Proofs.Ytcfealjfanoegaa
