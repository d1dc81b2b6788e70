/- The law FnExactMakeSuccession is true of every input: the program's MakeSuccession and the reference's return the same, and leave their arguments as they were. No condition. -/
import Derived.Test.YtjacbpmkdlngaaaRows
import Derived.Test.YtjacbpmkdlngaaaBase
import Derived.Test.YtjacbpmkdlngaaaOpen
import Derived.Test.YtjacbpmkdlngaaaPlain
import Derived.Test.YtjacbpmkdlngaaaHelpKey
import Derived.Test.YtjacbpmkdlngaaaHelpSuccession
import Derived.Test.YtjacbpmkdlngaaaMakeSuccession
import Derived.Deep.DeepCutAuto
import Derived.Test.YtjacbpmkdlngaaaBox
namespace Go.Proofs.Ytjacbpmkdlngaaa
open Go.ChangeShapes Go.WideShapes Go.ChangeAt Go.RowKit Go.Deep

set_option maxHeartbeats 4000000 in
theorem lawMakeSuccession_any_no {ks : List (List Int)} {v0 : Value} (a0 a1 a2 a3 : Int) (w : World) (s0 : Sl w.heap.size w 5 v0 ks) (hs0 : ∀ r ∈ ks, r.length = 5) (hno : Hid (findI 0 a0 ks = -1 ∨ findI 0 a1 ks = -1 ∨ (a0 == a1) = true ∨ (∃ i k : Nat, findI 0 a0 ks = (i : Int) ∧ findI 0 a1 ks = (k : Int) ∧ (fld ks i 1 == fld ks k 1) = false) ∨ timeB a2 = false)) :
    Calls Try.prog 8 #[v0, .agg #[iv a0, iv a1, iv a2, iv a3]] w (Ret (.bool true) w) := by
  obtain ⟨A0, c0, rfl, hca0, hcb0, -⟩ := id s0
  have H0 : Below w.heap.size w (w.alloc (.cells #[iv a0, iv a1, iv a2, iv a3] 45)) := (below_alloc _ _)
  by_cases hl0 : ks.length ≤ 1048576
  rotate_left
  · have HH := hid H0
    clear H0
    go_enter Try.func8, Try.ntmps8
    go_wp2_with fail
    refine (szKeyS_no _ _ (by omega) (by omega) (by omega) (by omega)).mono ?_
    rintro e w' ⟨rfl, rfl⟩
    go_wp2
    go_ret
    exact ⟨rfl, HH.out⟩
  have HS : Hid (∀ w' : World, Below (w.alloc (.cells #[iv a0, iv a1, iv a2, iv a3] 45)).heap.size (w.alloc (.cells #[iv a0, iv a1, iv a2, iv a3] 45)) w' → (w'.cell? ⟨w.heap.size, 0, none⟩ = some (iv a0) ∧ w'.cell? ⟨w.heap.size, 1, none⟩ = some (iv a1) ∧ w'.cell? ⟨w.heap.size, 2, none⟩ = some (iv a2) ∧ w'.cell? ⟨w.heap.size, 3, none⟩ = some (iv a3) ∧ Below (w.alloc (.cells #[iv a0, iv a1, iv a2, iv a3] 45)).heap.size (w.alloc (.cells #[iv a0, iv a1, iv a2, iv a3] 45)) w')) := hid fun w' hx => ⟨(hx.cell (p := ⟨w.heap.size, 0, none⟩) (by simp)).trans (by simp [go_sem]), (hx.cell (p := ⟨w.heap.size, 1, none⟩) (by simp)).trans (by simp [go_sem]), (hx.cell (p := ⟨w.heap.size, 2, none⟩) (by simp)).trans (by simp [go_sem]), (hx.cell (p := ⟨w.heap.size, 3, none⟩) (by simp)).trans (by simp [go_sem]), hx⟩
  go_enter Try.func8, Try.ntmps8
  go_wp2_with fail
  refine (szKeyS_ok _ _ (by omega) (by omega) (by omega)).mono ?_
  rintro e w' ⟨rfl, rfl⟩
  replace s0 := s0.step H0
  have HH := hid H0
  clear H0
  have HX : Below (w.alloc (.cells #[iv a0, iv a1, iv a2, iv a3] 45)).heap.size (w.alloc (.cells #[iv a0, iv a1, iv a2, iv a3] 45)) (w.alloc (.cells #[iv a0, iv a1, iv a2, iv a3] 45)) := Below.refl _ _
  have heq0 : Hid ((w.alloc (.cells #[iv a0, iv a1, iv a2, iv a3] 45)).heap.size = w.heap.size + 1) := hid (by simp)
  go_upto_region 5 with fail
  go_cut [6, 7] (fun s6 s7 wx => ∃ g : Nat, s6 = .pointer (some ⟨g, 0, none⟩) ∧ s7 = .bool false ∧ (wx.cell? ⟨g, 0, none⟩ = some (iv 0) ∧ wx.cell? ⟨g, 1, none⟩ = some (iv 0) ∧ wx.cell? ⟨g, 2, none⟩ = some (iv 0) ∧ wx.cell? ⟨g, 3, none⟩ = some (iv 0)) ∧ (w.alloc (.cells #[iv a0, iv a1, iv a2, iv a3] 45)).heap.size ≤ g ∧ g < wx.heap.size ∧ Below (w.alloc (.cells #[iv a0, iv a1, iv a2, iv a3] 45)).heap.size (w.alloc (.cells #[iv a0, iv a1, iv a2, iv a3] 45)) wx)
  case first =>
    go_region_held3 (fun w' => w'.cell? ⟨w.heap.size, 0, none⟩ = some (iv a0) ∧ w'.cell? ⟨w.heap.size, 1, none⟩ = some (iv a1) ∧ w'.cell? ⟨w.heap.size, 2, none⟩ = some (iv a2) ∧ w'.cell? ⟨w.heap.size, 3, none⟩ = some (iv a3) ∧ Below (w.alloc (.cells #[iv a0, iv a1, iv a2, iv a3] 45)).heap.size (w.alloc (.cells #[iv a0, iv a1, iv a2, iv a3] 45)) w') (first | with_reducible exact HS.out _ HX.drew | with_reducible exact HS.out _ HZ1.out | with_reducible exact HS.out _ HZ2.out | with_reducible exact HS.out _ HZ3.out | with_reducible exact HS.out _ (HX.alloc HX.size _).drew | with_reducible exact HS.out _ (HZ1.out.alloc HZ1.out.size _) | with_reducible exact HS.out _ (HZ2.out.alloc HZ2.out.size _) | with_reducible exact HS.out _ (HZ3.out.alloc HZ3.out.size _) | (refine HS.out _ ?_; (repeat (first | refine Below.setCell ?_ (Nat.le_of_eq heq0.out) _ | refine Below.setCell ?_ HZ3.out.size _ | refine Below.setCell ?_ HZ2.out.size _ | refine Below.setCell ?_ HZ1.out.size _ | refine Below.setCell ?_ HX.drew.size _)); exact HZ3.out) | go_keep)
      (first | (go_at_call 17; (first | refine (toKeyS_any _ (s0.below HX.drew (Nat.le_refl _)) hs0 HX.drew.size (by omega)).mono ?_ | refine (toKeyS_any _ (s0.below (HX.alloc HX.size _).drew (Nat.le_refl _)) hs0 (HX.alloc HX.size _).drew.size (by omega)).mono ?_); rintro e w1 ⟨o1, rfl, ho1, hb1⟩; (first | have HZ1 := hid (below_step HX.drew hb1) | have HZ1 := hid (below_step (HX.alloc HX.size _).drew hb1)); have t1 := (Own.sl ho1 hs0); (first | have Q1 := hid (box_step_drew heq0.out hb1) | skip)) | (go_at_call 29; refine (toSuccession_any _ _ _ _ _).mono ?_; rintro e w2 ⟨rfl, hb2⟩; (first | have HZ2 := hid (below_step HZ1.out hb2) | have HZ2 := hid (below_step (HZ1.out.alloc HZ1.out.size _) hb2)); (first | have t1x2 := t1.step hb2 | have t1x2 := (t1.step (below_alloc _ _)).step hb2); (first | have Q2 := hid (box_next Q1.out hb2) | have Q2 := hid (box_step hb2) | skip)) | (go_at_call 34; (first | refine (specMakeSuccession_any_no _ _ _ _ _ t1x2 (Nat.le_refl _) hno.out).mono ?_ | refine (specMakeSuccession_any_no _ _ _ _ _ (t1x2.step (below_alloc _ _)) (Nat.le_refl _) hno.out).mono ?_); rintro e w3 ⟨rfl, hb3⟩; (first | have HZ3 := hid (below_step HZ2.out hb3) | have HZ3 := hid (below_step (HZ2.out.alloc HZ2.out.size _) hb3)); (first | have Q3 := box_next Q2.out hb3 | have Q3 := box_step hb3 | skip); (try obtain ⟨hzA, hcA, hfA⟩ := Q3)))
    all_goals (go_wp2_with fail; go_meet; go_split_ands; refine ⟨_, rfl, rfl, ⟨?_, ?_, ?_, ?_⟩, ?_, ?_, ?_⟩)
    all_goals first | (with_reducible assumption; done) | with_reducible exact HZ3.out.size | with_reducible exact HZ2.out.size | with_reducible exact HZ1.out.size | with_reducible exact Nat.le_of_eq heq0.out | (simp [go_sem]; done) | (simp [go_sem, hcA]; done) | (simp [go_sem]; omega)
  case rest =>
    obtain ⟨gA, rfl, rfl, hA, hgA, hgB, HX2⟩ := hcut
    replace hA := hid hA
    replace hgA := hid hgA
    replace hgB := hid hgB
    replace HX := HX2
    clear HX2
    have HXA : Below wc.heap.size wc wc := Below.refl _ _
    obtain ⟨hcX, -⟩ := bcell HX
    obtain ⟨hcA, -⟩ := bcell HXA
    have hzA := hgB.out
    go_wp2_with fail
    clear hcX hcA hzA
    refine (toKeyS_any _ (s0.below HX (Nat.le_refl _)) hs0 HX.size (by omega)).mono ?_
    rintro e w4 ⟨o4, rfl, ho4, hb4⟩
    replace HX := below_step HX hb4
    replace HXA := below_step HXA hb4
    have t4 := (Own.sl ho4 hs0)
    obtain ⟨hcX, -⟩ := bcell HX
    obtain ⟨hcA, -⟩ := bcell HXA
    have hzA := hgB.out
    go_wp2_with fail
    clear hcX hcA hzA
    refine (toSuccession_any _ _ _ _ _).mono ?_
    rintro e w5 ⟨rfl, hb5⟩
    replace HX := below_step HX hb5
    replace t4 := t4.step hb5
    replace HXA := below_step HXA hb5
    go_wp2_with fail
    refine (implMakeSuccession_any_no _ _ _ _ _ t4 (Nat.le_refl _) hno.out).mono ?_
    rintro e w6 ⟨rfl, hb6⟩
    replace HX := below_step HX hb6
    replace t4 := t4.step hb6
    replace HXA := below_step HXA hb6
    replace t4 := t4.step (below_alloc w6 (.cells #[iv 0, iv 0, iv 0, iv 0] 47))
    replace HX : Below (w.alloc (.cells #[iv a0, iv a1, iv a2, iv a3] 45)).heap.size (w.alloc (.cells #[iv a0, iv a1, iv a2, iv a3] 45)) (w6.alloc (.cells #[iv 0, iv 0, iv 0, iv 0] 47)) := HX.alloc HX.size _
    replace HXA := below_step HXA (below_alloc w6 (.cells #[iv 0, iv 0, iv 0, iv 0] 47))
    have HXB : Below (w6.alloc (.cells #[iv 0, iv 0, iv 0, iv 0] 47)).heap.size (w6.alloc (.cells #[iv 0, iv 0, iv 0, iv 0] 47)) (w6.alloc (.cells #[iv 0, iv 0, iv 0, iv 0] 47)) := Below.refl _ _
    obtain ⟨hcX, -⟩ := bcell HX
    obtain ⟨hcA, -⟩ := bcell HXA
    have hzA := hgB.out
    obtain ⟨hcB, -⟩ := bcell HXB
    have hzB := below_size HXB
    obtain ⟨hA0, hA1, hA2, hA3⟩ := hA.out
    go_wp2_with fail
    clear hcX hcA hzA hcB hzB hA0 hA1 hA2 hA3
    refine (eqSuccession_any _ _ _ _ _).mono ?_
    rintro e w7 ⟨rfl, hb7⟩
    replace HX := below_step HX hb7
    replace t4 := t4.step hb7
    replace HXA := below_step HXA hb7
    replace HXB := below_step HXB hb7
    clear HXA
    clear HXB
    go_wp2_with fail
    refine (toKeyS_any _ (s0.below HX (Nat.le_refl _)) hs0 HX.size (by omega)).mono ?_
    rintro e w8 ⟨o8, rfl, ho8, hb8⟩
    replace HX := below_step HX hb8
    replace t4 := t4.step hb8
    have t8 := (Own.sl ho8 hs0)
    go_wp2_with fail
    refine (eqKeyS_any _ t4 t8 (Nat.le_refl _)).mono ?_
    rintro e w9 ⟨rfl, hb9⟩
    replace HX := below_step HX hb9
    replace t4 := t4.step hb9
    replace t8 := t8.step hb9
    clear t8
    go_wp2
    go_ret
    exact ⟨rfl, below_step HH.out HX⟩

set_option maxHeartbeats 4000000 in
theorem lawMakeSuccession_any_yes {ks : List (List Int)} {v0 : Value} (a0 a1 a2 a3 : Int) (w : World) (s0 : Sl w.heap.size w 5 v0 ks) (hs0 : ∀ r ∈ ks, r.length = 5) (i k : Nat) (hyes : Hid (i < ks.length ∧ findI 0 a0 ks = (i : Int) ∧ k < ks.length ∧ findI 0 a1 ks = (k : Int) ∧ (a0 == a1) = false ∧ (fld ks i 1 == fld ks k 1) = true ∧ timeB a2 = true)) :
    Calls Try.prog 8 #[v0, .agg #[iv a0, iv a1, iv a2, iv a3]] w (Ret (.bool true) w) := by
  obtain ⟨A0, c0, rfl, hca0, hcb0, -⟩ := id s0
  have H0 : Below w.heap.size w (w.alloc (.cells #[iv a0, iv a1, iv a2, iv a3] 45)) := (below_alloc _ _)
  by_cases hl0 : ks.length ≤ 1048576
  rotate_left
  · have HH := hid H0
    clear H0
    go_enter Try.func8, Try.ntmps8
    go_wp2_with fail
    refine (szKeyS_no _ _ (by omega) (by omega) (by omega) (by omega)).mono ?_
    rintro e w' ⟨rfl, rfl⟩
    go_wp2
    go_ret
    exact ⟨rfl, HH.out⟩
  have HS : Hid (∀ w' : World, Below (w.alloc (.cells #[iv a0, iv a1, iv a2, iv a3] 45)).heap.size (w.alloc (.cells #[iv a0, iv a1, iv a2, iv a3] 45)) w' → (w'.cell? ⟨w.heap.size, 0, none⟩ = some (iv a0) ∧ w'.cell? ⟨w.heap.size, 1, none⟩ = some (iv a1) ∧ w'.cell? ⟨w.heap.size, 2, none⟩ = some (iv a2) ∧ w'.cell? ⟨w.heap.size, 3, none⟩ = some (iv a3) ∧ Below (w.alloc (.cells #[iv a0, iv a1, iv a2, iv a3] 45)).heap.size (w.alloc (.cells #[iv a0, iv a1, iv a2, iv a3] 45)) w')) := hid fun w' hx => ⟨(hx.cell (p := ⟨w.heap.size, 0, none⟩) (by simp)).trans (by simp [go_sem]), (hx.cell (p := ⟨w.heap.size, 1, none⟩) (by simp)).trans (by simp [go_sem]), (hx.cell (p := ⟨w.heap.size, 2, none⟩) (by simp)).trans (by simp [go_sem]), (hx.cell (p := ⟨w.heap.size, 3, none⟩) (by simp)).trans (by simp [go_sem]), hx⟩
  go_enter Try.func8, Try.ntmps8
  go_wp2_with fail
  refine (szKeyS_ok _ _ (by omega) (by omega) (by omega)).mono ?_
  rintro e w' ⟨rfl, rfl⟩
  replace s0 := s0.step H0
  have HH := hid H0
  clear H0
  have HX : Below (w.alloc (.cells #[iv a0, iv a1, iv a2, iv a3] 45)).heap.size (w.alloc (.cells #[iv a0, iv a1, iv a2, iv a3] 45)) (w.alloc (.cells #[iv a0, iv a1, iv a2, iv a3] 45)) := Below.refl _ _
  have heq0 : Hid ((w.alloc (.cells #[iv a0, iv a1, iv a2, iv a3] 45)).heap.size = w.heap.size + 1) := hid (by simp)
  go_upto_region 5 with fail
  go_cut [6, 7] (fun s6 s7 wx => ∃ g : Nat, s6 = .pointer (some ⟨g, 0, none⟩) ∧ s7 = .bool true ∧ (wx.cell? ⟨g, 0, none⟩ = some (iv a0) ∧ wx.cell? ⟨g, 1, none⟩ = some (iv a1) ∧ wx.cell? ⟨g, 2, none⟩ = some (iv a2) ∧ wx.cell? ⟨g, 3, none⟩ = some (iv (markW (fld ks i 2) (fld ks i 4) [106, a0, a1, a2]))) ∧ (w.alloc (.cells #[iv a0, iv a1, iv a2, iv a3] 45)).heap.size ≤ g ∧ g < wx.heap.size ∧ Below (w.alloc (.cells #[iv a0, iv a1, iv a2, iv a3] 45)).heap.size (w.alloc (.cells #[iv a0, iv a1, iv a2, iv a3] 45)) wx)
  case first =>
    go_region_held3 (fun w' => w'.cell? ⟨w.heap.size, 0, none⟩ = some (iv a0) ∧ w'.cell? ⟨w.heap.size, 1, none⟩ = some (iv a1) ∧ w'.cell? ⟨w.heap.size, 2, none⟩ = some (iv a2) ∧ w'.cell? ⟨w.heap.size, 3, none⟩ = some (iv a3) ∧ Below (w.alloc (.cells #[iv a0, iv a1, iv a2, iv a3] 45)).heap.size (w.alloc (.cells #[iv a0, iv a1, iv a2, iv a3] 45)) w') (first | with_reducible exact HS.out _ HX.drew | with_reducible exact HS.out _ HZ1.out | with_reducible exact HS.out _ HZ2.out | with_reducible exact HS.out _ HZ3.out | with_reducible exact HS.out _ (HX.alloc HX.size _).drew | with_reducible exact HS.out _ (HZ1.out.alloc HZ1.out.size _) | with_reducible exact HS.out _ (HZ2.out.alloc HZ2.out.size _) | with_reducible exact HS.out _ (HZ3.out.alloc HZ3.out.size _) | (refine HS.out _ ?_; (repeat (first | refine Below.setCell ?_ (Nat.le_of_eq heq0.out) _ | refine Below.setCell ?_ HZ3.out.size _ | refine Below.setCell ?_ HZ2.out.size _ | refine Below.setCell ?_ HZ1.out.size _ | refine Below.setCell ?_ HX.drew.size _)); exact HZ3.out) | go_keep)
      (first | (go_at_call 17; (first | refine (toKeyS_any _ (s0.below HX.drew (Nat.le_refl _)) hs0 HX.drew.size (by omega)).mono ?_ | refine (toKeyS_any _ (s0.below (HX.alloc HX.size _).drew (Nat.le_refl _)) hs0 (HX.alloc HX.size _).drew.size (by omega)).mono ?_); rintro e w1 ⟨o1, rfl, ho1, hb1⟩; (first | have HZ1 := hid (below_step HX.drew hb1) | have HZ1 := hid (below_step (HX.alloc HX.size _).drew hb1)); have t1 := (Own.sl ho1 hs0); (first | have Q1 := hid (box_step_drew heq0.out hb1) | skip)) | (go_at_call 29; refine (toSuccession_any _ _ _ _ _).mono ?_; rintro e w2 ⟨rfl, hb2⟩; (first | have HZ2 := hid (below_step HZ1.out hb2) | have HZ2 := hid (below_step (HZ1.out.alloc HZ1.out.size _) hb2)); (first | have t1x2 := t1.step hb2 | have t1x2 := (t1.step (below_alloc _ _)).step hb2); (first | have Q2 := hid (box_next Q1.out hb2) | have Q2 := hid (box_step hb2) | skip)) | (go_at_call 34; (first | refine (specMakeSuccession_any_yes _ _ _ _ _ t1x2 (Nat.le_refl _) i hyes.out.1 hyes.out.2.1 k hyes.out.2.2.1 hyes.out.2.2.2.1 hyes.out.2.2.2.2.1 hyes.out.2.2.2.2.2.1 hyes.out.2.2.2.2.2.2).mono ?_ | refine (specMakeSuccession_any_yes _ _ _ _ _ (t1x2.step (below_alloc _ _)) (Nat.le_refl _) i hyes.out.1 hyes.out.2.1 k hyes.out.2.2.1 hyes.out.2.2.2.1 hyes.out.2.2.2.2.1 hyes.out.2.2.2.2.2.1 hyes.out.2.2.2.2.2.2).mono ?_); rintro e w3 ⟨rfl, hb3⟩; (first | have HZ3 := hid (below_step HZ2.out hb3) | have HZ3 := hid (below_step (HZ2.out.alloc HZ2.out.size _) hb3)); (first | have Q3 := box_next Q2.out hb3 | have Q3 := box_step hb3 | skip); (try obtain ⟨hzA, hcA, hfA⟩ := Q3)))
    all_goals (go_wp2_with fail; go_meet; go_split_ands; refine ⟨_, rfl, rfl, ⟨?_, ?_, ?_, ?_⟩, ?_, ?_, ?_⟩)
    all_goals first | (with_reducible assumption; done) | with_reducible exact HZ3.out.size | with_reducible exact HZ2.out.size | with_reducible exact HZ1.out.size | with_reducible exact Nat.le_of_eq heq0.out | (simp [go_sem]; done) | (simp [go_sem, hcA]; done) | (simp [go_sem]; omega)
  case rest =>
    obtain ⟨gA, rfl, rfl, hA, hgA, hgB, HX2⟩ := hcut
    replace hA := hid hA
    replace hgA := hid hgA
    replace hgB := hid hgB
    replace HX := HX2
    clear HX2
    have HXA : Below wc.heap.size wc wc := Below.refl _ _
    obtain ⟨hcX, -⟩ := bcell HX
    obtain ⟨hcA, -⟩ := bcell HXA
    have hzA := hgB.out
    go_wp2_with fail
    clear hcX hcA hzA
    refine (toKeyS_any _ (s0.below HX (Nat.le_refl _)) hs0 HX.size (by omega)).mono ?_
    rintro e w4 ⟨o4, rfl, ho4, hb4⟩
    replace HX := below_step HX hb4
    replace HXA := below_step HXA hb4
    have t4 := (Own.sl ho4 hs0)
    obtain ⟨hcX, -⟩ := bcell HX
    obtain ⟨hcA, -⟩ := bcell HXA
    have hzA := hgB.out
    go_wp2_with fail
    clear hcX hcA hzA
    refine (toSuccession_any _ _ _ _ _).mono ?_
    rintro e w5 ⟨rfl, hb5⟩
    replace HX := below_step HX hb5
    replace t4 := t4.step hb5
    replace HXA := below_step HXA hb5
    go_wp2_with fail
    refine (implMakeSuccession_any_yes _ _ _ _ _ t4 (Nat.le_refl _) i hyes.out.1 hyes.out.2.1 k hyes.out.2.2.1 hyes.out.2.2.2.1 hyes.out.2.2.2.2.1 hyes.out.2.2.2.2.2.1 hyes.out.2.2.2.2.2.2).mono ?_
    rintro e w6 ⟨rfl, hb6⟩
    replace HX := below_step HX hb6
    replace t4 := t4.step hb6
    replace HXA := below_step HXA hb6
    replace t4 := t4.step (below_alloc w6 (.cells #[iv a0, iv a1, iv a2, iv (markW (fld ks i 2) (fld ks i 4) [106, a0, a1, a2])] 47))
    replace HX : Below (w.alloc (.cells #[iv a0, iv a1, iv a2, iv a3] 45)).heap.size (w.alloc (.cells #[iv a0, iv a1, iv a2, iv a3] 45)) (w6.alloc (.cells #[iv a0, iv a1, iv a2, iv (markW (fld ks i 2) (fld ks i 4) [106, a0, a1, a2])] 47)) := HX.alloc HX.size _
    replace HXA := below_step HXA (below_alloc w6 (.cells #[iv a0, iv a1, iv a2, iv (markW (fld ks i 2) (fld ks i 4) [106, a0, a1, a2])] 47))
    have HXB : Below (w6.alloc (.cells #[iv a0, iv a1, iv a2, iv (markW (fld ks i 2) (fld ks i 4) [106, a0, a1, a2])] 47)).heap.size (w6.alloc (.cells #[iv a0, iv a1, iv a2, iv (markW (fld ks i 2) (fld ks i 4) [106, a0, a1, a2])] 47)) (w6.alloc (.cells #[iv a0, iv a1, iv a2, iv (markW (fld ks i 2) (fld ks i 4) [106, a0, a1, a2])] 47)) := Below.refl _ _
    obtain ⟨hcX, -⟩ := bcell HX
    obtain ⟨hcA, -⟩ := bcell HXA
    have hzA := hgB.out
    obtain ⟨hcB, -⟩ := bcell HXB
    have hzB := below_size HXB
    obtain ⟨hA0, hA1, hA2, hA3⟩ := hA.out
    go_wp2_with fail
    clear hcX hcA hzA hcB hzB hA0 hA1 hA2 hA3
    refine (eqSuccession_any _ _ _ _ _).mono ?_
    rintro e w7 ⟨rfl, hb7⟩
    replace HX := below_step HX hb7
    replace t4 := t4.step hb7
    replace HXA := below_step HXA hb7
    replace HXB := below_step HXB hb7
    clear HXA
    clear HXB
    go_wp2_with fail
    refine (toKeyS_any _ (s0.below HX (Nat.le_refl _)) hs0 HX.size (by omega)).mono ?_
    rintro e w8 ⟨o8, rfl, ho8, hb8⟩
    replace HX := below_step HX hb8
    replace t4 := t4.step hb8
    have t8 := (Own.sl ho8 hs0)
    go_wp2_with fail
    refine (eqKeyS_any _ t4 t8 (Nat.le_refl _)).mono ?_
    rintro e w9 ⟨rfl, hb9⟩
    replace HX := below_step HX hb9
    replace t4 := t4.step hb9
    replace t8 := t8.step hb9
    clear t8
    go_wp2
    go_ret
    exact ⟨rfl, below_step HH.out HX⟩

theorem lawMakeSuccession_any {ks : List (List Int)} {v0 : Value} (a0 a1 a2 a3 : Int) (w : World) (s0 : Sl w.heap.size w 5 v0 ks) (hs0 : ∀ r ∈ ks, r.length = 5) :
    Calls Try.prog 8 #[v0, .agg #[iv a0, iv a1, iv a2, iv a3]] w (Ret (.bool true) w) := by
  rcases findI_range 0 a0 ks with hf | ⟨i, hi, hf, -⟩
  · exact lawMakeSuccession_any_no a0 a1 a2 a3 w s0 hs0 (.inl hf)
  · rcases findI_range 0 a1 ks with hf2 | ⟨k, hk, hf2, -⟩
    · exact lawMakeSuccession_any_no a0 a1 a2 a3 w s0 hs0 (.inr (.inl hf2))
    · cases hne : (a0 == a1)
      · cases how : (fld ks i 1 == fld ks k 1)
        · exact lawMakeSuccession_any_no a0 a1 a2 a3 w s0 hs0 (.inr (.inr (.inr (.inl ⟨i, k, hf, hf2, how⟩))))
        · cases ht : timeB a2
          · exact lawMakeSuccession_any_no a0 a1 a2 a3 w s0 hs0 (.inr (.inr (.inr (.inr ht))))
          · exact lawMakeSuccession_any_yes a0 a1 a2 a3 w s0 hs0 i k ⟨hi, hf, hk, hf2, hne, how, ht⟩
      · exact lawMakeSuccession_any_no a0 a1 a2 a3 w s0 hs0 (.inr (.inr (.inl hne)))


set_option maxRecDepth 100000 in
theorem lawMakeSuccession_lifted (os : Os) (started : os.Started) (H : Type) (enc : TypeId × Value → H) :
    ReturnsInHanded {} Try.checked os 8 .any (Rows.fnExactMakeSuccessionSpec.pre6 enc Try.prog Try.f8 Rows.fnExactMakeSuccessionRow.domain false) (Rows.fnExactMakeSuccessionSpec.post enc Try.prog Try.f8 false true false false) := by
  refine returnsInHanded_of_change (C := Try.checked) Try.own started (by kernel_rfl) Try.func8
    (ChangeSpec.witness6 (enc := enc) (C := Try.checked) false ⟨#[], #[.slice none 0 0, .agg #[.int .i64 0, .int .i64 0, .int .i64 0, .int .i64 0]], []⟩ 8 (by kernel_rfl) (by kernel_rfl) (by kernel_rfl) (by kernel_rfl)) ?_
  intro W base args ds gs before hval0 hW hcnd _
  have hval : ∀ (j : Nat) t v, Try.f8.params[j]? = some t → args[j]? = some v → Value.okWide Try.prog W .any base t v := hval0
  have hW' := hW
  obtain ⟨p, q, hA0, hV, rfl, hfz, hnd⟩ := hW
  have hA : DataW.TrodAll enc Try.prog W 0 (fun _ => true) true Try.f8.params.toList args.toList ds p := hA0
  rw [Try.params8] at hA hval
  obtain ⟨v0, v1, d0, d1, p0, p1, rfl, rfl, rfl, h0, h1⟩ := trodAll_two hA
  obtain ⟨rfl, rfl⟩ := trodVars_none hV
  obtain ⟨ks, s0, hs0, -⟩ := open_rows Try.underlying22 Try.underlying89 (by kernel_rfl) (N := 5) (by kernel_rfl) (by kernel_rfl) (by decide) Try.underlying3 (by kernel_rfl) (hval 0 22 v0 rfl rfl) h0
  obtain ⟨zs1, hlen1, rfl, -⟩ := open_ints_agg Try.underlying45 (by kernel_rfl) (N := 4) (by kernel_rfl) (by kernel_rfl) Try.underlying3 (by kernel_rfl) (hval 1 45 v1 rfl rfl) h1
  obtain ⟨a0, a1, a2, a3, rfl⟩ := list4 hlen1
  refine (lawMakeSuccession_any a0 a1 a2 a3 W s0 hs0).mono fun e W' ⟨he, hb⟩ => ?_
  subst he
  exact ⟨_, rfl, post_true hW' rfl Try.laidOut (by kernel_rfl) rfl Try.underlying4 rfl hb⟩

theorem lawMakeSuccession_holds : Rows.FnExactMakeSuccessionSaid :=
  OpenClaim.holds_of_wide 8 Try.f8 rfl rfl rfl rfl rfl rfl rfl ⟨rfl, rfl, rfl, rfl, rfl⟩ rfl rfl rfl rfl rfl (by kernel_rfl) Try.func8 (by kernel_rfl)
    (of_decide_eq_true (by kernel_rfl)) (by unfold Func.isWrapper; first | (rw [if_pos (by decide +kernel)]; kernel_rfl) | (rw [if_neg (by decide +kernel)]; exact ⟨rfl, rfl⟩))
    (fun os started H enc _ => lawMakeSuccession_lifted os started H enc)
end Go.Proofs.Ytjacbpmkdlngaaa
