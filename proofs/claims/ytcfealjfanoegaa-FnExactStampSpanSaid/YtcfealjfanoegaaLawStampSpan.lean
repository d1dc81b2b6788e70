/- The law FnExactStampSpan is true of every input: the program's StampSpan and the reference's return the same, and leave their arguments as they were. No condition. -/
import Derived.Test.YtcfealjfanoegaaRows
import Derived.Test.YtcfealjfanoegaaBase
import Derived.Test.YtcfealjfanoegaaOpen
import Derived.Test.YtcfealjfanoegaaPlain
import Derived.Test.YtcfealjfanoegaaHelpAuthority
import Derived.Test.YtcfealjfanoegaaHelpStamp
import Derived.Test.YtcfealjfanoegaaHelpSpan
import Derived.Test.YtcfealjfanoegaaStampSpan
import Derived.Deep.DeepCutAuto
import Derived.Test.YtcfealjfanoegaaBox
namespace Go.Proofs.Ytcfealjfanoegaa
open Go.ChangeShapes Go.WideShapes Go.ChangeAt Go.RowKit Go.Deep

set_option maxHeartbeats 4000000 in
theorem lawStampSpan_any {ls : List (List Int)} {v0 : Value} (a0 a1 a2 a3 a4 : Int) (w : World) (s0 : Sl w.heap.size w 3 v0 ls) (hs0 : ∀ r ∈ ls, r.length = 3)  :
    Calls Try.prog 8 #[v0, .agg #[iv a0, iv a1, iv a2, iv a3, iv a4]] w (Ret (.bool true) w) := by
  obtain ⟨A0, c0, rfl, hca0, hcb0, -⟩ := id s0
  have H0 : Below w.heap.size w (w.alloc (.cells #[iv a0, iv a1, iv a2, iv a3, iv a4] 68)) := (below_alloc _ _)
  by_cases hl0 : ls.length ≤ 1048576
  rotate_left
  · have HH := hid H0
    clear H0
    go_enter Try.func8, Try.ntmps8
    go_wp2_with fail
    refine (szAuthorityS_no _ _ (by omega) (by omega) (by omega) (by omega)).mono ?_
    rintro e w' ⟨rfl, rfl⟩
    go_wp2
    go_ret
    exact ⟨rfl, HH.out⟩
  have HS : Hid (∀ w' : World, Below (w.alloc (.cells #[iv a0, iv a1, iv a2, iv a3, iv a4] 68)).heap.size (w.alloc (.cells #[iv a0, iv a1, iv a2, iv a3, iv a4] 68)) w' → (w'.cell? ⟨w.heap.size, 0, none⟩ = some (iv a0) ∧ w'.cell? ⟨w.heap.size, 1, none⟩ = some (iv a1) ∧ w'.cell? ⟨w.heap.size, 2, none⟩ = some (iv a2) ∧ w'.cell? ⟨w.heap.size, 3, none⟩ = some (iv a3) ∧ w'.cell? ⟨w.heap.size, 4, none⟩ = some (iv a4) ∧ Below (w.alloc (.cells #[iv a0, iv a1, iv a2, iv a3, iv a4] 68)).heap.size (w.alloc (.cells #[iv a0, iv a1, iv a2, iv a3, iv a4] 68)) w')) := hid fun w' hx => ⟨(hx.cell (p := ⟨w.heap.size, 0, none⟩) (by simp)).trans (by simp [go_sem]), (hx.cell (p := ⟨w.heap.size, 1, none⟩) (by simp)).trans (by simp [go_sem]), (hx.cell (p := ⟨w.heap.size, 2, none⟩) (by simp)).trans (by simp [go_sem]), (hx.cell (p := ⟨w.heap.size, 3, none⟩) (by simp)).trans (by simp [go_sem]), (hx.cell (p := ⟨w.heap.size, 4, none⟩) (by simp)).trans (by simp [go_sem]), hx⟩
  go_enter Try.func8, Try.ntmps8
  go_wp2_with fail
  refine (szAuthorityS_ok _ _ (by omega) (by omega) (by omega)).mono ?_
  rintro e w' ⟨rfl, rfl⟩
  replace s0 := s0.step H0
  have HH := hid H0
  clear H0
  have HX : Below (w.alloc (.cells #[iv a0, iv a1, iv a2, iv a3, iv a4] 68)).heap.size (w.alloc (.cells #[iv a0, iv a1, iv a2, iv a3, iv a4] 68)) (w.alloc (.cells #[iv a0, iv a1, iv a2, iv a3, iv a4] 68)) := Below.refl _ _
  have heq0 : Hid ((w.alloc (.cells #[iv a0, iv a1, iv a2, iv a3, iv a4] 68)).heap.size = w.heap.size + 1) := hid (by simp)
  go_upto_region 5 with fail
  go_cut [6, 7] (fun s6 s7 wx => ∃ g : Nat, s6 = .pointer (some ⟨g, 0, none⟩) ∧ s7 = .bool (ssB ls a0 a2) ∧ (wx.cell? ⟨g, 0, none⟩ = some (iv (ssL ls a0 a2)) ∧ wx.cell? ⟨g, 1, none⟩ = some (iv (ssR ls a0 a2))) ∧ (w.alloc (.cells #[iv a0, iv a1, iv a2, iv a3, iv a4] 68)).heap.size ≤ g ∧ g < wx.heap.size ∧ Below (w.alloc (.cells #[iv a0, iv a1, iv a2, iv a3, iv a4] 68)).heap.size (w.alloc (.cells #[iv a0, iv a1, iv a2, iv a3, iv a4] 68)) wx)
  case first =>
    go_region_held3 (fun w' => w'.cell? ⟨w.heap.size, 0, none⟩ = some (iv a0) ∧ w'.cell? ⟨w.heap.size, 1, none⟩ = some (iv a1) ∧ w'.cell? ⟨w.heap.size, 2, none⟩ = some (iv a2) ∧ w'.cell? ⟨w.heap.size, 3, none⟩ = some (iv a3) ∧ w'.cell? ⟨w.heap.size, 4, none⟩ = some (iv a4) ∧ Below (w.alloc (.cells #[iv a0, iv a1, iv a2, iv a3, iv a4] 68)).heap.size (w.alloc (.cells #[iv a0, iv a1, iv a2, iv a3, iv a4] 68)) w') (first | with_reducible exact HS.out _ HX.drew | with_reducible exact HS.out _ HZ1.out | with_reducible exact HS.out _ HZ2.out | with_reducible exact HS.out _ HZ3.out | with_reducible exact HS.out _ (HX.alloc HX.size _).drew | with_reducible exact HS.out _ (HZ1.out.alloc HZ1.out.size _) | with_reducible exact HS.out _ (HZ2.out.alloc HZ2.out.size _) | with_reducible exact HS.out _ (HZ3.out.alloc HZ3.out.size _) | (refine HS.out _ ?_; (repeat (first | refine Below.setCell ?_ (Nat.le_of_eq heq0.out) _ | refine Below.setCell ?_ HZ3.out.size _ | refine Below.setCell ?_ HZ2.out.size _ | refine Below.setCell ?_ HZ1.out.size _ | refine Below.setCell ?_ HX.drew.size _)); exact HZ3.out) | go_keep)
      (first | (go_at_call 48; (first | refine (toAuthorityS_any _ (s0.below HX.drew (Nat.le_refl _)) hs0 HX.drew.size (by omega)).mono ?_ | refine (toAuthorityS_any _ (s0.below (HX.alloc HX.size _).drew (Nat.le_refl _)) hs0 (HX.alloc HX.size _).drew.size (by omega)).mono ?_); rintro e w1 ⟨o1, rfl, ho1, hb1⟩; (first | have HZ1 := hid (below_step HX.drew hb1) | have HZ1 := hid (below_step (HX.alloc HX.size _).drew hb1)); have t1 := (Own.sl ho1 hs0); (first | have Q1 := hid (box_step_drew heq0.out hb1) | skip)) | (go_at_call 49; refine (toStamp_any _ _ _ _ _ _).mono ?_; rintro e w2 ⟨rfl, hb2⟩; (first | have HZ2 := hid (below_step HZ1.out hb2) | have HZ2 := hid (below_step (HZ1.out.alloc HZ1.out.size _) hb2)); (first | have t1x2 := t1.step hb2 | have t1x2 := (t1.step (below_alloc _ _)).step hb2); (first | have Q2 := hid (box_next Q1.out hb2) | have Q2 := hid (box_step hb2) | skip)) | (go_at_call 47; (first | refine (specStampSpan_any _ _ _ _ _ _ t1x2 (Nat.le_refl _) ).mono ?_ | refine (specStampSpan_any _ _ _ _ _ _ (t1x2.step (below_alloc _ _)) (Nat.le_refl _) ).mono ?_); rintro e w3 ⟨rfl, hb3⟩; (first | have HZ3 := hid (below_step HZ2.out hb3) | have HZ3 := hid (below_step (HZ2.out.alloc HZ2.out.size _) hb3)); (first | have Q3 := box_next Q2.out hb3 | have Q3 := box_step hb3 | skip); (try obtain ⟨hzA, hcA, hfA⟩ := Q3)))
    all_goals (go_wp2_with fail; go_meet; go_split_ands; refine ⟨_, rfl, rfl, ⟨?_, ?_⟩, ?_, ?_, ?_⟩)
    all_goals first | (with_reducible assumption; done) | with_reducible exact HZ3.out.size | with_reducible exact HZ2.out.size | with_reducible exact HZ1.out.size | with_reducible exact Nat.le_of_eq heq0.out | (simp [go_sem]; done) | (simp [go_sem, hcA]; done) | (simp [go_sem]; omega)
  case rest =>
    obtain ⟨gA, rfl, rfl, hA, hgA, hgB, HX2⟩ := hcut
    replace hA := hid hA
    replace hgA := hid hgA
    replace hgB := hid hgB
    replace HX := HX2
    clear HX2
    have HXA : Below wc.heap.size wc wc := Below.refl _ _
    obtain ⟨hcX, -⟩ := bcell HX
    obtain ⟨hcA, -⟩ := bcell HXA
    have hzA := hgB.out
    go_wp2_with fail
    clear hcX hcA hzA
    refine (toAuthorityS_any _ (s0.below HX (Nat.le_refl _)) hs0 HX.size (by omega)).mono ?_
    rintro e w4 ⟨o4, rfl, ho4, hb4⟩
    replace HX := below_step HX hb4
    replace HXA := below_step HXA hb4
    have t4 := (Own.sl ho4 hs0)
    obtain ⟨hcX, -⟩ := bcell HX
    obtain ⟨hcA, -⟩ := bcell HXA
    have hzA := hgB.out
    go_wp2_with fail
    clear hcX hcA hzA
    refine (toStamp_any _ _ _ _ _ _).mono ?_
    rintro e w5 ⟨rfl, hb5⟩
    replace HX := below_step HX hb5
    replace t4 := t4.step hb5
    replace HXA := below_step HXA hb5
    go_wp2_with fail
    refine (implStampSpan_any _ _ _ _ _ _ t4 (Nat.le_refl _) ).mono ?_
    rintro e w6 ⟨rfl, hb6⟩
    replace HX := below_step HX hb6
    replace t4 := t4.step hb6
    replace HXA := below_step HXA hb6
    replace t4 := t4.step (below_alloc w6 (.cells #[iv (ssL ls a0 a2), iv (ssR ls a0 a2)] 55))
    replace HX : Below (w.alloc (.cells #[iv a0, iv a1, iv a2, iv a3, iv a4] 68)).heap.size (w.alloc (.cells #[iv a0, iv a1, iv a2, iv a3, iv a4] 68)) (w6.alloc (.cells #[iv (ssL ls a0 a2), iv (ssR ls a0 a2)] 55)) := HX.alloc HX.size _
    replace HXA := below_step HXA (below_alloc w6 (.cells #[iv (ssL ls a0 a2), iv (ssR ls a0 a2)] 55))
    have HXB : Below (w6.alloc (.cells #[iv (ssL ls a0 a2), iv (ssR ls a0 a2)] 55)).heap.size (w6.alloc (.cells #[iv (ssL ls a0 a2), iv (ssR ls a0 a2)] 55)) (w6.alloc (.cells #[iv (ssL ls a0 a2), iv (ssR ls a0 a2)] 55)) := Below.refl _ _
    obtain ⟨hcX, -⟩ := bcell HX
    obtain ⟨hcA, -⟩ := bcell HXA
    have hzA := hgB.out
    obtain ⟨hcB, -⟩ := bcell HXB
    have hzB := below_size HXB
    obtain ⟨hA0, hA1⟩ := hA.out
    go_wp2_with fail
    clear hcX hcA hzA hcB hzB hA0 hA1
    refine (eqSpan_any _ _ _).mono ?_
    rintro e w7 ⟨rfl, hb7⟩
    replace HX := below_step HX hb7
    replace t4 := t4.step hb7
    replace HXA := below_step HXA hb7
    replace HXB := below_step HXB hb7
    clear HXA
    clear HXB
    go_wp2_with fail
    refine (toAuthorityS_any _ (s0.below HX (Nat.le_refl _)) hs0 HX.size (by omega)).mono ?_
    rintro e w8 ⟨o8, rfl, ho8, hb8⟩
    replace HX := below_step HX hb8
    replace t4 := t4.step hb8
    have t8 := (Own.sl ho8 hs0)
    go_wp2_with fail
    refine (eqAuthorityS_any _ t4 t8 (Nat.le_refl _)).mono ?_
    rintro e w9 ⟨rfl, hb9⟩
    replace HX := below_step HX hb9
    replace t4 := t4.step hb9
    replace t8 := t8.step hb9
    clear t8
    go_wp2
    go_ret
    exact ⟨rfl, below_step HH.out HX⟩


set_option maxRecDepth 100000 in
theorem lawStampSpan_lifted (os : Os) (started : os.Started) (H : Type) (enc : TypeId × Value → H) :
    ReturnsInHanded {} Try.checked os 8 .any (Rows.fnExactStampSpanSpec.pre6 enc Try.prog Try.f8 Rows.fnExactStampSpanRow.domain false) (Rows.fnExactStampSpanSpec.post enc Try.prog Try.f8 false true false false) := by
  refine returnsInHanded_of_change (C := Try.checked) Try.own started (by kernel_rfl) Try.func8
    (ChangeSpec.witness6 (enc := enc) (C := Try.checked) false ⟨#[], #[.slice none 0 0, .agg #[.int .i64 0, .int .i64 0, .int .i64 0, .int .i64 0, .int .i64 0]], []⟩ 8 (by kernel_rfl) (by kernel_rfl) (by kernel_rfl) (by kernel_rfl)) ?_
  intro W base args ds gs before hval0 hW hcnd _
  have hval : ∀ (j : Nat) t v, Try.f8.params[j]? = some t → args[j]? = some v → Value.okWide Try.prog W .any base t v := hval0
  have hW' := hW
  obtain ⟨p, q, hA0, hV, rfl, hfz, hnd⟩ := hW
  have hA : DataW.TrodAll enc Try.prog W 0 (fun _ => true) true Try.f8.params.toList args.toList ds p := hA0
  rw [Try.params8] at hA hval
  obtain ⟨v0, v1, d0, d1, p0, p1, rfl, rfl, rfl, h0, h1⟩ := trodAll_two hA
  obtain ⟨rfl, rfl⟩ := trodVars_none hV
  obtain ⟨ls, s0, hs0, -⟩ := open_rows Try.underlying66 Try.underlying130 (by kernel_rfl) (N := 3) (by kernel_rfl) (by kernel_rfl) (by decide) Try.underlying3 (by kernel_rfl) (hval 0 66 v0 rfl rfl) h0
  obtain ⟨zs1, hlen1, rfl, -⟩ := open_ints_agg Try.underlying68 (by kernel_rfl) (N := 5) (by kernel_rfl) (by kernel_rfl) Try.underlying3 (by kernel_rfl) (hval 1 68 v1 rfl rfl) h1
  obtain ⟨a0, a1, a2, a3, a4, rfl⟩ := list5 hlen1
  refine (lawStampSpan_any a0 a1 a2 a3 a4 W s0 hs0).mono fun e W' ⟨he, hb⟩ => ?_
  subst he
  exact ⟨_, rfl, post_true hW' rfl Try.laidOut (by kernel_rfl) rfl Try.underlying4 rfl hb⟩

theorem lawStampSpan_holds : Rows.FnExactStampSpanSaid :=
  OpenClaim.holds_of_wide 8 Try.f8 rfl rfl rfl rfl rfl rfl rfl ⟨rfl, rfl, rfl, rfl, rfl⟩ rfl rfl rfl rfl rfl (by kernel_rfl) Try.func8 (by kernel_rfl)
    (of_decide_eq_true (by kernel_rfl)) (by unfold Func.isWrapper; first | (rw [if_pos (by decide +kernel)]; kernel_rfl) | (rw [if_neg (by decide +kernel)]; exact ⟨rfl, rfl⟩))
    (fun os started H enc _ => lawStampSpan_lifted os started H enc)
end Go.Proofs.Ytcfealjfanoegaa
