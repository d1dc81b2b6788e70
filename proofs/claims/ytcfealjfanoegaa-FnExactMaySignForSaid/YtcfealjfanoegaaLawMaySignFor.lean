/- The law FnExactMaySignFor is true of every input: the program's MaySignFor and the reference's return the same, and leave their arguments as they were. No condition. -/
import Derived.Test.YtcfealjfanoegaaRows
import Derived.Test.YtcfealjfanoegaaBase
import Derived.Test.YtcfealjfanoegaaOpen
import Derived.Test.YtcfealjfanoegaaPlain
import Derived.Test.YtcfealjfanoegaaHelpKey
import Derived.Test.YtcfealjfanoegaaHelpMandate
import Derived.Test.YtcfealjfanoegaaHelpSpan
import Derived.Test.YtcfealjfanoegaaMaySign
import Derived.Test.YtcfealjfanoegaaOpen5
namespace Go.Proofs.Ytcfealjfanoegaa
open Go.ChangeShapes Go.WideShapes Go.ChangeAt Go.RowKit Go.Deep

set_option maxHeartbeats 4000000 in
theorem lawMaySignFor_any {ks : List (List Int)} {v0 : Value} {ls : List (List Int)} {v1 : Value} (o : Int) (p : Int) (a0 a1 : Int) (w : World) (s0 : Sl w.heap.size w 5 v0 ks) (hs0 : ∀ r ∈ ks, r.length = 5) (s1 : Sl w.heap.size w 6 v1 ls) (hs1 : ∀ r ∈ ls, r.length = 6) :
    Calls Try.prog 13 #[v0, v1, iv o, iv p, .agg #[iv a0, iv a1]] w (Ret (.bool true) w) := by
  obtain ⟨A0, c0, rfl, hca0, hcb0, -⟩ := id s0
  obtain ⟨A1, c1, rfl, hca1, hcb1, -⟩ := id s1
  have H0 : Below w.heap.size w (w.alloc (.cells #[iv a0, iv a1] 84)) := (below_alloc _ _)
  by_cases hl0 : ks.length ≤ 1048576
  rotate_left
  · have HH := hid H0
    clear H0
    go_enter Try.func13, Try.ntmps13
    go_wp2_with fail
    refine (szKeyS_no _ _ (by omega) (by omega) (by omega) (by omega)).mono ?_
    rintro e w' ⟨rfl, rfl⟩
    go_wp2
    go_ret
    exact ⟨rfl, HH.out⟩
  by_cases hl1 : ks.length + ls.length ≤ 1048576
  rotate_left
  · have HH := hid H0
    clear H0
    go_enter Try.func13, Try.ntmps13
    go_wp2_with fail
    refine (szKeyS_ok _ _ (by omega) (by omega) (by omega)).mono ?_
    rintro e w' ⟨rfl, rfl⟩
    go_wp2_with fail
    refine (szMandateS_no _ _ (by omega) (by omega) (by omega) (by omega)).mono ?_
    rintro e w' ⟨rfl, rfl⟩
    go_wp2
    go_ret
    exact ⟨rfl, HH.out⟩
  have HS : Hid (∀ w' : World, Below (w.alloc (.cells #[iv a0, iv a1] 84)).heap.size (w.alloc (.cells #[iv a0, iv a1] 84)) w' → (w'.cell? ⟨w.heap.size, 0, none⟩ = some (iv a0) ∧ w'.cell? ⟨w.heap.size, 1, none⟩ = some (iv a1) ∧ Below (w.alloc (.cells #[iv a0, iv a1] 84)).heap.size (w.alloc (.cells #[iv a0, iv a1] 84)) w')) := hid fun w' hx => ⟨(hx.cell (p := ⟨w.heap.size, 0, none⟩) (by simp)).trans (by simp [go_sem]), (hx.cell (p := ⟨w.heap.size, 1, none⟩) (by simp)).trans (by simp [go_sem]), hx⟩
  go_enter Try.func13, Try.ntmps13
  go_wp2_with fail
  refine (szKeyS_ok _ _ (by omega) (by omega) (by omega)).mono ?_
  rintro e w' ⟨rfl, rfl⟩
  go_wp2_with fail
  refine (szMandateS_ok _ _ (by omega) (by omega) (by omega)).mono ?_
  rintro e w' ⟨rfl, rfl⟩
  replace s0 := s0.step H0
  replace s1 := s1.step H0
  have HH := hid H0
  clear H0
  have HX : Below (w.alloc (.cells #[iv a0, iv a1] 84)).heap.size (w.alloc (.cells #[iv a0, iv a1] 84)) (w.alloc (.cells #[iv a0, iv a1] 84)) := Below.refl _ _
  go_wp2_with fail
  go_region_held3 (fun w' => w'.cell? ⟨w.heap.size, 0, none⟩ = some (iv a0) ∧ w'.cell? ⟨w.heap.size, 1, none⟩ = some (iv a1) ∧ Below (w.alloc (.cells #[iv a0, iv a1] 84)).heap.size (w.alloc (.cells #[iv a0, iv a1] 84)) w') (first | exact HS.out _ HX.drew | exact HS.out _ HZ1.out | exact HS.out _ HZ2.out | exact HS.out _ HZ3.out | exact HS.out _ HZ4.out | go_keep)
    (first | (go_at_call 21; refine (toKeyS_any _ (s0.below HX.drew (Nat.le_refl _)) hs0 HX.drew.size (by omega)).mono ?_; rintro e w1 ⟨o1, rfl, ho1, hb1⟩; have HZ1 := hid (below_step HX.drew hb1); have t1 := (Own.sl ho1 hs0)) | (go_at_call 22; refine (toMandateS_any _ (s1.below HZ1.out (Nat.le_refl _)) hs1 HZ1.out.size (by omega)).mono ?_; rintro e w2 ⟨o2, rfl, ho2, hb2⟩; have HZ2 := hid (below_step HZ1.out hb2); have t1x2 := t1.step hb2; have t2 := (Own.sl ho2 hs1)) | (go_at_call 58; refine (toSpan_any _ _ _).mono ?_; rintro e w3 ⟨rfl, hb3⟩; have HZ3 := hid (below_step HZ2.out hb3); have t1x3 := t1x2.step hb3; have t2x3 := t2.step hb3) | (go_at_call 65; refine (specMaySignFor_any _ _ _ _ _ t1x3 t2x3 (Nat.le_refl _) (by omega)).mono ?_; rintro e w4 ⟨rfl, hb4⟩; have HZ4 := hid (below_step HZ3.out hb4)))
  replace HX := HZ4.out
  clear HZ1
  clear HZ2
  clear HZ3
  clear HZ4
  obtain ⟨hcX, -⟩ := bcell HX
  go_wp2_with fail
  clear hcX
  refine (toKeyS_any _ (s0.below HX (Nat.le_refl _)) hs0 HX.size (by omega)).mono ?_
  rintro e w5 ⟨o5, rfl, ho5, hb5⟩
  replace HX := below_step HX hb5
  have t5 := (Own.sl ho5 hs0)
  obtain ⟨hcX, -⟩ := bcell HX
  go_wp2_with fail
  clear hcX
  refine (toMandateS_any _ (s1.below HX (Nat.le_refl _)) hs1 HX.size (by omega)).mono ?_
  rintro e w6 ⟨o6, rfl, ho6, hb6⟩
  replace HX := below_step HX hb6
  replace t5 := t5.step hb6
  have t6 := (Own.sl ho6 hs1)
  obtain ⟨hcX, -⟩ := bcell HX
  go_wp2_with fail
  clear hcX
  refine (toSpan_any _ _ _).mono ?_
  rintro e w7 ⟨rfl, hb7⟩
  replace HX := below_step HX hb7
  replace t5 := t5.step hb7
  replace t6 := t6.step hb7
  go_wp2_with fail
  refine (implMaySignFor_any _ _ _ _ _ t5 t6 (Nat.le_refl _) (by omega)).mono ?_
  rintro e w8 ⟨rfl, hb8⟩
  replace HX := below_step HX hb8
  replace t5 := t5.step hb8
  replace t6 := t6.step hb8
  go_wp2_with fail
  refine (toKeyS_any _ (s0.below HX (Nat.le_refl _)) hs0 HX.size (by omega)).mono ?_
  rintro e w9 ⟨o9, rfl, ho9, hb9⟩
  replace HX := below_step HX hb9
  replace t5 := t5.step hb9
  replace t6 := t6.step hb9
  have t9 := (Own.sl ho9 hs0)
  go_wp2_with fail
  refine (eqKeyS_any _ t5 t9 (Nat.le_refl _)).mono ?_
  rintro e w10 ⟨rfl, hb10⟩
  replace HX := below_step HX hb10
  replace t5 := t5.step hb10
  replace t6 := t6.step hb10
  replace t9 := t9.step hb10
  clear t9
  go_wp2_with fail
  refine (toMandateS_any _ (s1.below HX (Nat.le_refl _)) hs1 HX.size (by omega)).mono ?_
  rintro e w11 ⟨o11, rfl, ho11, hb11⟩
  replace HX := below_step HX hb11
  replace t5 := t5.step hb11
  replace t6 := t6.step hb11
  have t11 := (Own.sl ho11 hs1)
  go_wp2_with fail
  refine (eqMandateS_any _ t6 t11 (Nat.le_refl _)).mono ?_
  rintro e w12 ⟨rfl, hb12⟩
  replace HX := below_step HX hb12
  replace t5 := t5.step hb12
  replace t6 := t6.step hb12
  replace t11 := t11.step hb12
  clear t11
  go_wp2
  go_ret
  exact ⟨rfl, below_step HH.out HX⟩


set_option maxRecDepth 100000 in
theorem lawMaySignFor_lifted (os : Os) (started : os.Started) (H : Type) (enc : TypeId × Value → H) :
    ReturnsInHanded {} Try.checked os 13 .any (Rows.fnExactMaySignForSpec.pre6 enc Try.prog Try.f13 Rows.fnExactMaySignForRow.domain false) (Rows.fnExactMaySignForSpec.post enc Try.prog Try.f13 false true false false) := by
  refine returnsInHanded_of_change (C := Try.checked) Try.own started (by kernel_rfl) Try.func13
    (ChangeSpec.witness6 (enc := enc) (C := Try.checked) false ⟨#[], #[.slice none 0 0, .slice none 0 0, .int .i64 0, .int .i64 0, .agg #[.int .i64 0, .int .i64 0]], []⟩ 8 (by kernel_rfl) (by kernel_rfl) (by kernel_rfl) (by kernel_rfl)) ?_
  intro W base args ds gs before hval0 hW hcnd _
  have hval : ∀ (j : Nat) t v, Try.f13.params[j]? = some t → args[j]? = some v → Value.okWide Try.prog W .any base t v := hval0
  have hW' := hW
  obtain ⟨p, q, hA0, hV, rfl, hfz, hnd⟩ := hW
  have hA : DataW.TrodAll enc Try.prog W 0 (fun _ => true) true Try.f13.params.toList args.toList ds p := hA0
  rw [Try.params13] at hA hval
  obtain ⟨v0, v1, v2, v3, v4, d0, d1, d2, d3, d4, p0, p1, p2, p3, p4, rfl, rfl, rfl, h0, h1, h2, h3, h4⟩ := args_five hA
  obtain ⟨rfl, rfl⟩ := trodVars_none hV
  obtain ⟨ks, s0, hs0, -⟩ := open_rows Try.underlying28 Try.underlying115 (by kernel_rfl) (N := 5) (by kernel_rfl) (by kernel_rfl) (by decide) Try.underlying3 (by kernel_rfl) (hval 0 28 v0 rfl rfl) h0
  obtain ⟨ls, s1, hs1, -⟩ := open_rows Try.underlying29 Try.underlying117 (by kernel_rfl) (N := 6) (by kernel_rfl) (by kernel_rfl) (by decide) Try.underlying3 (by kernel_rfl) (hval 1 29 v1 rfl rfl) h1
  obtain ⟨o, rfl, rfl, rfl, -⟩ := open_int Try.underlying3 (hval 2 3 v2 rfl rfl) h2
  obtain ⟨p, rfl, rfl, rfl, -⟩ := open_int Try.underlying3 (hval 3 3 v3 rfl rfl) h3
  obtain ⟨zs4, hlen4, rfl, -⟩ := open_ints_agg Try.underlying84 (by kernel_rfl) (N := 2) (by kernel_rfl) (by kernel_rfl) Try.underlying3 (by kernel_rfl) (hval 4 84 v4 rfl rfl) h4
  obtain ⟨a0, a1, rfl⟩ := list2 hlen4
  refine (lawMaySignFor_any o p a0 a1 W s0 hs0 s1 hs1).mono fun e W' ⟨he, hb⟩ => ?_
  subst he
  exact ⟨_, rfl, post_true hW' rfl Try.laidOut (by kernel_rfl) rfl Try.underlying4 rfl hb⟩

theorem lawMaySignFor_holds : Rows.FnExactMaySignForSaid :=
  OpenClaim.holds_of_wide 13 Try.f13 rfl rfl rfl rfl rfl rfl rfl ⟨rfl, rfl, rfl, rfl, rfl⟩ rfl rfl rfl rfl rfl (by kernel_rfl) Try.func13 (by kernel_rfl)
    (of_decide_eq_true (by kernel_rfl)) (by unfold Func.isWrapper; first | (rw [if_pos (by decide +kernel)]; kernel_rfl) | (rw [if_neg (by decide +kernel)]; exact ⟨rfl, rfl⟩))
    (fun os started H enc _ => lawMaySignFor_lifted os started H enc)
end Go.Proofs.Ytcfealjfanoegaa
