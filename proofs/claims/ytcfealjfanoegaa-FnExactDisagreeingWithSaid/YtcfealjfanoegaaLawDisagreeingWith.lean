/- The law FnExactDisagreeingWith is true of every input: the program's DisagreeingWith and the reference's return the same, and leave their arguments as they were. No condition. -/
import Derived.Test.YtcfealjfanoegaaRows
import Derived.Test.YtcfealjfanoegaaBase
import Derived.Test.YtcfealjfanoegaaOpen
import Derived.Test.YtcfealjfanoegaaPlain
import Derived.Test.YtcfealjfanoegaaApart
import Derived.Test.YtcfealjfanoegaaHelpI
import Derived.Test.YtcfealjfanoegaaHelpSpan
import Derived.Test.YtcfealjfanoegaaMkSpan
import Derived.Test.YtcfealjfanoegaaMkInt
import Derived.Test.YtcfealjfanoegaaDisagree
namespace Go.Proofs.Ytcfealjfanoegaa
open Go.ChangeShapes Go.WideShapes Go.ChangeAt Go.RowKit Go.Deep

set_option maxRecDepth 8000 in
set_option maxHeartbeats 4000000 in
theorem lawDisagreeingWith_any {ks : List (List Int)} {v0 : Value} (a0 a1 : Int) (w : World) (s0 : Sl w.heap.size w 2 v0 ks) (hs0 : ∀ r ∈ ks, r.length = 2) :
    Calls Try.prog 10 #[v0, .agg #[iv a0, iv a1]] w (Ret (.bool true) w) := by
  obtain ⟨A0, c0, rfl, hca0, hcb0, -⟩ := id s0
  have H0 : Below w.heap.size w (w.alloc (.cells #[iv a0, iv a1] 84)) := (below_alloc _ _)
  by_cases hl0 : ks.length ≤ 1048576
  rotate_left
  · have HH := hid H0
    clear H0
    go_enter Try.func10, Try.ntmps10
    have HX : Below (w.alloc (.cells #[iv a0, iv a1] 84)).heap.size (w.alloc (.cells #[iv a0, iv a1] 84)) (w.alloc (.cells #[iv a0, iv a1] 84)) := Below.refl _ _
    go_wp2_with fail
    refine (szSpanS_no _ _ (by omega) (by omega) (by omega) (by omega)).mono ?_
    rintro e w' ⟨rfl, rfl⟩
    go_wp2
    go_ret
    exact ⟨rfl, below_step HH.out HX⟩
  go_enter Try.func10, Try.ntmps10
  replace s0 := s0.step H0
  have HH := hid H0
  clear H0
  have HX : Below (w.alloc (.cells #[iv a0, iv a1] 84)).heap.size (w.alloc (.cells #[iv a0, iv a1] 84)) (w.alloc (.cells #[iv a0, iv a1] 84)) := Below.refl _ _
  go_wp2_with fail
  refine (szSpanS_ok _ _ (by omega) (by omega) (by omega)).mono ?_
  rintro e w' ⟨rfl, rfl⟩
  have hle := disI_le ks a0 a1 ks.length
  have HR : Hid (∀ w' : World, Below (w.alloc (.cells #[iv a0, iv a1] 84)).heap.size (w.alloc (.cells #[iv a0, iv a1] 84)) w' → (w'.cell? ⟨w.heap.size, 0, none⟩ = some (iv a0) ∧ w'.cell? ⟨w.heap.size, 1, none⟩ = some (iv a1) ∧ Below (w.alloc (.cells #[iv a0, iv a1] 84)).heap.size (w.alloc (.cells #[iv a0, iv a1] 84)) w')) := hid fun w' hx => ⟨((below_step HX hx).cell (p := ⟨w.heap.size, 0, none⟩) (by simp)).trans (by simp [go_sem]), ((below_step HX hx).cell (p := ⟨w.heap.size, 1, none⟩) (by simp)).trans (by simp [go_sem]), hx⟩
  go_wp2_with fail
  go_region_held3 (fun w' => w'.cell? ⟨w.heap.size, 0, none⟩ = some (iv a0) ∧ w'.cell? ⟨w.heap.size, 1, none⟩ = some (iv a1) ∧ Below (w.alloc (.cells #[iv a0, iv a1] 84)).heap.size (w.alloc (.cells #[iv a0, iv a1] 84)) w') (first | with_reducible exact HR.out _ (Below.refl (w.alloc (.cells #[iv a0, iv a1] 84)).heap.size (w.alloc (.cells #[iv a0, iv a1] 84))).drew | with_reducible exact HR.out _ HZ1.out | with_reducible exact HR.out _ HZ2.out | with_reducible exact HR.out _ HZ3.out | go_keep)
    (first | (go_at_call 38; refine (toSpanS_any _ (s0.below (below_step HX (Below.refl (w.alloc (.cells #[iv a0, iv a1] 84)).heap.size (w.alloc (.cells #[iv a0, iv a1] 84))).drew) (Nat.le_refl _)) hs0 (Nat.le_trans HX.size (Below.refl (w.alloc (.cells #[iv a0, iv a1] 84)).heap.size (w.alloc (.cells #[iv a0, iv a1] 84))).drew.size) (by omega)).mono ?_; rintro e w1 ⟨o1, rfl, ho1, hb1⟩; have HZ1 := hid (below_step (Below.refl (w.alloc (.cells #[iv a0, iv a1] 84)).heap.size (w.alloc (.cells #[iv a0, iv a1] 84))).drew hb1); have t1 := (Own.sl (ks := ks) ho1 hs0)) | (go_at_call 58; refine (toSpan_any _ _ _).mono ?_; rintro e w2 ⟨rfl, hb2⟩; have HZ2 := hid (below_step HZ1.out hb2); have t1x2 := t1.step hb2) | (go_at_call 57; refine (specDisagreeingWith_any _ _ _ t1x2 (Nat.le_refl _) (by omega)).mono ?_; rintro e w3 ⟨o3, rfl, ho3, hb3⟩; have HZ3 := hid (below_step HZ2.out hb3)))
  have hbR3 := HZ3.out
  have Z1 : Hid ((w.alloc (.cells #[iv a0, iv a1] 84)).heap.size ≤ w1.heap.size) := hid hb1.size
  have Z2 : Hid (w1.heap.size ≤ w2.heap.size) := hid hb2.size
  have Z3 : Hid (w2.heap.size ≤ w3.heap.size) := hid hb3.size
  replace HX := below_step HX hbR3
  clear HR HZ1 HZ2 HZ3
  obtain ⟨hcX, -⟩ := bcell HX
  go_wp2_with fail
  clear hcX
  refine (toSpanS_any _ (s0.below HX (Nat.le_refl _)) hs0 HX.size (by omega)).mono ?_
  rintro e w4 ⟨o4, rfl, ho4, hb4⟩
  have Z4 := hid hb4.size
  replace HX := below_step HX hb4
  replace ho3 := ho3.below hb4 (Nat.le_refl _)
  obtain ⟨hcX, -⟩ := bcell HX
  go_wp2_with fail
  clear hcX
  refine (toSpan_any _ _ _).mono ?_
  rintro e w5 ⟨rfl, hb5⟩
  have Z5 := hid hb5.size
  replace HX := below_step HX hb5
  replace ho3 := ho3.below hb5 Z4.out
  replace ho4 := ho4.below hb5 (Nat.le_refl _)
  obtain ⟨hcX, -⟩ := bcell HX
  go_wp2_with fail
  clear hcX
  refine (implDisagreeingWith_any _ _ _ ((Own.sl (ks := ks) ho4 hs0).mono Z5.out) (Nat.le_refl _) (by omega)).mono ?_
  rintro e w6 ⟨o6, rfl, ho6, hb6⟩
  have Z6 := hid hb6.size
  replace HX := below_step HX hb6
  replace ho3 := ho3.below hb6 (Nat.le_trans Z4.out Z5.out)
  replace ho4 := ho4.below hb6 Z5.out
  obtain ⟨hcX, -⟩ := bcell HX
  go_wp2_with fail
  clear hcX
  refine (eqIntS_any  _ ((Own.si (zs := disI ks a0 a1 ks.length) ho6).mono (Nat.le_refl _)) ((Own.si (zs := disI ks a0 a1 ks.length) ho3).mono (Nat.le_trans Z4.out (Nat.le_trans Z5.out Z6.out))) (Nat.le_refl _)).mono ?_
  rintro e w7 ⟨rfl, hb7⟩
  have Z7 := hid hb7.size
  replace HX := below_step HX hb7
  replace ho3 := ho3.below hb7 (Nat.le_trans Z4.out (Nat.le_trans Z5.out Z6.out))
  replace ho4 := ho4.below hb7 (Nat.le_trans Z5.out Z6.out)
  replace ho6 := ho6.below hb7 (Nat.le_refl _)
  obtain ⟨hcX, -⟩ := bcell HX
  go_wp2_with fail
  clear hcX
  refine (toSpanS_any _ (s0.below HX (Nat.le_refl _)) hs0 HX.size (by omega)).mono ?_
  rintro e w8 ⟨o8, rfl, ho8, hb8⟩
  have Z8 := hid hb8.size
  replace HX := below_step HX hb8
  replace ho3 := ho3.below hb8 (Nat.le_trans Z4.out (Nat.le_trans Z5.out (Nat.le_trans Z6.out Z7.out)))
  replace ho4 := ho4.below hb8 (Nat.le_trans Z5.out (Nat.le_trans Z6.out Z7.out))
  replace ho6 := ho6.below hb8 Z7.out
  obtain ⟨hcX, -⟩ := bcell HX
  go_wp2_with fail
  clear hcX
  refine (eqSpanS_any  _ ((Own.sl (ks := ks) ho4 hs0).mono (Nat.le_trans Z5.out (Nat.le_trans Z6.out (Nat.le_trans Z7.out Z8.out)))) ((Own.sl (ks := ks) ho8 hs0).mono (Nat.le_refl _)) (Nat.le_refl _)).mono ?_
  rintro e w9 ⟨rfl, hb9⟩
  have Z9 := hid hb9.size
  replace HX := below_step HX hb9
  replace ho3 := ho3.below hb9 (Nat.le_trans Z4.out (Nat.le_trans Z5.out (Nat.le_trans Z6.out (Nat.le_trans Z7.out Z8.out))))
  replace ho4 := ho4.below hb9 (Nat.le_trans Z5.out (Nat.le_trans Z6.out (Nat.le_trans Z7.out Z8.out)))
  replace ho6 := ho6.below hb9 (Nat.le_trans Z7.out Z8.out)
  replace ho8 := ho8.below hb9 (Nat.le_refl _)
  clear ho8
  obtain ⟨hcX, -⟩ := bcell HX
  go_wp2_with fail
  clear hcX
  refine (markSpanS_apart _ _ (by omega) (by omega) (by omega) ho4).mono ?_
  rintro e w10 ⟨rfl, hom10, hb10, hap10⟩
  have Z10 := hid hb10.size
  replace HX := HX.trans (hb10.mono (Nat.le_trans Z1.out (Nat.le_trans Z2.out Z3.out)))
  replace ho3 := ho3.below hb10 (Nat.le_refl _)
  replace ho4 := hom10
  replace ho6 := ho6.apart hap10 Z5.out
  clear ho4
  obtain ⟨hcX, -⟩ := bcell HX
  go_wp2_with fail
  clear hcX
  refine (eqIntS_any  _ ((Own.si (zs := disI ks a0 a1 ks.length) ho6).mono (Nat.le_trans Z7.out (Nat.le_trans Z8.out (Nat.le_trans Z9.out Z10.out)))) ((Own.si (zs := disI ks a0 a1 ks.length) ho3).mono (Nat.le_trans Z4.out (Nat.le_trans Z5.out (Nat.le_trans Z6.out (Nat.le_trans Z7.out (Nat.le_trans Z8.out (Nat.le_trans Z9.out Z10.out))))))) (Nat.le_refl _)).mono ?_
  rintro e w11 ⟨rfl, hb11⟩
  have Z11 := hid hb11.size
  replace HX := below_step HX hb11
  replace ho3 := ho3.below hb11 (Nat.le_trans Z4.out (Nat.le_trans Z5.out (Nat.le_trans Z6.out (Nat.le_trans Z7.out (Nat.le_trans Z8.out (Nat.le_trans Z9.out Z10.out))))))
  replace ho6 := ho6.below hb11 (Nat.le_trans Z7.out (Nat.le_trans Z8.out (Nat.le_trans Z9.out Z10.out)))
  obtain ⟨hcX, -⟩ := bcell HX
  go_wp2_with fail
  clear hcX
  refine (markIntS_apart _ 1 (by omega) (by omega) (by omega) ho6).mono ?_
  rintro e w12 ⟨rfl, hom12, hb12, hap12⟩
  have Z12 := hid hb12.size
  replace HX := HX.trans (hb12.mono (Nat.le_trans Z1.out (Nat.le_trans Z2.out (Nat.le_trans Z3.out (Nat.le_trans Z4.out Z5.out)))))
  replace ho3 := ho3.below hb12 (Nat.le_trans Z4.out Z5.out)
  replace ho6 := hom12
  obtain ⟨hcX, -⟩ := bcell HX
  go_wp2_with fail
  clear hcX
  refine (heldIntS_any _ 1 (by omega) (by omega) (by omega) (Own.marks ho6)).mono ?_
  rintro e w' ⟨rfl, rfl⟩
  have HR : Hid (∀ w' : World, Below w12.heap.size w12 w' → (w'.cell? ⟨w.heap.size, 0, none⟩ = some (iv a0) ∧ w'.cell? ⟨w.heap.size, 1, none⟩ = some (iv a1) ∧ Below w12.heap.size w12 w')) := hid fun w' hx => ⟨((below_step HX hx).cell (p := ⟨w.heap.size, 0, none⟩) (by simp)).trans (by simp [go_sem]), ((below_step HX hx).cell (p := ⟨w.heap.size, 1, none⟩) (by simp)).trans (by simp [go_sem]), hx⟩
  go_wp2_with fail
  go_region_held3 (fun w' => w'.cell? ⟨w.heap.size, 0, none⟩ = some (iv a0) ∧ w'.cell? ⟨w.heap.size, 1, none⟩ = some (iv a1) ∧ Below w12.heap.size w12 w') (first | with_reducible exact HR.out _ (Below.refl w12.heap.size w12).drew | with_reducible exact HR.out _ HZ13.out | with_reducible exact HR.out _ HZ14.out | with_reducible exact HR.out _ HZ15.out | go_keep)
    (first | (go_at_call 38; refine (toSpanS_any _ (s0.below (below_step HX (Below.refl w12.heap.size w12).drew) (Nat.le_refl _)) hs0 (Nat.le_trans HX.size (Below.refl w12.heap.size w12).drew.size) (by omega)).mono ?_; rintro e w13 ⟨o13, rfl, ho13, hb13⟩; have HZ13 := hid (below_step (Below.refl w12.heap.size w12).drew hb13); have t13 := (Own.sl (ks := ks) ho13 hs0)) | (go_at_call 58; refine (toSpan_any _ _ _).mono ?_; rintro e w14 ⟨rfl, hb14⟩; have HZ14 := hid (below_step HZ13.out hb14); have t13x14 := t13.step hb14) | (go_at_call 59; refine (implDisagreeingWith_any _ _ _ t13x14 (Nat.le_refl _) (by omega)).mono ?_; rintro e w15 ⟨o15, rfl, ho15, hb15⟩; have HZ15 := hid (below_step HZ14.out hb15)))
  have hbR15 := HZ15.out
  have Z13 : Hid (w12.heap.size ≤ w13.heap.size) := hid hb13.size
  have Z14 : Hid (w13.heap.size ≤ w14.heap.size) := hid hb14.size
  have Z15 : Hid (w14.heap.size ≤ w15.heap.size) := hid hb15.size
  replace HX := below_step HX hbR15
  replace ho3 := ho3.below hbR15 (Nat.le_trans Z4.out (Nat.le_trans Z5.out (Nat.le_trans Z6.out (Nat.le_trans Z7.out (Nat.le_trans Z8.out (Nat.le_trans Z9.out (Nat.le_trans Z10.out (Nat.le_trans Z11.out Z12.out))))))))
  replace ho6 := ho6.below hbR15 (Nat.le_trans Z7.out (Nat.le_trans Z8.out (Nat.le_trans Z9.out (Nat.le_trans Z10.out (Nat.le_trans Z11.out Z12.out)))))
  clear HR HZ13 HZ14 HZ15
  obtain ⟨hcX, -⟩ := bcell HX
  go_wp2_with fail
  clear hcX
  refine (eqIntS_any  _ ((Own.si (zs := disI ks a0 a1 ks.length) ho15).mono (Nat.le_refl _)) ((Own.si (zs := disI ks a0 a1 ks.length) ho3).mono (Nat.le_trans Z4.out (Nat.le_trans Z5.out (Nat.le_trans Z6.out (Nat.le_trans Z7.out (Nat.le_trans Z8.out (Nat.le_trans Z9.out (Nat.le_trans Z10.out (Nat.le_trans Z11.out (Nat.le_trans Z12.out (Nat.le_trans Z13.out (Nat.le_trans Z14.out Z15.out)))))))))))) (Nat.le_refl _)).mono ?_
  rintro e w16 ⟨rfl, hb16⟩
  have Z16 := hid hb16.size
  replace HX := below_step HX hb16
  replace ho3 := ho3.below hb16 (Nat.le_trans Z4.out (Nat.le_trans Z5.out (Nat.le_trans Z6.out (Nat.le_trans Z7.out (Nat.le_trans Z8.out (Nat.le_trans Z9.out (Nat.le_trans Z10.out (Nat.le_trans Z11.out (Nat.le_trans Z12.out (Nat.le_trans Z13.out (Nat.le_trans Z14.out Z15.out)))))))))))
  replace ho6 := ho6.below hb16 (Nat.le_trans Z7.out (Nat.le_trans Z8.out (Nat.le_trans Z9.out (Nat.le_trans Z10.out (Nat.le_trans Z11.out (Nat.le_trans Z12.out (Nat.le_trans Z13.out (Nat.le_trans Z14.out Z15.out))))))))
  replace ho15 := ho15.below hb16 (Nat.le_refl _)
  obtain ⟨hcX, -⟩ := bcell HX
  go_wp2_with fail
  clear hcX
  refine (heldIntS_any _ 1 (by omega) (by omega) (by omega) (Own.marks ho6)).mono ?_
  rintro e w' ⟨rfl, rfl⟩
  go_wp2
  go_ret
  exact ⟨rfl, below_step HH.out HX⟩

set_option maxRecDepth 100000 in
theorem lawDisagreeingWith_lifted (os : Os) (started : os.Started) (H : Type) (enc : TypeId × Value → H) :
    ReturnsInHanded {} Try.checked os 10 .any (Rows.fnExactDisagreeingWithSpec.pre6 enc Try.prog Try.f10 Rows.fnExactDisagreeingWithRow.domain false) (Rows.fnExactDisagreeingWithSpec.post enc Try.prog Try.f10 false true false false) := by
  refine returnsInHanded_of_change (C := Try.checked) Try.own started (by kernel_rfl) Try.func10
    (ChangeSpec.witness6 (enc := enc) (C := Try.checked) false ⟨#[], #[.slice none 0 0, .agg #[.int .i64 0, .int .i64 0]], []⟩ 8 (by kernel_rfl) (by kernel_rfl) (by kernel_rfl) (by kernel_rfl)) ?_
  intro W base args ds gs before hval0 hW hcnd _
  have hval : ∀ (j : Nat) t v, Try.f10.params[j]? = some t → args[j]? = some v → Value.okWide Try.prog W .any base t v := hval0
  have hW' := hW
  obtain ⟨p, q, hA0, hV, rfl, hfz, hnd⟩ := hW
  have hA : DataW.TrodAll enc Try.prog W 0 (fun _ => true) true Try.f10.params.toList args.toList ds p := hA0
  rw [Try.params10] at hA hval
  obtain ⟨v0, v1, d0, d1, p0, p1, rfl, rfl, rfl, h0, h1⟩ := trodAll_two hA
  obtain ⟨rfl, rfl⟩ := trodVars_none hV
  obtain ⟨ks, s0, hs0, -⟩ := open_rows Try.underlying52 Try.underlying84 (by kernel_rfl) (N := 2) (by kernel_rfl) (by kernel_rfl) (by decide) Try.underlying3 (by kernel_rfl) (hval 0 52 v0 rfl rfl) h0
  obtain ⟨zs1, hlen1, rfl, -⟩ := open_ints_agg Try.underlying84 (by kernel_rfl) (N := 2) (by kernel_rfl) (by kernel_rfl) Try.underlying3 (by kernel_rfl) (hval 1 84 v1 rfl rfl) h1
  obtain ⟨a0, a1, rfl⟩ := list2 hlen1
  refine (lawDisagreeingWith_any a0 a1 W s0 hs0).mono fun e W' ⟨he, hb⟩ => ?_
  subst he
  exact ⟨_, rfl, post_true hW' rfl Try.laidOut (by kernel_rfl) rfl Try.underlying4 rfl hb⟩

theorem lawDisagreeingWith_holds : Rows.FnExactDisagreeingWithSaid :=
  OpenClaim.holds_of_wide 10 Try.f10 rfl rfl rfl rfl rfl rfl rfl ⟨rfl, rfl, rfl, rfl, rfl⟩ rfl rfl rfl rfl rfl (by kernel_rfl) Try.func10 (by kernel_rfl)
    (of_decide_eq_true (by kernel_rfl)) (by unfold Func.isWrapper; first | (rw [if_pos (by decide +kernel)]; kernel_rfl) | (rw [if_neg (by decide +kernel)]; exact ⟨rfl, rfl⟩))
    (fun os started H enc _ => lawDisagreeingWith_lifted os started H enc)
end Go.Proofs.Ytcfealjfanoegaa
