/- The law FnExactMandateSpans is true of every input: the program's MandateSpans and the reference's return the same, and leave their arguments as they were. No condition. -/
import Derived.Test.YtcfealjfanoegaaRows
import Derived.Test.YtcfealjfanoegaaBase
import Derived.Test.YtcfealjfanoegaaOpen
import Derived.Test.YtcfealjfanoegaaPlain
import Derived.Test.YtcfealjfanoegaaApart
import Derived.Test.YtcfealjfanoegaaHelpKey
import Derived.Test.YtcfealjfanoegaaHelpMandate
import Derived.Test.YtcfealjfanoegaaHelpSpan
import Derived.Test.YtcfealjfanoegaaMkKey
import Derived.Test.YtcfealjfanoegaaMkMandate
import Derived.Test.YtcfealjfanoegaaMkSpan
import Derived.Test.YtcfealjfanoegaaHeldSpan
import Derived.Test.YtcfealjfanoegaaMandSpans
namespace Go.Proofs.Ytcfealjfanoegaa
open Go.ChangeShapes Go.WideShapes Go.ChangeAt Go.RowKit Go.Deep

set_option maxRecDepth 8000 in
set_option maxHeartbeats 8000000 in
theorem lawMandateSpans_any {ks : List (List Int)} {v0 : Value} {ls : List (List Int)} {v1 : Value} (o : Int) (p : Int) (w : World) (s0 : Sl w.heap.size w 5 v0 ks) (hs0 : ∀ r ∈ ks, r.length = 5) (s1 : Sl w.heap.size w 6 v1 ls) (hs1 : ∀ r ∈ ls, r.length = 6) :
    Calls Try.prog 4 #[v0, v1, iv o, iv p] w (Ret (.bool true) w) := by
  obtain ⟨A0, c0, rfl, hca0, hcb0, -⟩ := id s0
  obtain ⟨A1, c1, rfl, hca1, hcb1, -⟩ := id s1
  have H0 : Below w.heap.size w w := Below.refl _ _
  by_cases hl0 : ks.length ≤ 1048576
  rotate_left
  · have HH := hid H0
    clear H0
    go_enter Try.func4, Try.ntmps4
    have HX : Below w.heap.size w w := Below.refl _ _
    go_wp2_with fail
    refine (szKeyS_no _ _ (by omega) (by omega) (by omega) (by omega)).mono ?_
    rintro e w' ⟨rfl, rfl⟩
    go_wp2
    go_ret
    exact ⟨rfl, below_step HH.out HX⟩
  by_cases hl1 : ks.length + ls.length ≤ 1048576
  rotate_left
  · have HH := hid H0
    clear H0
    go_enter Try.func4, Try.ntmps4
    have HX : Below w.heap.size w w := Below.refl _ _
    go_wp2_with fail
    refine (szKeyS_ok _ _ (by omega) (by omega) (by omega)).mono ?_
    rintro e w' ⟨rfl, rfl⟩
    go_wp2_with fail
    refine (szMandateS_no _ _ (by omega) (by omega) (by omega) (by omega)).mono ?_
    rintro e w' ⟨rfl, rfl⟩
    go_wp2
    go_ret
    exact ⟨rfl, below_step HH.out HX⟩
  go_enter Try.func4, Try.ntmps4
  replace s0 := s0.step H0
  replace s1 := s1.step H0
  have HH := hid H0
  clear H0
  have HX : Below w.heap.size w w := Below.refl _ _
  go_wp2_with fail
  refine (szKeyS_ok _ _ (by omega) (by omega) (by omega)).mono ?_
  rintro e w' ⟨rfl, rfl⟩
  go_wp2_with fail
  refine (szMandateS_ok _ _ (by omega) (by omega) (by omega)).mono ?_
  rintro e w' ⟨rfl, rfl⟩
  have hle := (manS_facts ks ls o p).2
  go_wp2_with fail
  refine (toKeyS_any _ (s0.below HX (Nat.le_refl _)) hs0 HX.size (by omega)).mono ?_
  rintro e w1 ⟨o1, rfl, ho1, hb1⟩
  have Z1 := hid hb1.size
  replace HX := below_step HX hb1
  go_wp2_with fail
  refine (toMandateS_any _ (s1.below HX (Nat.le_refl _)) hs1 HX.size (by omega)).mono ?_
  rintro e w2 ⟨o2, rfl, ho2, hb2⟩
  have Z2 := hid hb2.size
  replace HX := below_step HX hb2
  replace ho1 := ho1.below hb2 (Nat.le_refl _)
  go_wp2_with fail
  refine (specMandateSpans_any _ _ _ ((Own.sl (ks := ks) ho1 hs0).mono Z2.out) ((Own.sl (ks := ls) ho2 hs1).mono (Nat.le_refl _)) (Nat.le_refl _) (by omega)).mono ?_
  rintro e w3 ⟨o3, rfl, ho3, hb3⟩
  have Z3 := hid hb3.size
  replace HX := below_step HX hb3
  replace ho1 := ho1.below hb3 Z2.out
  replace ho2 := ho2.below hb3 (Nat.le_refl _)
  clear ho1
  clear ho2
  go_wp2_with fail
  refine (toKeyS_any _ (s0.below HX (Nat.le_refl _)) hs0 HX.size (by omega)).mono ?_
  rintro e w4 ⟨o4, rfl, ho4, hb4⟩
  have Z4 := hid hb4.size
  replace HX := below_step HX hb4
  replace ho3 := ho3.below hb4 (Nat.le_refl _)
  go_wp2_with fail
  refine (toMandateS_any _ (s1.below HX (Nat.le_refl _)) hs1 HX.size (by omega)).mono ?_
  rintro e w5 ⟨o5, rfl, ho5, hb5⟩
  have Z5 := hid hb5.size
  replace HX := below_step HX hb5
  replace ho3 := ho3.below hb5 Z4.out
  replace ho4 := ho4.below hb5 (Nat.le_refl _)
  go_wp2_with fail
  refine (implMandateSpans_any _ _ _ ((Own.sl (ks := ks) ho4 hs0).mono Z5.out) ((Own.sl (ks := ls) ho5 hs1).mono (Nat.le_refl _)) (Nat.le_refl _) (by omega)).mono ?_
  rintro e w6 ⟨o6, rfl, ho6, hb6⟩
  have Z6 := hid hb6.size
  replace HX := below_step HX hb6
  replace ho3 := ho3.below hb6 (Nat.le_trans Z4.out Z5.out)
  replace ho4 := ho4.below hb6 Z5.out
  replace ho5 := ho5.below hb6 (Nat.le_refl _)
  go_wp2_with fail
  refine (eqSpanS_any  _ ((Own.sl (ks := manS ks ls o p) ho6 (manS_facts ks ls o p).1).mono (Nat.le_refl _)) ((Own.sl (ks := manS ks ls o p) ho3 (manS_facts ks ls o p).1).mono (Nat.le_trans Z4.out (Nat.le_trans Z5.out Z6.out))) (Nat.le_refl _)).mono ?_
  rintro e w7 ⟨rfl, hb7⟩
  have Z7 := hid hb7.size
  replace HX := below_step HX hb7
  replace ho3 := ho3.below hb7 (Nat.le_trans Z4.out (Nat.le_trans Z5.out Z6.out))
  replace ho4 := ho4.below hb7 (Nat.le_trans Z5.out Z6.out)
  replace ho5 := ho5.below hb7 Z6.out
  replace ho6 := ho6.below hb7 (Nat.le_refl _)
  go_wp2_with fail
  refine (toKeyS_any _ (s0.below HX (Nat.le_refl _)) hs0 HX.size (by omega)).mono ?_
  rintro e w8 ⟨o8, rfl, ho8, hb8⟩
  have Z8 := hid hb8.size
  replace HX := below_step HX hb8
  replace ho3 := ho3.below hb8 (Nat.le_trans Z4.out (Nat.le_trans Z5.out (Nat.le_trans Z6.out Z7.out)))
  replace ho4 := ho4.below hb8 (Nat.le_trans Z5.out (Nat.le_trans Z6.out Z7.out))
  replace ho5 := ho5.below hb8 (Nat.le_trans Z6.out Z7.out)
  replace ho6 := ho6.below hb8 Z7.out
  go_wp2_with fail
  refine (eqKeyS_any  _ ((Own.sl (ks := ks) ho4 hs0).mono (Nat.le_trans Z5.out (Nat.le_trans Z6.out (Nat.le_trans Z7.out Z8.out)))) ((Own.sl (ks := ks) ho8 hs0).mono (Nat.le_refl _)) (Nat.le_refl _)).mono ?_
  rintro e w9 ⟨rfl, hb9⟩
  have Z9 := hid hb9.size
  replace HX := below_step HX hb9
  replace ho3 := ho3.below hb9 (Nat.le_trans Z4.out (Nat.le_trans Z5.out (Nat.le_trans Z6.out (Nat.le_trans Z7.out Z8.out))))
  replace ho4 := ho4.below hb9 (Nat.le_trans Z5.out (Nat.le_trans Z6.out (Nat.le_trans Z7.out Z8.out)))
  replace ho5 := ho5.below hb9 (Nat.le_trans Z6.out (Nat.le_trans Z7.out Z8.out))
  replace ho6 := ho6.below hb9 (Nat.le_trans Z7.out Z8.out)
  replace ho8 := ho8.below hb9 (Nat.le_refl _)
  clear ho8
  go_wp2_with fail
  refine (toMandateS_any _ (s1.below HX (Nat.le_refl _)) hs1 HX.size (by omega)).mono ?_
  rintro e w10 ⟨o10, rfl, ho10, hb10⟩
  have Z10 := hid hb10.size
  replace HX := below_step HX hb10
  replace ho3 := ho3.below hb10 (Nat.le_trans Z4.out (Nat.le_trans Z5.out (Nat.le_trans Z6.out (Nat.le_trans Z7.out (Nat.le_trans Z8.out Z9.out)))))
  replace ho4 := ho4.below hb10 (Nat.le_trans Z5.out (Nat.le_trans Z6.out (Nat.le_trans Z7.out (Nat.le_trans Z8.out Z9.out))))
  replace ho5 := ho5.below hb10 (Nat.le_trans Z6.out (Nat.le_trans Z7.out (Nat.le_trans Z8.out Z9.out)))
  replace ho6 := ho6.below hb10 (Nat.le_trans Z7.out (Nat.le_trans Z8.out Z9.out))
  go_wp2_with fail
  refine (eqMandateS_any  _ ((Own.sl (ks := ls) ho5 hs1).mono (Nat.le_trans Z6.out (Nat.le_trans Z7.out (Nat.le_trans Z8.out (Nat.le_trans Z9.out Z10.out))))) ((Own.sl (ks := ls) ho10 hs1).mono (Nat.le_refl _)) (Nat.le_refl _)).mono ?_
  rintro e w11 ⟨rfl, hb11⟩
  have Z11 := hid hb11.size
  replace HX := below_step HX hb11
  replace ho3 := ho3.below hb11 (Nat.le_trans Z4.out (Nat.le_trans Z5.out (Nat.le_trans Z6.out (Nat.le_trans Z7.out (Nat.le_trans Z8.out (Nat.le_trans Z9.out Z10.out))))))
  replace ho4 := ho4.below hb11 (Nat.le_trans Z5.out (Nat.le_trans Z6.out (Nat.le_trans Z7.out (Nat.le_trans Z8.out (Nat.le_trans Z9.out Z10.out)))))
  replace ho5 := ho5.below hb11 (Nat.le_trans Z6.out (Nat.le_trans Z7.out (Nat.le_trans Z8.out (Nat.le_trans Z9.out Z10.out))))
  replace ho6 := ho6.below hb11 (Nat.le_trans Z7.out (Nat.le_trans Z8.out (Nat.le_trans Z9.out Z10.out)))
  replace ho10 := ho10.below hb11 (Nat.le_refl _)
  clear ho10
  go_wp2_with fail
  refine (markKeyS_apart _ _ (by omega) (by omega) (by omega) ho4).mono ?_
  rintro e w12 ⟨rfl, hom12, hb12, hap12⟩
  have Z12 := hid hb12.size
  replace HX := HX.trans (hb12.mono (Nat.le_trans Z1.out (Nat.le_trans Z2.out Z3.out)))
  replace ho3 := ho3.below hb12 (Nat.le_refl _)
  replace ho4 := hom12
  replace ho5 := ho5.kept hap12.kept (Nat.le_refl _) (Nat.le_trans Z6.out (Nat.le_trans Z7.out (Nat.le_trans Z8.out (Nat.le_trans Z9.out (Nat.le_trans Z10.out Z11.out)))))
  replace ho6 := ho6.kept hap12.kept Z5.out (Nat.le_trans Z7.out (Nat.le_trans Z8.out (Nat.le_trans Z9.out (Nat.le_trans Z10.out Z11.out))))
  go_wp2_with fail
  refine (markMandateS_apart _ _ (by omega) (by omega) (by omega) ho5).mono ?_
  rintro e w13 ⟨rfl, hom13, hb13, hap13⟩
  have Z13 := hid hb13.size
  replace HX := HX.trans (hb13.mono (Nat.le_trans Z1.out (Nat.le_trans Z2.out (Nat.le_trans Z3.out Z4.out))))
  replace ho3 := ho3.below hb13 Z4.out
  replace ho4 := ho4.below hb13 (Nat.le_refl _)
  replace ho5 := hom13
  replace ho6 := ho6.kept hap13.kept (Nat.le_refl _) (Nat.le_trans Z7.out (Nat.le_trans Z8.out (Nat.le_trans Z9.out (Nat.le_trans Z10.out (Nat.le_trans Z11.out Z12.out)))))
  clear ho4
  clear ho5
  go_wp2_with fail
  refine (eqSpanS_any  _ ((Own.sl (ks := manS ks ls o p) ho6 (manS_facts ks ls o p).1).mono (Nat.le_trans Z7.out (Nat.le_trans Z8.out (Nat.le_trans Z9.out (Nat.le_trans Z10.out (Nat.le_trans Z11.out (Nat.le_trans Z12.out Z13.out))))))) ((Own.sl (ks := manS ks ls o p) ho3 (manS_facts ks ls o p).1).mono (Nat.le_trans Z4.out (Nat.le_trans Z5.out (Nat.le_trans Z6.out (Nat.le_trans Z7.out (Nat.le_trans Z8.out (Nat.le_trans Z9.out (Nat.le_trans Z10.out (Nat.le_trans Z11.out (Nat.le_trans Z12.out Z13.out)))))))))) (Nat.le_refl _)).mono ?_
  rintro e w14 ⟨rfl, hb14⟩
  have Z14 := hid hb14.size
  replace HX := below_step HX hb14
  replace ho3 := ho3.below hb14 (Nat.le_trans Z4.out (Nat.le_trans Z5.out (Nat.le_trans Z6.out (Nat.le_trans Z7.out (Nat.le_trans Z8.out (Nat.le_trans Z9.out (Nat.le_trans Z10.out (Nat.le_trans Z11.out (Nat.le_trans Z12.out Z13.out)))))))))
  replace ho6 := ho6.below hb14 (Nat.le_trans Z7.out (Nat.le_trans Z8.out (Nat.le_trans Z9.out (Nat.le_trans Z10.out (Nat.le_trans Z11.out (Nat.le_trans Z12.out Z13.out))))))
  go_wp2_with fail
  refine (markSpanS_apart _ 1 (by omega) (by omega) (by omega) ho6).mono ?_
  rintro e w15 ⟨rfl, hom15, hb15, hap15⟩
  have Z15 := hid hb15.size
  replace HX := HX.trans (hb15.mono (Nat.le_trans Z1.out (Nat.le_trans Z2.out (Nat.le_trans Z3.out (Nat.le_trans Z4.out Z5.out)))))
  replace ho3 := ho3.below hb15 (Nat.le_trans Z4.out Z5.out)
  replace ho6 := hom15
  go_wp2_with fail
  refine (heldSpanS_any _ 1 (by omega) (by omega) (by omega) ho6).mono ?_
  rintro e w' ⟨rfl, rfl⟩
  go_wp2_with fail
  refine (toKeyS_any _ (s0.below HX (Nat.le_refl _)) hs0 HX.size (by omega)).mono ?_
  rintro e w16 ⟨o16, rfl, ho16, hb16⟩
  have Z16 := hid hb16.size
  replace HX := below_step HX hb16
  replace ho3 := ho3.below hb16 (Nat.le_trans Z4.out (Nat.le_trans Z5.out (Nat.le_trans Z6.out (Nat.le_trans Z7.out (Nat.le_trans Z8.out (Nat.le_trans Z9.out (Nat.le_trans Z10.out (Nat.le_trans Z11.out (Nat.le_trans Z12.out (Nat.le_trans Z13.out (Nat.le_trans Z14.out Z15.out)))))))))))
  replace ho6 := ho6.below hb16 (Nat.le_trans Z7.out (Nat.le_trans Z8.out (Nat.le_trans Z9.out (Nat.le_trans Z10.out (Nat.le_trans Z11.out (Nat.le_trans Z12.out (Nat.le_trans Z13.out (Nat.le_trans Z14.out Z15.out))))))))
  go_wp2_with fail
  refine (toMandateS_any _ (s1.below HX (Nat.le_refl _)) hs1 HX.size (by omega)).mono ?_
  rintro e w17 ⟨o17, rfl, ho17, hb17⟩
  have Z17 := hid hb17.size
  replace HX := below_step HX hb17
  replace ho3 := ho3.below hb17 (Nat.le_trans Z4.out (Nat.le_trans Z5.out (Nat.le_trans Z6.out (Nat.le_trans Z7.out (Nat.le_trans Z8.out (Nat.le_trans Z9.out (Nat.le_trans Z10.out (Nat.le_trans Z11.out (Nat.le_trans Z12.out (Nat.le_trans Z13.out (Nat.le_trans Z14.out (Nat.le_trans Z15.out Z16.out))))))))))))
  replace ho6 := ho6.below hb17 (Nat.le_trans Z7.out (Nat.le_trans Z8.out (Nat.le_trans Z9.out (Nat.le_trans Z10.out (Nat.le_trans Z11.out (Nat.le_trans Z12.out (Nat.le_trans Z13.out (Nat.le_trans Z14.out (Nat.le_trans Z15.out Z16.out)))))))))
  replace ho16 := ho16.below hb17 (Nat.le_refl _)
  go_wp2_with fail
  refine (implMandateSpans_any _ _ _ ((Own.sl (ks := ks) ho16 hs0).mono Z17.out) ((Own.sl (ks := ls) ho17 hs1).mono (Nat.le_refl _)) (Nat.le_refl _) (by omega)).mono ?_
  rintro e w18 ⟨o18, rfl, ho18, hb18⟩
  have Z18 := hid hb18.size
  replace HX := below_step HX hb18
  replace ho3 := ho3.below hb18 (Nat.le_trans Z4.out (Nat.le_trans Z5.out (Nat.le_trans Z6.out (Nat.le_trans Z7.out (Nat.le_trans Z8.out (Nat.le_trans Z9.out (Nat.le_trans Z10.out (Nat.le_trans Z11.out (Nat.le_trans Z12.out (Nat.le_trans Z13.out (Nat.le_trans Z14.out (Nat.le_trans Z15.out (Nat.le_trans Z16.out Z17.out)))))))))))))
  replace ho6 := ho6.below hb18 (Nat.le_trans Z7.out (Nat.le_trans Z8.out (Nat.le_trans Z9.out (Nat.le_trans Z10.out (Nat.le_trans Z11.out (Nat.le_trans Z12.out (Nat.le_trans Z13.out (Nat.le_trans Z14.out (Nat.le_trans Z15.out (Nat.le_trans Z16.out Z17.out))))))))))
  replace ho16 := ho16.below hb18 Z17.out
  replace ho17 := ho17.below hb18 (Nat.le_refl _)
  clear ho16
  clear ho17
  go_wp2_with fail
  refine (eqSpanS_any  _ ((Own.sl (ks := manS ks ls o p) ho18 (manS_facts ks ls o p).1).mono (Nat.le_refl _)) ((Own.sl (ks := manS ks ls o p) ho3 (manS_facts ks ls o p).1).mono (Nat.le_trans Z4.out (Nat.le_trans Z5.out (Nat.le_trans Z6.out (Nat.le_trans Z7.out (Nat.le_trans Z8.out (Nat.le_trans Z9.out (Nat.le_trans Z10.out (Nat.le_trans Z11.out (Nat.le_trans Z12.out (Nat.le_trans Z13.out (Nat.le_trans Z14.out (Nat.le_trans Z15.out (Nat.le_trans Z16.out (Nat.le_trans Z17.out Z18.out))))))))))))))) (Nat.le_refl _)).mono ?_
  rintro e w19 ⟨rfl, hb19⟩
  have Z19 := hid hb19.size
  replace HX := below_step HX hb19
  replace ho3 := ho3.below hb19 (Nat.le_trans Z4.out (Nat.le_trans Z5.out (Nat.le_trans Z6.out (Nat.le_trans Z7.out (Nat.le_trans Z8.out (Nat.le_trans Z9.out (Nat.le_trans Z10.out (Nat.le_trans Z11.out (Nat.le_trans Z12.out (Nat.le_trans Z13.out (Nat.le_trans Z14.out (Nat.le_trans Z15.out (Nat.le_trans Z16.out (Nat.le_trans Z17.out Z18.out))))))))))))))
  replace ho6 := ho6.below hb19 (Nat.le_trans Z7.out (Nat.le_trans Z8.out (Nat.le_trans Z9.out (Nat.le_trans Z10.out (Nat.le_trans Z11.out (Nat.le_trans Z12.out (Nat.le_trans Z13.out (Nat.le_trans Z14.out (Nat.le_trans Z15.out (Nat.le_trans Z16.out (Nat.le_trans Z17.out Z18.out)))))))))))
  replace ho18 := ho18.below hb19 (Nat.le_refl _)
  go_wp2_with fail
  refine (heldSpanS_any _ 1 (by omega) (by omega) (by omega) ho6).mono ?_
  rintro e w' ⟨rfl, rfl⟩
  go_wp2
  go_ret
  exact ⟨rfl, below_step HH.out HX⟩

set_option maxRecDepth 100000 in
theorem lawMandateSpans_lifted (os : Os) (started : os.Started) (H : Type) (enc : TypeId × Value → H) :
    ReturnsInHanded {} Try.checked os 4 .any (Rows.fnExactMandateSpansSpec.pre6 enc Try.prog Try.f4 Rows.fnExactMandateSpansRow.domain false) (Rows.fnExactMandateSpansSpec.post enc Try.prog Try.f4 false true false false) := by
  refine returnsInHanded_of_change (C := Try.checked) Try.own started (by kernel_rfl) Try.func4
    (ChangeSpec.witness6 (enc := enc) (C := Try.checked) false ⟨#[], #[.slice none 0 0, .slice none 0 0, .int .i64 0, .int .i64 0], []⟩ 8 (by kernel_rfl) (by kernel_rfl) (by kernel_rfl) (by kernel_rfl)) ?_
  intro W base args ds gs before hval0 hW hcnd _
  have hval : ∀ (j : Nat) t v, Try.f4.params[j]? = some t → args[j]? = some v → Value.okWide Try.prog W .any base t v := hval0
  have hW' := hW
  obtain ⟨p, q, hA0, hV, rfl, hfz, hnd⟩ := hW
  have hA : DataW.TrodAll enc Try.prog W 0 (fun _ => true) true Try.f4.params.toList args.toList ds p := hA0
  rw [Try.params4] at hA hval
  obtain ⟨v0, v1, v2, v3, d0, d1, d2, d3, p0, p1, p2, p3, rfl, rfl, rfl, h0, h1, h2, h3⟩ := trodAll_four hA
  obtain ⟨rfl, rfl⟩ := trodVars_none hV
  obtain ⟨ks, s0, hs0, -⟩ := open_rows Try.underlying28 Try.underlying115 (by kernel_rfl) (N := 5) (by kernel_rfl) (by kernel_rfl) (by decide) Try.underlying3 (by kernel_rfl) (hval 0 28 v0 rfl rfl) h0
  obtain ⟨ls, s1, hs1, -⟩ := open_rows Try.underlying29 Try.underlying117 (by kernel_rfl) (N := 6) (by kernel_rfl) (by kernel_rfl) (by decide) Try.underlying3 (by kernel_rfl) (hval 1 29 v1 rfl rfl) h1
  obtain ⟨o, rfl, rfl, rfl, -⟩ := open_int Try.underlying3 (hval 2 3 v2 rfl rfl) h2
  obtain ⟨p, rfl, rfl, rfl, -⟩ := open_int Try.underlying3 (hval 3 3 v3 rfl rfl) h3
  refine (lawMandateSpans_any o p W s0 hs0 s1 hs1).mono fun e W' ⟨he, hb⟩ => ?_
  subst he
  exact ⟨_, rfl, post_true hW' rfl Try.laidOut (by kernel_rfl) rfl Try.underlying4 rfl hb⟩

theorem lawMandateSpans_holds : Rows.FnExactMandateSpansSaid :=
  OpenClaim.holds_of_wide 4 Try.f4 rfl rfl rfl rfl rfl rfl rfl ⟨rfl, rfl, rfl, rfl, rfl⟩ rfl rfl rfl rfl rfl (by kernel_rfl) Try.func4 (by kernel_rfl)
    (of_decide_eq_true (by kernel_rfl)) (by unfold Func.isWrapper; first | (rw [if_pos (by decide +kernel)]; kernel_rfl) | (rw [if_neg (by decide +kernel)]; exact ⟨rfl, rfl⟩))
    (fun os started H enc _ => lawMandateSpans_lifted os started H enc)
end Go.Proofs.Ytcfealjfanoegaa
