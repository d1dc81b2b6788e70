/- The law FnExactKeysOf is true of every input: the program's KeysOf and the reference's return the same, and leave their arguments as they were. No condition. -/
import Derived.Test.YtcfealjfanoegaaRows
import Derived.Test.YtcfealjfanoegaaBase
import Derived.Test.YtcfealjfanoegaaOpen
import Derived.Test.YtcfealjfanoegaaPlain
import Derived.Test.YtcfealjfanoegaaApart
import Derived.Test.YtcfealjfanoegaaHelpI
import Derived.Test.YtcfealjfanoegaaHelpKey
import Derived.Test.YtcfealjfanoegaaMkKey
import Derived.Test.YtcfealjfanoegaaMkInt
import Derived.Test.YtcfealjfanoegaaKeysOf
namespace Go.Proofs.Ytcfealjfanoegaa
open Go.ChangeShapes Go.WideShapes Go.ChangeAt Go.RowKit Go.Deep

set_option maxRecDepth 8000 in
set_option maxHeartbeats 4000000 in
theorem lawKeysOf_any {ks : List (List Int)} {v0 : Value} (n : Int) (w : World) (s0 : Sl w.heap.size w 5 v0 ks) (hs0 : ∀ r ∈ ks, r.length = 5) :
    Calls Try.prog 7 #[v0, iv n] w (Ret (.bool true) w) := by
  obtain ⟨A0, c0, rfl, hca0, hcb0, -⟩ := id s0
  have H0 : Below w.heap.size w w := Below.refl _ _
  by_cases hl0 : ks.length ≤ 1048576
  rotate_left
  · have HH := hid H0
    clear H0
    go_enter Try.func7, Try.ntmps7
    have HX : Below w.heap.size w w := Below.refl _ _
    go_wp2_with fail
    refine (szKeyS_no _ _ (by omega) (by omega) (by omega) (by omega)).mono ?_
    rintro e w' ⟨rfl, rfl⟩
    go_wp2
    go_ret
    exact ⟨rfl, below_step HH.out HX⟩
  go_enter Try.func7, Try.ntmps7
  replace s0 := s0.step H0
  have HH := hid H0
  clear H0
  have HX : Below w.heap.size w w := Below.refl _ _
  go_wp2_with fail
  refine (szKeyS_ok _ _ (by omega) (by omega) (by omega)).mono ?_
  rintro e w' ⟨rfl, rfl⟩
  have hle := keysI_le ks n ks.length
  go_wp2_with fail
  refine (toKeyS_any _ (s0.below HX (Nat.le_refl _)) hs0 HX.size (by omega)).mono ?_
  rintro e w1 ⟨o1, rfl, ho1, hb1⟩
  have Z1 := hid hb1.size
  replace HX := below_step HX hb1
  go_wp2_with fail
  refine (specKeysOf_any _ _ ((Own.sl (ks := ks) ho1 hs0).mono (Nat.le_refl _)) (Nat.le_refl _) (by omega)).mono ?_
  rintro e w2 ⟨o2, rfl, ho2, hb2⟩
  have Z2 := hid hb2.size
  replace HX := below_step HX hb2
  replace ho1 := ho1.below hb2 (Nat.le_refl _)
  clear ho1
  go_wp2_with fail
  refine (toKeyS_any _ (s0.below HX (Nat.le_refl _)) hs0 HX.size (by omega)).mono ?_
  rintro e w3 ⟨o3, rfl, ho3, hb3⟩
  have Z3 := hid hb3.size
  replace HX := below_step HX hb3
  replace ho2 := ho2.below hb3 (Nat.le_refl _)
  go_wp2_with fail
  refine (implKeysOf_any _ _ ((Own.sl (ks := ks) ho3 hs0).mono (Nat.le_refl _)) (Nat.le_refl _) (by omega)).mono ?_
  rintro e w4 ⟨o4, rfl, ho4, hb4⟩
  have Z4 := hid hb4.size
  replace HX := below_step HX hb4
  replace ho2 := ho2.below hb4 Z3.out
  replace ho3 := ho3.below hb4 (Nat.le_refl _)
  go_wp2_with fail
  refine (eqIntS_any  _ ((Own.si (zs := keysI ks n ks.length) ho4).mono (Nat.le_refl _)) ((Own.si (zs := keysI ks n ks.length) ho2).mono (Nat.le_trans Z3.out Z4.out)) (Nat.le_refl _)).mono ?_
  rintro e w5 ⟨rfl, hb5⟩
  have Z5 := hid hb5.size
  replace HX := below_step HX hb5
  replace ho2 := ho2.below hb5 (Nat.le_trans Z3.out Z4.out)
  replace ho3 := ho3.below hb5 Z4.out
  replace ho4 := ho4.below hb5 (Nat.le_refl _)
  go_wp2_with fail
  refine (toKeyS_any _ (s0.below HX (Nat.le_refl _)) hs0 HX.size (by omega)).mono ?_
  rintro e w6 ⟨o6, rfl, ho6, hb6⟩
  have Z6 := hid hb6.size
  replace HX := below_step HX hb6
  replace ho2 := ho2.below hb6 (Nat.le_trans Z3.out (Nat.le_trans Z4.out Z5.out))
  replace ho3 := ho3.below hb6 (Nat.le_trans Z4.out Z5.out)
  replace ho4 := ho4.below hb6 Z5.out
  go_wp2_with fail
  refine (eqKeyS_any  _ ((Own.sl (ks := ks) ho3 hs0).mono (Nat.le_trans Z4.out (Nat.le_trans Z5.out Z6.out))) ((Own.sl (ks := ks) ho6 hs0).mono (Nat.le_refl _)) (Nat.le_refl _)).mono ?_
  rintro e w7 ⟨rfl, hb7⟩
  have Z7 := hid hb7.size
  replace HX := below_step HX hb7
  replace ho2 := ho2.below hb7 (Nat.le_trans Z3.out (Nat.le_trans Z4.out (Nat.le_trans Z5.out Z6.out)))
  replace ho3 := ho3.below hb7 (Nat.le_trans Z4.out (Nat.le_trans Z5.out Z6.out))
  replace ho4 := ho4.below hb7 (Nat.le_trans Z5.out Z6.out)
  replace ho6 := ho6.below hb7 (Nat.le_refl _)
  clear ho6
  go_wp2_with fail
  refine (markKeyS_apart _ _ (by omega) (by omega) (by omega) ho3).mono ?_
  rintro e w8 ⟨rfl, hom8, hb8, hap8⟩
  have Z8 := hid hb8.size
  replace HX := HX.trans (hb8.mono (Nat.le_trans Z1.out Z2.out))
  replace ho2 := ho2.below hb8 (Nat.le_refl _)
  replace ho3 := hom8
  replace ho4 := ho4.apart hap8 (Nat.le_refl _)
  clear ho3
  go_wp2_with fail
  refine (eqIntS_any  _ ((Own.si (zs := keysI ks n ks.length) ho4).mono (Nat.le_trans Z5.out (Nat.le_trans Z6.out (Nat.le_trans Z7.out Z8.out)))) ((Own.si (zs := keysI ks n ks.length) ho2).mono (Nat.le_trans Z3.out (Nat.le_trans Z4.out (Nat.le_trans Z5.out (Nat.le_trans Z6.out (Nat.le_trans Z7.out Z8.out)))))) (Nat.le_refl _)).mono ?_
  rintro e w9 ⟨rfl, hb9⟩
  have Z9 := hid hb9.size
  replace HX := below_step HX hb9
  replace ho2 := ho2.below hb9 (Nat.le_trans Z3.out (Nat.le_trans Z4.out (Nat.le_trans Z5.out (Nat.le_trans Z6.out (Nat.le_trans Z7.out Z8.out)))))
  replace ho4 := ho4.below hb9 (Nat.le_trans Z5.out (Nat.le_trans Z6.out (Nat.le_trans Z7.out Z8.out)))
  go_wp2_with fail
  refine (markIntS_apart _ 1 (by omega) (by omega) (by omega) ho4).mono ?_
  rintro e w10 ⟨rfl, hom10, hb10, hap10⟩
  have Z10 := hid hb10.size
  replace HX := HX.trans (hb10.mono (Nat.le_trans Z1.out (Nat.le_trans Z2.out Z3.out)))
  replace ho2 := ho2.below hb10 Z3.out
  replace ho4 := hom10
  go_wp2_with fail
  refine (heldIntS_any _ 1 (by omega) (by omega) (by omega) (Own.marks ho4)).mono ?_
  rintro e w' ⟨rfl, rfl⟩
  go_wp2_with fail
  refine (toKeyS_any _ (s0.below HX (Nat.le_refl _)) hs0 HX.size (by omega)).mono ?_
  rintro e w11 ⟨o11, rfl, ho11, hb11⟩
  have Z11 := hid hb11.size
  replace HX := below_step HX hb11
  replace ho2 := ho2.below hb11 (Nat.le_trans Z3.out (Nat.le_trans Z4.out (Nat.le_trans Z5.out (Nat.le_trans Z6.out (Nat.le_trans Z7.out (Nat.le_trans Z8.out (Nat.le_trans Z9.out Z10.out)))))))
  replace ho4 := ho4.below hb11 (Nat.le_trans Z5.out (Nat.le_trans Z6.out (Nat.le_trans Z7.out (Nat.le_trans Z8.out (Nat.le_trans Z9.out Z10.out)))))
  go_wp2_with fail
  refine (implKeysOf_any _ _ ((Own.sl (ks := ks) ho11 hs0).mono (Nat.le_refl _)) (Nat.le_refl _) (by omega)).mono ?_
  rintro e w12 ⟨o12, rfl, ho12, hb12⟩
  have Z12 := hid hb12.size
  replace HX := below_step HX hb12
  replace ho2 := ho2.below hb12 (Nat.le_trans Z3.out (Nat.le_trans Z4.out (Nat.le_trans Z5.out (Nat.le_trans Z6.out (Nat.le_trans Z7.out (Nat.le_trans Z8.out (Nat.le_trans Z9.out (Nat.le_trans Z10.out Z11.out))))))))
  replace ho4 := ho4.below hb12 (Nat.le_trans Z5.out (Nat.le_trans Z6.out (Nat.le_trans Z7.out (Nat.le_trans Z8.out (Nat.le_trans Z9.out (Nat.le_trans Z10.out Z11.out))))))
  replace ho11 := ho11.below hb12 (Nat.le_refl _)
  clear ho11
  go_wp2_with fail
  refine (eqIntS_any  _ ((Own.si (zs := keysI ks n ks.length) ho12).mono (Nat.le_refl _)) ((Own.si (zs := keysI ks n ks.length) ho2).mono (Nat.le_trans Z3.out (Nat.le_trans Z4.out (Nat.le_trans Z5.out (Nat.le_trans Z6.out (Nat.le_trans Z7.out (Nat.le_trans Z8.out (Nat.le_trans Z9.out (Nat.le_trans Z10.out (Nat.le_trans Z11.out Z12.out)))))))))) (Nat.le_refl _)).mono ?_
  rintro e w13 ⟨rfl, hb13⟩
  have Z13 := hid hb13.size
  replace HX := below_step HX hb13
  replace ho2 := ho2.below hb13 (Nat.le_trans Z3.out (Nat.le_trans Z4.out (Nat.le_trans Z5.out (Nat.le_trans Z6.out (Nat.le_trans Z7.out (Nat.le_trans Z8.out (Nat.le_trans Z9.out (Nat.le_trans Z10.out (Nat.le_trans Z11.out Z12.out)))))))))
  replace ho4 := ho4.below hb13 (Nat.le_trans Z5.out (Nat.le_trans Z6.out (Nat.le_trans Z7.out (Nat.le_trans Z8.out (Nat.le_trans Z9.out (Nat.le_trans Z10.out (Nat.le_trans Z11.out Z12.out)))))))
  replace ho12 := ho12.below hb13 (Nat.le_refl _)
  go_wp2_with fail
  refine (heldIntS_any _ 1 (by omega) (by omega) (by omega) (Own.marks ho4)).mono ?_
  rintro e w' ⟨rfl, rfl⟩
  go_wp2
  go_ret
  exact ⟨rfl, below_step HH.out HX⟩

set_option maxRecDepth 100000 in
theorem lawKeysOf_lifted (os : Os) (started : os.Started) (H : Type) (enc : TypeId × Value → H) :
    ReturnsInHanded {} Try.checked os 7 .any (Rows.fnExactKeysOfSpec.pre6 enc Try.prog Try.f7 Rows.fnExactKeysOfRow.domain false) (Rows.fnExactKeysOfSpec.post enc Try.prog Try.f7 false true false false) := by
  refine returnsInHanded_of_change (C := Try.checked) Try.own started (by kernel_rfl) Try.func7
    (ChangeSpec.witness6 (enc := enc) (C := Try.checked) false ⟨#[], #[.slice none 0 0, .int .i64 0], []⟩ 8 (by kernel_rfl) (by kernel_rfl) (by kernel_rfl) (by kernel_rfl)) ?_
  intro W base args ds gs before hval0 hW hcnd _
  have hval : ∀ (j : Nat) t v, Try.f7.params[j]? = some t → args[j]? = some v → Value.okWide Try.prog W .any base t v := hval0
  have hW' := hW
  obtain ⟨p, q, hA0, hV, rfl, hfz, hnd⟩ := hW
  have hA : DataW.TrodAll enc Try.prog W 0 (fun _ => true) true Try.f7.params.toList args.toList ds p := hA0
  rw [Try.params7] at hA hval
  obtain ⟨v0, v1, d0, d1, p0, p1, rfl, rfl, rfl, h0, h1⟩ := trodAll_two hA
  obtain ⟨rfl, rfl⟩ := trodVars_none hV
  obtain ⟨ks, s0, hs0, -⟩ := open_rows Try.underlying28 Try.underlying115 (by kernel_rfl) (N := 5) (by kernel_rfl) (by kernel_rfl) (by decide) Try.underlying3 (by kernel_rfl) (hval 0 28 v0 rfl rfl) h0
  obtain ⟨n, rfl, rfl, rfl, -⟩ := open_int Try.underlying3 (hval 1 3 v1 rfl rfl) h1
  refine (lawKeysOf_any n W s0 hs0).mono fun e W' ⟨he, hb⟩ => ?_
  subst he
  exact ⟨_, rfl, post_true hW' rfl Try.laidOut (by kernel_rfl) rfl Try.underlying4 rfl hb⟩

theorem lawKeysOf_holds : Rows.FnExactKeysOfSaid :=
  OpenClaim.holds_of_wide 7 Try.f7 rfl rfl rfl rfl rfl rfl rfl ⟨rfl, rfl, rfl, rfl, rfl⟩ rfl rfl rfl rfl rfl (by kernel_rfl) Try.func7 (by kernel_rfl)
    (of_decide_eq_true (by kernel_rfl)) (by unfold Func.isWrapper; first | (rw [if_pos (by decide +kernel)]; kernel_rfl) | (rw [if_neg (by decide +kernel)]; exact ⟨rfl, rfl⟩))
    (fun os started H enc _ => lawKeysOf_lifted os started H enc)
end Go.Proofs.Ytcfealjfanoegaa
