/- The law FnExactStampsDigest is true of every input: the program's StampsDigest and the reference's return the same, and leave their arguments as they were. No condition. -/
import Derived.Test.YtcfealjfanoegaaRows
import Derived.Test.YtcfealjfanoegaaBase
import Derived.Test.YtcfealjfanoegaaOpen
import Derived.Test.YtcfealjfanoegaaPlain
import Derived.Test.YtcfealjfanoegaaHelpStamp
import Derived.Test.YtcfealjfanoegaaStampsDigest
namespace Go.Proofs.Ytcfealjfanoegaa
open Go.ChangeShapes Go.WideShapes Go.ChangeAt Go.RowKit Go.Deep

set_option maxHeartbeats 2000000 in
theorem lawStampsDigest_any (n : Int) {ks : List (List Int)} {v1 : Value} (w : World) (s1 : Sl w.heap.size w 5 v1 ks) (hs1 : ∀ r ∈ ks, r.length = 5) :
    Calls Try.prog 5 #[iv n, v1] w (Ret (.bool true) w) := by
  obtain ⟨A1, c1, rfl, hca1, hcb1, -⟩ := id s1
  have H0 : Below w.heap.size w w := Below.refl _ _
  by_cases hl1 : ks.length ≤ 1048576
  rotate_left
  · have HH := hid H0
    clear H0
    go_enter Try.func5, Try.ntmps5
    go_wp2_with fail
    refine (szStampS_no _ _ (by omega) (by omega) (by omega) (by omega)).mono ?_
    rintro e w' ⟨rfl, rfl⟩
    go_wp2
    go_ret
    exact ⟨rfl, HH.out⟩
  go_enter Try.func5, Try.ntmps5
  go_wp2_with fail
  refine (szStampS_ok _ _ (by omega) (by omega) (by omega)).mono ?_
  rintro e w' ⟨rfl, rfl⟩
  replace s1 := s1.step H0
  have HH := hid H0
  clear H0
  have HX : Below w.heap.size w w := Below.refl _ _
  go_wp2_with fail
  refine (toStampS_any _ (s1.below HX (Nat.le_refl _)) hs1 HX.size (by omega)).mono ?_
  rintro e w1 ⟨o1, rfl, ho1, hb1⟩
  replace HX := below_step HX hb1
  have t1 := (Own.sl ho1 hs1)
  go_wp2_with fail
  refine (specStampsDigest_any _ _ t1 (Nat.le_refl _) (by omega)).mono ?_
  rintro e w2 ⟨rfl, hb2⟩
  replace HX := below_step HX hb2
  replace t1 := t1.step hb2
  clear t1
  go_wp2_with fail
  refine (toStampS_any _ (s1.below HX (Nat.le_refl _)) hs1 HX.size (by omega)).mono ?_
  rintro e w3 ⟨o3, rfl, ho3, hb3⟩
  replace HX := below_step HX hb3
  have t3 := (Own.sl ho3 hs1)
  go_wp2_with fail
  refine (implStampsDigest_any _ _ t3 (Nat.le_refl _) (by omega)).mono ?_
  rintro e w4 ⟨rfl, hb4⟩
  replace HX := below_step HX hb4
  replace t3 := t3.step hb4
  go_wp2_with fail
  refine (toStampS_any _ (s1.below HX (Nat.le_refl _)) hs1 HX.size (by omega)).mono ?_
  rintro e w5 ⟨o5, rfl, ho5, hb5⟩
  replace HX := below_step HX hb5
  replace t3 := t3.step hb5
  have t5 := (Own.sl ho5 hs1)
  go_wp2_with fail
  refine (eqStampS_any _ t3 t5 (Nat.le_refl _)).mono ?_
  rintro e w6 ⟨rfl, hb6⟩
  replace HX := below_step HX hb6
  replace t3 := t3.step hb6
  replace t5 := t5.step hb6
  clear t5
  go_wp2
  go_ret
  exact ⟨rfl, below_step HH.out HX⟩


set_option maxRecDepth 100000 in
theorem lawStampsDigest_lifted (os : Os) (started : os.Started) (H : Type) (enc : TypeId × Value → H) :
    ReturnsInHanded {} Try.checked os 5 .any (Rows.fnExactStampsDigestSpec.pre6 enc Try.prog Try.f5 Rows.fnExactStampsDigestRow.domain false) (Rows.fnExactStampsDigestSpec.post enc Try.prog Try.f5 false true false false) := by
  refine returnsInHanded_of_change (C := Try.checked) Try.own started (by kernel_rfl) Try.func5
    (ChangeSpec.witness6 (enc := enc) (C := Try.checked) false ⟨#[], #[.int .i64 0, .slice none 0 0], []⟩ 8 (by kernel_rfl) (by kernel_rfl) (by kernel_rfl) (by kernel_rfl)) ?_
  intro W base args ds gs before hval0 hW hcnd _
  have hval : ∀ (j : Nat) t v, Try.f5.params[j]? = some t → args[j]? = some v → Value.okWide Try.prog W .any base t v := hval0
  have hW' := hW
  obtain ⟨p, q, hA0, hV, rfl, hfz, hnd⟩ := hW
  have hA : DataW.TrodAll enc Try.prog W 0 (fun _ => true) true Try.f5.params.toList args.toList ds p := hA0
  rw [Try.params5] at hA hval
  obtain ⟨v0, v1, d0, d1, p0, p1, rfl, rfl, rfl, h0, h1⟩ := trodAll_two hA
  obtain ⟨rfl, rfl⟩ := trodVars_none hV
  obtain ⟨n, rfl, rfl, rfl, -⟩ := open_int Try.underlying3 (hval 0 3 v0 rfl rfl) h0
  obtain ⟨ks, s1, hs1, -⟩ := open_rows Try.underlying45 Try.underlying68 (by kernel_rfl) (N := 5) (by kernel_rfl) (by kernel_rfl) (by decide) Try.underlying3 (by kernel_rfl) (hval 1 45 v1 rfl rfl) h1
  refine (lawStampsDigest_any n W s1 hs1).mono fun e W' ⟨he, hb⟩ => ?_
  subst he
  exact ⟨_, rfl, post_true hW' rfl Try.laidOut (by kernel_rfl) rfl Try.underlying4 rfl hb⟩

theorem lawStampsDigest_holds : Rows.FnExactStampsDigestSaid :=
  OpenClaim.holds_of_wide 5 Try.f5 rfl rfl rfl rfl rfl rfl rfl ⟨rfl, rfl, rfl, rfl, rfl⟩ rfl rfl rfl rfl rfl (by kernel_rfl) Try.func5 (by kernel_rfl)
    (of_decide_eq_true (by kernel_rfl)) (by unfold Func.isWrapper; first | (rw [if_pos (by decide +kernel)]; kernel_rfl) | (rw [if_neg (by decide +kernel)]; exact ⟨rfl, rfl⟩))
    (fun os started H enc _ => lawStampsDigest_lifted os started H enc)
end Go.Proofs.Ytcfealjfanoegaa
