/- The law FnExactAreKeys is true of every input: the program's AreKeys and the reference's return the same, and leave their arguments as they were. No condition. -/
import Derived.Test.YtgplnokohchepaaRows
import Derived.Test.YtgplnokohchepaaBase
import Derived.Test.YtgplnokohchepaaOpen
import Derived.Test.YtgplnokohchepaaPlain
import Derived.Test.YtgplnokohchepaaHelpKey
import Derived.Test.YtgplnokohchepaaAreKeys
namespace Go.Proofs.Ytgplnokohchepaa
open Go.ChangeShapes Go.WideShapes Go.ChangeAt Go.RowKit Go.Deep

set_option maxHeartbeats 2000000 in
theorem lawAreKeys_any {ks : List (List Int)} {v0 : Value} (w : World) (s0 : Sl w.heap.size w 5 v0 ks) (hs0 : ∀ r ∈ ks, r.length = 5) :
    Calls Try.prog 9 #[v0] w (Ret (.bool true) w) := by
  obtain ⟨A0, c0, rfl, hca0, hcb0, -⟩ := id s0
  have H0 : Below w.heap.size w w := Below.refl _ _
  by_cases hl0 : ks.length ≤ 1048576
  rotate_left
  · have HH := hid H0
    clear H0
    go_enter Try.func9, Try.ntmps9
    go_wp2_with fail
    refine (szKeyS_no _ _ (by omega) (by omega) (by omega) (by omega)).mono ?_
    rintro e w' ⟨rfl, rfl⟩
    go_wp2
    go_ret
    exact ⟨rfl, HH.out⟩
  go_enter Try.func9, Try.ntmps9
  go_wp2_with fail
  refine (szKeyS_ok _ _ (by omega) (by omega) (by omega)).mono ?_
  rintro e w' ⟨rfl, rfl⟩
  replace s0 := s0.step H0
  have HH := hid H0
  clear H0
  have HX : Below w.heap.size w w := Below.refl _ _
  go_wp2_with fail
  refine (toKeyS_any _ (s0.below HX (Nat.le_refl _)) hs0 HX.size (by omega)).mono ?_
  rintro e w1 ⟨o1, rfl, ho1, hb1⟩
  replace HX := below_step HX hb1
  have t1 := (Own.sl ho1 hs0)
  go_wp2_with fail
  refine (specAreKeys_any  _ t1 (Nat.le_refl _) ).mono ?_
  rintro e w2 ⟨rfl, hb2⟩
  replace HX := below_step HX hb2
  replace t1 := t1.step hb2
  clear t1
  go_wp2_with fail
  refine (toKeyS_any _ (s0.below HX (Nat.le_refl _)) hs0 HX.size (by omega)).mono ?_
  rintro e w3 ⟨o3, rfl, ho3, hb3⟩
  replace HX := below_step HX hb3
  have t3 := (Own.sl ho3 hs0)
  go_wp2_with fail
  refine (implAreKeys_any  _ t3 (Nat.le_refl _) ).mono ?_
  rintro e w4 ⟨rfl, hb4⟩
  replace HX := below_step HX hb4
  replace t3 := t3.step hb4
  go_wp2_with fail
  refine (toKeyS_any _ (s0.below HX (Nat.le_refl _)) hs0 HX.size (by omega)).mono ?_
  rintro e w5 ⟨o5, rfl, ho5, hb5⟩
  replace HX := below_step HX hb5
  replace t3 := t3.step hb5
  have t5 := (Own.sl ho5 hs0)
  go_wp2_with fail
  refine (eqKeyS_any _ t3 t5 (Nat.le_refl _)).mono ?_
  rintro e w6 ⟨rfl, hb6⟩
  replace HX := below_step HX hb6
  replace t3 := t3.step hb6
  replace t5 := t5.step hb6
  clear t5
  go_wp2
  go_ret
  exact ⟨rfl, below_step HH.out HX⟩


set_option maxRecDepth 100000 in
theorem lawAreKeys_lifted (os : Os) (started : os.Started) (H : Type) (enc : TypeId × Value → H) :
    ReturnsInHanded {} Try.checked os 9 .any (Rows.fnExactAreKeysSpec.pre6 enc Try.prog Try.f9 Rows.fnExactAreKeysRow.domain false) (Rows.fnExactAreKeysSpec.post enc Try.prog Try.f9 false true false false) := by
  refine returnsInHanded_of_change (C := Try.checked) Try.own started (by kernel_rfl) Try.func9
    (ChangeSpec.witness6 (enc := enc) (C := Try.checked) false ⟨#[], #[.slice none 0 0], []⟩ 8 (by kernel_rfl) (by kernel_rfl) (by kernel_rfl) (by kernel_rfl)) ?_
  intro W base args ds gs before hval0 hW hcnd _
  have hval : ∀ (j : Nat) t v, Try.f9.params[j]? = some t → args[j]? = some v → Value.okWide Try.prog W .any base t v := hval0
  have hW' := hW
  obtain ⟨p, q, hA0, hV, rfl, hfz, hnd⟩ := hW
  have hA : DataW.TrodAll enc Try.prog W 0 (fun _ => true) true Try.f9.params.toList args.toList ds p := hA0
  rw [Try.params9] at hA hval
  obtain ⟨v0, d0, rfl, rfl, h0⟩ := trodAll_one hA
  obtain ⟨rfl, rfl⟩ := trodVars_none hV
  obtain ⟨ks, s0, hs0, -⟩ := open_rows Try.underlying38 Try.underlying93 (by kernel_rfl) (N := 5) (by kernel_rfl) (by kernel_rfl) (by decide) Try.underlying3 (by kernel_rfl) (hval 0 38 v0 rfl rfl) h0
  refine (lawAreKeys_any  W s0 hs0).mono fun e W' ⟨he, hb⟩ => ?_
  subst he
  exact ⟨_, rfl, post_true hW' rfl Try.laidOut (by kernel_rfl) rfl Try.underlying4 rfl hb⟩

theorem lawAreKeys_holds : Rows.FnExactAreKeysSaid :=
  OpenClaim.holds_of_wide 9 Try.f9 rfl rfl rfl rfl rfl rfl rfl ⟨rfl, rfl, rfl, rfl, rfl⟩ rfl rfl rfl rfl rfl (by kernel_rfl) Try.func9 (by kernel_rfl)
    (of_decide_eq_true (by kernel_rfl)) (by unfold Func.isWrapper; first | (rw [if_pos (by decide +kernel)]; kernel_rfl) | (rw [if_neg (by decide +kernel)]; exact ⟨rfl, rfl⟩))
    (fun os started H enc _ => lawAreKeys_lifted os started H enc)
end Go.Proofs.Ytgplnokohchepaa
