/- The law FnExactOwnerOf is true of every input: the program's OwnerOf and the reference's return the same, and leave their arguments as they were. No condition. -/
import Derived.Test.YtgplnokohchepaaRows
import Derived.Test.YtgplnokohchepaaBase
import Derived.Test.YtgplnokohchepaaOpen
import Derived.Test.YtgplnokohchepaaPlain
import Derived.Test.YtgplnokohchepaaHelpKey
import Derived.Test.YtgplnokohchepaaFindKey
namespace Go.Proofs.Ytgplnokohchepaa
open Go.ChangeShapes Go.WideShapes Go.ChangeAt Go.RowKit Go.Deep

set_option maxHeartbeats 2000000 in
theorem lawOwnerOf_any {ks : List (List Int)} {v0 : Value} (n : Int) (w : World) (s0 : Sl w.heap.size w 5 v0 ks) (hs0 : ∀ r ∈ ks, r.length = 5) :
    Calls Try.prog 10 #[v0, iv n] w (Ret (.bool true) w) := by
  obtain ⟨A0, c0, rfl, hca0, hcb0, -⟩ := id s0
  have H0 : Below w.heap.size w w := Below.refl _ _
  by_cases hl0 : ks.length ≤ 1048576
  rotate_left
  · have HH := hid H0
    clear H0
    go_enter Try.func10, Try.ntmps10
    go_wp2_with fail
    refine (szKeyS_no _ _ (by omega) (by omega) (by omega) (by omega)).mono ?_
    rintro e w' ⟨rfl, rfl⟩
    go_wp2
    go_ret
    exact ⟨rfl, HH.out⟩
  go_enter Try.func10, Try.ntmps10
  go_wp2_with fail
  refine (szKeyS_ok _ _ (by omega) (by omega) (by omega)).mono ?_
  rintro e w' ⟨rfl, rfl⟩
  replace s0 := s0.step H0
  have HH := hid H0
  clear H0
  have HX : Below w.heap.size w w := Below.refl _ _
  go_wp2_with fail
  refine (toKeyS_any _ s0 hs0 (Nat.le_refl _) (by omega)).mono ?_
  rintro e w1 ⟨o1, rfl, ho1, hb1⟩
  replace HX := below_step HX hb1
  replace s0 := s0.step hb1
  have t1 := Own.sl ho1 hs0
  go_wp2_with fail
  refine (specOwnerOf_any _ _ t1 (Nat.le_refl _) ).mono ?_
  rintro e w2 ⟨rfl, hb2⟩
  replace HX := below_step HX hb2
  replace s0 := s0.step hb2
  replace t1 := t1.step hb2
  clear t1
  go_wp2_with fail
  refine (toKeyS_any _ s0 hs0 (Nat.le_refl _) (by omega)).mono ?_
  rintro e w3 ⟨o2, rfl, ho2, hb3⟩
  replace HX := below_step HX hb3
  replace s0 := s0.step hb3
  have t2 := Own.sl ho2 hs0
  go_wp2_with fail
  refine (implOwnerOf_any _ _ t2 (Nat.le_refl _) ).mono ?_
  rintro e w4 ⟨rfl, hb4⟩
  replace HX := below_step HX hb4
  replace s0 := s0.step hb4
  replace t2 := t2.step hb4
  go_wp2_with fail
  refine (toKeyS_any _ s0 hs0 (Nat.le_refl _) (by omega)).mono ?_
  rintro e w5 ⟨o3, rfl, ho3, hb5⟩
  replace HX := below_step HX hb5
  replace s0 := s0.step hb5
  replace t2 := t2.step hb5
  have t3 := Own.sl ho3 hs0
  go_wp2_with fail
  refine (eqKeyS_any _ t2 t3 (Nat.le_refl _)).mono ?_
  rintro e w6 ⟨rfl, hb6⟩
  replace HX := below_step HX hb6
  replace s0 := s0.step hb6
  replace t2 := t2.step hb6
  replace t3 := t3.step hb6
  go_wp2
  go_ret
  exact ⟨rfl, below_step HH.out HX⟩

set_option maxRecDepth 100000 in
theorem lawOwnerOf_lifted (os : Os) (started : os.Started) (H : Type) (enc : TypeId × Value → H) :
    ReturnsInHanded {} Try.checked os 10 .any (Rows.fnExactOwnerOfSpec.pre6 enc Try.prog Try.f10 Rows.fnExactOwnerOfRow.domain false) (Rows.fnExactOwnerOfSpec.post enc Try.prog Try.f10 false true false false) := by
  refine returnsInHanded_of_change (C := Try.checked) Try.own started (by kernel_rfl) Try.func10
    (ChangeSpec.witness6 (enc := enc) (C := Try.checked) false ⟨#[], #[.slice none 0 0, .int .i64 0], []⟩ 8 (by kernel_rfl) (by kernel_rfl) (by kernel_rfl) (by kernel_rfl)) ?_
  intro W base args ds gs before hval0 hW hcnd _
  have hval : ∀ (j : Nat) t v, Try.f10.params[j]? = some t → args[j]? = some v → Value.okWide Try.prog W .any base t v := hval0
  have hW' := hW
  obtain ⟨p, q, hA0, hV, rfl, hfz, hnd⟩ := hW
  have hA : DataW.TrodAll enc Try.prog W 0 (fun _ => true) true Try.f10.params.toList args.toList ds p := hA0
  rw [Try.params10] at hA hval
  obtain ⟨v0, v1, d0, d1, p0, p1, rfl, rfl, rfl, h0, h1⟩ := trodAll_two hA
  obtain ⟨rfl, rfl⟩ := trodVars_none hV
  obtain ⟨ks, s0, hs0, -⟩ := open_rows Try.underlying38 Try.underlying93 (by kernel_rfl) (N := 5) (by kernel_rfl) (by kernel_rfl) (by decide) Try.underlying3 (by kernel_rfl) (hval 0 38 v0 rfl rfl) h0
  obtain ⟨n, rfl, rfl, rfl, -⟩ := open_int Try.underlying3 (hval 1 3 v1 rfl rfl) h1
  refine (lawOwnerOf_any n W s0 hs0).mono fun e W' ⟨he, hb⟩ => ?_
  subst he
  exact ⟨_, rfl, post_true hW' rfl Try.laidOut (by kernel_rfl) rfl Try.underlying4 rfl hb⟩

theorem lawOwnerOf_holds : Rows.FnExactOwnerOfSaid :=
  OpenClaim.holds_of_wide 10 Try.f10 rfl rfl rfl rfl rfl rfl rfl ⟨rfl, rfl, rfl, rfl, rfl⟩ rfl rfl rfl rfl rfl (by kernel_rfl) Try.func10 (by kernel_rfl)
    (of_decide_eq_true (by kernel_rfl)) (by unfold Func.isWrapper; first | (rw [if_pos (by decide +kernel)]; kernel_rfl) | (rw [if_neg (by decide +kernel)]; exact ⟨rfl, rfl⟩))
    (fun os started H enc _ => lawOwnerOf_lifted os started H enc)
end Go.Proofs.Ytgplnokohchepaa
