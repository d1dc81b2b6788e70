/- The law FnExactAgreedSpan is true of every input: the program's AgreedSpan and the reference's return the same, and leave their arguments as they were. No condition. -/
import Derived.Test.YtcfealjfanoegaaRows
import Derived.Test.YtcfealjfanoegaaBase
import Derived.Test.YtcfealjfanoegaaOpen
import Derived.Test.YtcfealjfanoegaaPlain
import Derived.Test.YtcfealjfanoegaaHelpSpan
import Derived.Test.YtcfealjfanoegaaAgreed
import Derived.Deep.DeepCutAuto
import Derived.Test.YtcfealjfanoegaaBox
namespace Go.Proofs.Ytcfealjfanoegaa
open Go.ChangeShapes Go.WideShapes Go.ChangeAt Go.RowKit Go.Deep

set_option maxHeartbeats 4000000 in
theorem lawAgreedSpan_any {ks : List (List Int)} {v0 : Value} (n : Int) (w : World) (s0 : Sl w.heap.size w 2 v0 ks) (hs0 : ∀ r ∈ ks, r.length = 2)  :
    Calls Try.prog 6 #[v0, iv n] w (Ret (.bool true) w) := by
  obtain ⟨A0, c0, rfl, hca0, hcb0, -⟩ := id s0
  have H0 : Below w.heap.size w w := Below.refl _ _
  by_cases hl0 : ks.length ≤ 1048576
  rotate_left
  · have HH := hid H0
    clear H0
    go_enter Try.func6, Try.ntmps6
    go_wp2_with fail
    refine (szSpanS_no _ _ (by omega) (by omega) (by omega) (by omega)).mono ?_
    rintro e w' ⟨rfl, rfl⟩
    go_wp2
    go_ret
    exact ⟨rfl, HH.out⟩
  go_enter Try.func6, Try.ntmps6
  go_wp2_with fail
  refine (szSpanS_ok _ _ (by omega) (by omega) (by omega)).mono ?_
  rintro e w' ⟨rfl, rfl⟩
  replace s0 := s0.step H0
  have HH := hid H0
  clear H0
  have HX : Below w.heap.size w w := Below.refl _ _
  go_wp2_with fail
  refine (toSpanS_any _ (s0.below HX (Nat.le_refl _)) hs0 HX.size (by omega)).mono ?_
  rintro e w1 ⟨o1, rfl, ho1, hb1⟩
  replace HX := below_step HX hb1
  have t1 := (Own.sl ho1 hs0)
  go_wp2_with fail
  refine (specAgreedSpan_any _ _ t1 (Nat.le_refl _) ).mono ?_
  rintro e w2 ⟨rfl, hb2⟩
  replace HX := below_step HX hb2
  replace t1 := t1.step hb2
  clear t1
  replace HX : Below w.heap.size w (w2.alloc (.cells #[iv (agL ks n), iv (agR ks n)] 55)) := HX.alloc HX.size _
  have HXA : Below (w2.alloc (.cells #[iv (agL ks n), iv (agR ks n)] 55)).heap.size (w2.alloc (.cells #[iv (agL ks n), iv (agR ks n)] 55)) (w2.alloc (.cells #[iv (agL ks n), iv (agR ks n)] 55)) := Below.refl _ _
  obtain ⟨hcA, -⟩ := bcell HXA
  have hzA := below_size HXA
  go_wp2_with fail
  clear hcA hzA
  refine (toSpanS_any _ (s0.below HX (Nat.le_refl _)) hs0 HX.size (by omega)).mono ?_
  rintro e w3 ⟨o3, rfl, ho3, hb3⟩
  replace HX := below_step HX hb3
  replace HXA := below_step HXA hb3
  have t3 := (Own.sl ho3 hs0)
  go_wp2_with fail
  refine (implAgreedSpan_any _ _ t3 (Nat.le_refl _) ).mono ?_
  rintro e w4 ⟨rfl, hb4⟩
  replace HX := below_step HX hb4
  replace t3 := t3.step hb4
  replace HXA := below_step HXA hb4
  replace t3 := t3.step (below_alloc w4 (.cells #[iv (agL ks n), iv (agR ks n)] 55))
  replace HX : Below w.heap.size w (w4.alloc (.cells #[iv (agL ks n), iv (agR ks n)] 55)) := HX.alloc HX.size _
  replace HXA := below_step HXA (below_alloc w4 (.cells #[iv (agL ks n), iv (agR ks n)] 55))
  have HXB : Below (w4.alloc (.cells #[iv (agL ks n), iv (agR ks n)] 55)).heap.size (w4.alloc (.cells #[iv (agL ks n), iv (agR ks n)] 55)) (w4.alloc (.cells #[iv (agL ks n), iv (agR ks n)] 55)) := Below.refl _ _
  obtain ⟨hcA, -⟩ := bcell HXA
  have hzA := below_size HXA
  obtain ⟨hcB, -⟩ := bcell HXB
  have hzB := below_size HXB
  go_wp2_with fail
  clear hcA hzA hcB hzB
  refine (eqSpan_any _ _ _).mono ?_
  rintro e w5 ⟨rfl, hb5⟩
  replace HX := below_step HX hb5
  replace t3 := t3.step hb5
  replace HXA := below_step HXA hb5
  replace HXB := below_step HXB hb5
  clear HXA
  clear HXB
  go_wp2_with fail
  refine (toSpanS_any _ (s0.below HX (Nat.le_refl _)) hs0 HX.size (by omega)).mono ?_
  rintro e w6 ⟨o6, rfl, ho6, hb6⟩
  replace HX := below_step HX hb6
  replace t3 := t3.step hb6
  have t6 := (Own.sl ho6 hs0)
  go_wp2_with fail
  refine (eqSpanS_any _ t3 t6 (Nat.le_refl _)).mono ?_
  rintro e w7 ⟨rfl, hb7⟩
  replace HX := below_step HX hb7
  replace t3 := t3.step hb7
  replace t6 := t6.step hb7
  clear t6
  go_wp2
  go_ret
  exact ⟨rfl, below_step HH.out HX⟩


set_option maxRecDepth 100000 in
theorem lawAgreedSpan_lifted (os : Os) (started : os.Started) (H : Type) (enc : TypeId × Value → H) :
    ReturnsInHanded {} Try.checked os 6 .any (Rows.fnExactAgreedSpanSpec.pre6 enc Try.prog Try.f6 Rows.fnExactAgreedSpanRow.domain false) (Rows.fnExactAgreedSpanSpec.post enc Try.prog Try.f6 false true false false) := by
  refine returnsInHanded_of_change (C := Try.checked) Try.own started (by kernel_rfl) Try.func6
    (ChangeSpec.witness6 (enc := enc) (C := Try.checked) false ⟨#[], #[.slice none 0 0, .int .i64 0], []⟩ 8 (by kernel_rfl) (by kernel_rfl) (by kernel_rfl) (by kernel_rfl)) ?_
  intro W base args ds gs before hval0 hW hcnd _
  have hval : ∀ (j : Nat) t v, Try.f6.params[j]? = some t → args[j]? = some v → Value.okWide Try.prog W .any base t v := hval0
  have hW' := hW
  obtain ⟨p, q, hA0, hV, rfl, hfz, hnd⟩ := hW
  have hA : DataW.TrodAll enc Try.prog W 0 (fun _ => true) true Try.f6.params.toList args.toList ds p := hA0
  rw [Try.params6] at hA hval
  obtain ⟨v0, v1, d0, d1, p0, p1, rfl, rfl, rfl, h0, h1⟩ := trodAll_two hA
  obtain ⟨rfl, rfl⟩ := trodVars_none hV
  obtain ⟨ks, s0, hs0, -⟩ := open_rows Try.underlying52 Try.underlying84 (by kernel_rfl) (N := 2) (by kernel_rfl) (by kernel_rfl) (by decide) Try.underlying3 (by kernel_rfl) (hval 0 52 v0 rfl rfl) h0
  obtain ⟨n, rfl, rfl, rfl, -⟩ := open_int Try.underlying3 (hval 1 3 v1 rfl rfl) h1
  refine (lawAgreedSpan_any n W s0 hs0).mono fun e W' ⟨he, hb⟩ => ?_
  subst he
  exact ⟨_, rfl, post_true hW' rfl Try.laidOut (by kernel_rfl) rfl Try.underlying4 rfl hb⟩

theorem lawAgreedSpan_holds : Rows.FnExactAgreedSpanSaid :=
  OpenClaim.holds_of_wide 6 Try.f6 rfl rfl rfl rfl rfl rfl rfl ⟨rfl, rfl, rfl, rfl, rfl⟩ rfl rfl rfl rfl rfl (by kernel_rfl) Try.func6 (by kernel_rfl)
    (of_decide_eq_true (by kernel_rfl)) (by unfold Func.isWrapper; first | (rw [if_pos (by decide +kernel)]; kernel_rfl) | (rw [if_neg (by decide +kernel)]; exact ⟨rfl, rfl⟩))
    (fun os started H enc _ => lawAgreedSpan_lifted os started H enc)
end Go.Proofs.Ytcfealjfanoegaa
