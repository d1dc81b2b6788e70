/- The law FnExactSignatureOf is true of every input: the program's SignatureOf and the reference's return the same, and leave their arguments as they were. No condition. -/
import Derived.Test.YtkdpfbodmfjkkaaRows
import Derived.Test.YtkdpfbodmfjkkaaBase
import Derived.Test.YtkdpfbodmfjkkaaOpen
import Derived.Test.YtkdpfbodmfjkkaaPlain
import Derived.Test.YtkdpfbodmfjkkaaHelpKey
import Derived.Test.YtkdpfbodmfjkkaaHelpSignature
import Derived.Test.YtkdpfbodmfjkkaaSignatureOf
namespace Go.Proofs.Ytkdpfbodmfjkkaa
open Go.ChangeShapes Go.WideShapes Go.ChangeAt Go.RowKit Go.Deep

set_option maxHeartbeats 4000000 in
theorem lawSignatureOf_any {ks : List (List Int)} {v0 : Value} {ls : List (List Int)} {v1 : Value} (o : Int) (d : Int) (w : World) (s0 : Sl w.heap.size w 5 v0 ks) (hs0 : ∀ r ∈ ks, r.length = 5) (s1 : Sl w.heap.size w 9 v1 ls) (hs1 : ∀ r ∈ ls, r.length = 9) :
    Calls Try.prog 8 #[v0, v1, iv o, iv d] w (Ret (.bool true) w) := by
  obtain ⟨A0, c0, rfl, hca0, hcb0, -⟩ := id s0
  obtain ⟨A1, c1, rfl, hca1, hcb1, -⟩ := id s1
  have H0 : Below w.heap.size w w := Below.refl _ _
  by_cases hl0 : ks.length ≤ 1048576
  rotate_left
  · have HH := hid H0
    clear H0
    go_enter Try.func8, Try.ntmps8
    go_wp2_with fail
    refine (szKeyS_no _ _ (by omega) (by omega) (by omega) (by omega)).mono ?_
    rintro e w' ⟨rfl, rfl⟩
    go_wp2
    go_ret
    exact ⟨rfl, HH.out⟩
  by_cases hl1 : ks.length + ls.length ≤ 1048576
  rotate_left
  · have HH := hid H0
    clear H0
    go_enter Try.func8, Try.ntmps8
    go_wp2_with fail
    refine (szKeyS_ok _ _ (by omega) (by omega) (by omega)).mono ?_
    rintro e w' ⟨rfl, rfl⟩
    go_wp2_with fail
    refine (szSignatureS_no _ _ (by omega) (by omega) (by omega) (by omega)).mono ?_
    rintro e w' ⟨rfl, rfl⟩
    go_wp2
    go_ret
    exact ⟨rfl, HH.out⟩
  go_enter Try.func8, Try.ntmps8
  go_wp2_with fail
  refine (szKeyS_ok _ _ (by omega) (by omega) (by omega)).mono ?_
  rintro e w' ⟨rfl, rfl⟩
  go_wp2_with fail
  refine (szSignatureS_ok _ _ (by omega) (by omega) (by omega)).mono ?_
  rintro e w' ⟨rfl, rfl⟩
  replace s0 := s0.step H0
  replace s1 := s1.step H0
  have HH := hid H0
  clear H0
  have HX : Below w.heap.size w w := Below.refl _ _
  go_wp2_with fail
  refine (toKeyS_any _ (s0.below HX (Nat.le_refl _)) hs0 HX.size (by omega)).mono ?_
  rintro e w1 ⟨o1, rfl, ho1, hb1⟩
  replace HX := below_step HX hb1
  have t1 := (Own.sl ho1 hs0)
  go_wp2_with fail
  refine (toSignatureS_any _ (s1.below HX (Nat.le_refl _)) hs1 HX.size (by omega)).mono ?_
  rintro e w2 ⟨o2, rfl, ho2, hb2⟩
  replace HX := below_step HX hb2
  replace t1 := t1.step hb2
  have t2 := (Own.sl ho2 hs1)
  go_wp2_with fail
  refine (specSignatureOf_any _ _ _ t1 t2 (Nat.le_refl _) ).mono ?_
  rintro e w3 ⟨rfl, hb3⟩
  replace HX := below_step HX hb3
  replace t1 := t1.step hb3
  replace t2 := t2.step hb3
  clear t1
  clear t2
  go_wp2_with fail
  refine (toKeyS_any _ (s0.below HX (Nat.le_refl _)) hs0 HX.size (by omega)).mono ?_
  rintro e w4 ⟨o4, rfl, ho4, hb4⟩
  replace HX := below_step HX hb4
  have t4 := (Own.sl ho4 hs0)
  go_wp2_with fail
  refine (toSignatureS_any _ (s1.below HX (Nat.le_refl _)) hs1 HX.size (by omega)).mono ?_
  rintro e w5 ⟨o5, rfl, ho5, hb5⟩
  replace HX := below_step HX hb5
  replace t4 := t4.step hb5
  have t5 := (Own.sl ho5 hs1)
  go_wp2_with fail
  refine (implSignatureOf_any _ _ _ t4 t5 (Nat.le_refl _) ).mono ?_
  rintro e w6 ⟨rfl, hb6⟩
  replace HX := below_step HX hb6
  replace t4 := t4.step hb6
  replace t5 := t5.step hb6
  go_wp2_with fail
  refine (toKeyS_any _ (s0.below HX (Nat.le_refl _)) hs0 HX.size (by omega)).mono ?_
  rintro e w7 ⟨o7, rfl, ho7, hb7⟩
  replace HX := below_step HX hb7
  replace t4 := t4.step hb7
  replace t5 := t5.step hb7
  have t7 := (Own.sl ho7 hs0)
  go_wp2_with fail
  refine (eqKeyS_any _ t4 t7 (Nat.le_refl _)).mono ?_
  rintro e w8 ⟨rfl, hb8⟩
  replace HX := below_step HX hb8
  replace t4 := t4.step hb8
  replace t5 := t5.step hb8
  replace t7 := t7.step hb8
  clear t7
  go_wp2_with fail
  refine (toSignatureS_any _ (s1.below HX (Nat.le_refl _)) hs1 HX.size (by omega)).mono ?_
  rintro e w9 ⟨o9, rfl, ho9, hb9⟩
  replace HX := below_step HX hb9
  replace t4 := t4.step hb9
  replace t5 := t5.step hb9
  have t9 := (Own.sl ho9 hs1)
  go_wp2_with fail
  refine (eqSignatureS_any _ t5 t9 (Nat.le_refl _)).mono ?_
  rintro e w10 ⟨rfl, hb10⟩
  replace HX := below_step HX hb10
  replace t4 := t4.step hb10
  replace t5 := t5.step hb10
  replace t9 := t9.step hb10
  clear t9
  go_wp2
  go_ret
  exact ⟨rfl, below_step HH.out HX⟩


set_option maxRecDepth 100000 in
theorem lawSignatureOf_lifted (os : Os) (started : os.Started) (H : Type) (enc : TypeId × Value → H) :
    ReturnsInHanded {} Try.checked os 8 .any (Rows.fnExactSignatureOfSpec.pre6 enc Try.prog Try.f8 Rows.fnExactSignatureOfRow.domain false) (Rows.fnExactSignatureOfSpec.post enc Try.prog Try.f8 false true false false) := by
  refine returnsInHanded_of_change (C := Try.checked) Try.own started (by kernel_rfl) Try.func8
    (ChangeSpec.witness6 (enc := enc) (C := Try.checked) false ⟨#[], #[.slice none 0 0, .slice none 0 0, .int .i64 0, .int .i64 0], []⟩ 8 (by kernel_rfl) (by kernel_rfl) (by kernel_rfl) (by kernel_rfl)) ?_
  intro W base args ds gs before hval0 hW hcnd _
  have hval : ∀ (j : Nat) t v, Try.f8.params[j]? = some t → args[j]? = some v → Value.okWide Try.prog W .any base t v := hval0
  have hW' := hW
  obtain ⟨p, q, hA0, hV, rfl, hfz, hnd⟩ := hW
  have hA : DataW.TrodAll enc Try.prog W 0 (fun _ => true) true Try.f8.params.toList args.toList ds p := hA0
  rw [Try.params8] at hA hval
  obtain ⟨v0, v1, v2, v3, d0, d1, d2, d3, p0, p1, p2, p3, rfl, rfl, rfl, h0, h1, h2, h3⟩ := trodAll_four hA
  obtain ⟨rfl, rfl⟩ := trodVars_none hV
  obtain ⟨ks, s0, hs0, -⟩ := open_rows Try.underlying22 Try.underlying149 (by kernel_rfl) (N := 5) (by kernel_rfl) (by kernel_rfl) (by decide) Try.underlying3 (by kernel_rfl) (hval 0 22 v0 rfl rfl) h0
  obtain ⟨ls, s1, hs1, -⟩ := open_rows Try.underlying26 Try.underlying152 (by kernel_rfl) (N := 9) (by kernel_rfl) (by kernel_rfl) (by decide) Try.underlying3 (by kernel_rfl) (hval 1 26 v1 rfl rfl) h1
  obtain ⟨o, rfl, rfl, rfl, -⟩ := open_int Try.underlying3 (hval 2 3 v2 rfl rfl) h2
  obtain ⟨d, rfl, rfl, rfl, -⟩ := open_int Try.underlying3 (hval 3 3 v3 rfl rfl) h3
  refine (lawSignatureOf_any o d W s0 hs0 s1 hs1).mono fun e W' ⟨he, hb⟩ => ?_
  subst he
  exact ⟨_, rfl, post_true hW' rfl Try.laidOut (by kernel_rfl) rfl Try.underlying4 rfl hb⟩

theorem lawSignatureOf_holds : Rows.FnExactSignatureOfSaid :=
  OpenClaim.holds_of_wide 8 Try.f8 rfl rfl rfl rfl rfl rfl rfl ⟨rfl, rfl, rfl, rfl, rfl⟩ rfl rfl rfl rfl rfl (by kernel_rfl) Try.func8 (by kernel_rfl)
    (of_decide_eq_true (by kernel_rfl)) (by unfold Func.isWrapper; first | (rw [if_pos (by decide +kernel)]; kernel_rfl) | (rw [if_neg (by decide +kernel)]; exact ⟨rfl, rfl⟩))
    (fun os started H enc _ => lawSignatureOf_lifted os started H enc)
end Go.Proofs.Ytkdpfbodmfjkkaa
