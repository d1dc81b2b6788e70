/- The law FnExactSignatureInts is true of every input: the program's SignatureInts and the reference's return the same numbers, each call in memory of its own. No condition. -/
import Derived.Test.YtjdbaeoedfkegaaRows
import Derived.Test.YtjdbaeoedfkegaaBase
import Derived.Test.YtjdbaeoedfkegaaOpen
import Derived.Test.YtjdbaeoedfkegaaHelpI
import Derived.Test.YtjdbaeoedfkegaaHelpSignature
import Derived.Test.YtjdbaeoedfkegaaIntsSignature
namespace Go.Proofs.Ytjdbaeoedfkegaa
open Go.ChangeShapes Go.WideShapes Go.ChangeAt Go.RowKit Go.Deep

set_option maxHeartbeats 1000000 in
theorem lawSignatureInts_any (a0 a1 a2 a3 a4 a5 a6 a7 a8 : Int) (w : World) :
    Calls Try.prog 14 #[.agg #[iv a0, iv a1, iv a2, iv a3, iv a4, iv a5, iv a6, iv a7, iv a8]] w (Ret (.bool true) w) := by
  go_enter Try.func14, Try.ntmps14
  go_wp2_with fail
  refine (toSignature_any _ _ _ _ _ _ _ _ _ _).mono ?_
  rintro e w1 ⟨rfl, hb1⟩
  go_wp2_with fail
  refine (specSignatureInts_any _ _ _ _ _ _ _ _ _ _).mono ?_
  rintro e w2 ⟨v0, rfl, ho0, hb2⟩
  have hb := below_step hb1 hb2
  obtain ⟨hc, -⟩ := bcell hb
  go_wp2_with fail
  refine (toSignature_any _ _ _ _ _ _ _ _ _ _).mono ?_
  rintro e w3 ⟨rfl, hb3⟩
  go_wp2_with fail
  refine (implSignatureInts_any _ _ _ _ _ _ _ _ _ _).mono ?_
  rintro e w4 ⟨v1, rfl, ho1, hb4⟩
  clear hc
  have hb24 := below_step hb3 hb4
  have z1 := hb1.size
  have z2 := hb2.size
  have z3 := hb3.size
  have z4 := hb4.size
  have s0 := ((Own.si (zs := [104, a0, a1, a2, a3, a4, a5, a6, a7]) (ho0.below hb24 (Nat.le_refl _)))).mono hb24.size
  have s1 := Own.si (zs := [104, a0, a1, a2, a3, a4, a5, a6, a7]) ho1
  go_wp2_with fail
  refine (eqIntS_any _ s1 s0 (Nat.le_refl _)).mono ?_
  rintro e w5 ⟨rfl, hb5⟩
  go_wp2_with fail
  refine (markIntS_any _ 1 (by omega) (by omega) (by omega) (ho1.below hb5 (Nat.le_refl _))).mono ?_
  rintro e w6 ⟨rfl, ho6, hb6⟩
  go_wp2_with fail
  refine (heldIntS_any _ 1 (by omega) (by omega) (by omega) ho6.marks).mono ?_
  rintro e w7 ⟨rfl, rfl⟩
  have z5 := hb5.size
  have z6 := hb6.size
  have hb26 : Below w2.heap.size w2 w6 := (hb24.trans (hb5.mono (by omega))).trans (hb6.mono (by omega))
  have hb0 := below_step hb hb26
  obtain ⟨hc, -⟩ := bcell hb0
  go_wp2_with fail
  refine (toSignature_any _ _ _ _ _ _ _ _ _ _).mono ?_
  rintro e w8 ⟨rfl, hb8⟩
  go_wp2_with fail
  refine (implSignatureInts_any _ _ _ _ _ _ _ _ _ _).mono ?_
  rintro e w9 ⟨v2, rfl, ho2, hb9⟩
  clear hc
  have hb69 := below_step hb8 hb9
  have z8 := hb8.size
  have z9 := hb9.size
  have s3 := ((Own.si (zs := [104, a0, a1, a2, a3, a4, a5, a6, a7]) (ho0.below (hb26.trans (hb69.mono (by omega))) (Nat.le_refl _)))).mono (B' := w9.heap.size) (by omega)
  have s4 := Own.si (zs := [104, a0, a1, a2, a3, a4, a5, a6, a7]) ho2
  go_wp2_with fail
  refine (eqIntS_any _ s4 s3 (Nat.le_refl _)).mono ?_
  rintro e w10 ⟨rfl, hb10⟩
  have hb610 := below_step hb69 hb10
  go_wp2_with fail
  refine (heldIntS_any _ 1 (by omega) (by omega) (by omega) ((ho6.below hb610 (by omega)).marks)).mono ?_
  rintro e w11 ⟨rfl, rfl⟩
  go_wp2
  go_ret
  exact ⟨rfl, below_step (below_alloc _ _) (below_step hb0 hb610)⟩

set_option maxRecDepth 100000 in
theorem lawSignatureInts_lifted (os : Os) (started : os.Started) (H : Type) (enc : TypeId × Value → H) :
    ReturnsInHanded {} Try.checked os 14 .any (Rows.fnExactSignatureIntsSpec.pre6 enc Try.prog Try.f14 Rows.fnExactSignatureIntsRow.domain false) (Rows.fnExactSignatureIntsSpec.post enc Try.prog Try.f14 false true false false) := by
  refine returnsInHanded_of_change (C := Try.checked) Try.own started (by kernel_rfl) Try.func14
    (ChangeSpec.witness6 (enc := enc) (C := Try.checked) false ⟨#[], #[.agg #[.int .i64 0, .int .i64 0, .int .i64 0, .int .i64 0, .int .i64 0, .int .i64 0, .int .i64 0, .int .i64 0, .int .i64 0]], []⟩ 8 (by kernel_rfl) (by kernel_rfl) (by kernel_rfl) (by kernel_rfl)) ?_
  intro W base args ds gs before hval0 hW hcnd _
  have hval : ∀ (j : Nat) t v, Try.f14.params[j]? = some t → args[j]? = some v → Value.okWide Try.prog W .any base t v := hval0
  have hW' := hW
  obtain ⟨p, q, hA0, hV, rfl, hfz, hnd⟩ := hW
  have hA : DataW.TrodAll enc Try.prog W 0 (fun _ => true) true Try.f14.params.toList args.toList ds p := hA0
  rw [Try.params14] at hA hval
  obtain ⟨v0, d0, rfl, rfl, h0⟩ := trodAll_one hA
  obtain ⟨rfl, rfl⟩ := trodVars_none hV
  obtain ⟨zs0, hlen0, rfl, -⟩ := open_ints_agg Try.underlying29 (by kernel_rfl) (N := 9) (by kernel_rfl) (by kernel_rfl) Try.underlying3 (by kernel_rfl) (hval 0 29 v0 rfl rfl) h0
  obtain ⟨a0, a1, a2, a3, a4, a5, a6, a7, a8, rfl⟩ := list9 hlen0
  refine (lawSignatureInts_any a0 a1 a2 a3 a4 a5 a6 a7 a8 W).mono fun e W' ⟨he, hb⟩ => ?_
  subst he
  exact ⟨_, rfl, post_true hW' rfl Try.laidOut (by kernel_rfl) rfl Try.underlying4 rfl hb⟩

theorem lawSignatureInts_holds : Rows.FnExactSignatureIntsSaid :=
  OpenClaim.holds_of_wide 14 Try.f14 rfl rfl rfl rfl rfl rfl rfl ⟨rfl, rfl, rfl, rfl, rfl⟩ rfl rfl rfl rfl rfl (by kernel_rfl) Try.func14 (by kernel_rfl)
    (of_decide_eq_true (by kernel_rfl)) (by unfold Func.isWrapper; first | (rw [if_pos (by decide +kernel)]; kernel_rfl) | (rw [if_neg (by decide +kernel)]; exact ⟨rfl, rfl⟩))
    (fun os started H enc _ => lawSignatureInts_lifted os started H enc)
end Go.Proofs.Ytjdbaeoedfkegaa
