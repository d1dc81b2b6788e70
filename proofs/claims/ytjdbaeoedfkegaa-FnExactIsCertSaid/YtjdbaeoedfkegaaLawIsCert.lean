/- The law FnExactIsCert is true of every input: the program's IsCert and the reference's return the same. No condition. -/
import Derived.Test.YtjdbaeoedfkegaaRows
import Derived.Test.YtjdbaeoedfkegaaBase
import Derived.Test.YtjdbaeoedfkegaaOpen
import Derived.Test.YtjdbaeoedfkegaaHelpCert
import Derived.Test.YtjdbaeoedfkegaaChkCert
namespace Go.Proofs.Ytjdbaeoedfkegaa
open Go.ChangeShapes Go.WideShapes Go.ChangeAt Go.RowKit Go.Deep

set_option maxHeartbeats 400000 in
theorem lawIsCert_any (a0 a1 a2 a3 a4 a5 a6 : Int) (w : World) :
    Calls Try.prog 7 #[.agg #[iv a0, iv a1, iv a2, iv a3, iv a4, iv a5, iv a6]] w (Ret (.bool true) w) := by
  go_enter Try.func7, Try.ntmps7
  go_wp2_with fail
  refine (toCert_any _ _ _ _ _ _ _ _).mono ?_
  rintro e w1 ⟨rfl, hb1⟩
  go_wp2_with fail
  refine (specIsCert_any _ _ _ _ _ _ _ _).mono ?_
  rintro e w2 ⟨rfl, hb2⟩
  have hb := below_step hb1 hb2
  obtain ⟨hc, -⟩ := bcell hb
  have HB := hid hb
  clear hb1 hb2 hb
  go_wp2_with fail
  refine (toCert_any _ _ _ _ _ _ _ _).mono ?_
  rintro e w3 ⟨rfl, hb3⟩
  go_wp2_with fail
  refine (implIsCert_any _ _ _ _ _ _ _ _).mono ?_
  rintro e w4 ⟨rfl, hb4⟩
  clear hc
  go_wp2
  go_ret
  exact ⟨rfl, below_step (below_alloc _ _) (below_step HB.out (below_step hb3 hb4))⟩

set_option maxRecDepth 100000 in
theorem lawIsCert_lifted (os : Os) (started : os.Started) (H : Type) (enc : TypeId × Value → H) :
    ReturnsInHanded {} Try.checked os 7 .any (Rows.fnExactIsCertSpec.pre6 enc Try.prog Try.f7 Rows.fnExactIsCertRow.domain false) (Rows.fnExactIsCertSpec.post enc Try.prog Try.f7 false true false false) := by
  refine returnsInHanded_of_change (C := Try.checked) Try.own started (by kernel_rfl) Try.func7
    (ChangeSpec.witness6 (enc := enc) (C := Try.checked) false ⟨#[], #[.agg #[.int .i64 0, .int .i64 0, .int .i64 0, .int .i64 0, .int .i64 0, .int .i64 0, .int .i64 0]], []⟩ 8 (by kernel_rfl) (by kernel_rfl) (by kernel_rfl) (by kernel_rfl)) ?_
  intro W base args ds gs before hval0 hW hcnd _
  have hval : ∀ (j : Nat) t v, Try.f7.params[j]? = some t → args[j]? = some v → Value.okWide Try.prog W .any base t v := hval0
  have hW' := hW
  obtain ⟨p, q, hA0, hV, rfl, hfz, hnd⟩ := hW
  have hA : DataW.TrodAll enc Try.prog W 0 (fun _ => true) true Try.f7.params.toList args.toList ds p := hA0
  rw [Try.params7] at hA hval
  obtain ⟨v0, d0, rfl, rfl, h0⟩ := trodAll_one hA
  obtain ⟨rfl, rfl⟩ := trodVars_none hV
  obtain ⟨zs, hlen, rfl, -⟩ := open_ints_agg Try.underlying35 (by kernel_rfl) (N := 7) (by kernel_rfl) (by kernel_rfl) Try.underlying3 (by kernel_rfl) (hval 0 35 v0 rfl rfl) h0
  obtain ⟨a0, a1, a2, a3, a4, a5, a6, rfl⟩ := list7 hlen
  refine (lawIsCert_any a0 a1 a2 a3 a4 a5 a6 W).mono fun e W' ⟨he, hb⟩ => ?_
  subst he
  exact ⟨_, rfl, post_true hW' rfl Try.laidOut (by kernel_rfl) rfl Try.underlying4 rfl hb⟩

theorem lawIsCert_holds : Rows.FnExactIsCertSaid :=
  OpenClaim.holds_of_wide 7 Try.f7 rfl rfl rfl rfl rfl rfl rfl ⟨rfl, rfl, rfl, rfl, rfl⟩ rfl rfl rfl rfl rfl (by kernel_rfl) Try.func7 (by kernel_rfl)
    (of_decide_eq_true (by kernel_rfl)) (by unfold Func.isWrapper; first | (rw [if_pos (by decide +kernel)]; kernel_rfl) | (rw [if_neg (by decide +kernel)]; exact ⟨rfl, rfl⟩))
    (fun os started H enc _ => lawIsCert_lifted os started H enc)
end Go.Proofs.Ytjdbaeoedfkegaa
