/- The law FnExactCheckSuccession is true of every input: the program's CheckSuccession and the reference's return the same, and leave their arguments as they were. No condition. -/
import Derived.Test.YtjacbpmkdlngaaaRows
import Derived.Test.YtjacbpmkdlngaaaBase
import Derived.Test.YtjacbpmkdlngaaaOpen
import Derived.Test.YtjacbpmkdlngaaaPlain
import Derived.Test.YtjacbpmkdlngaaaHelpKey
import Derived.Test.YtjacbpmkdlngaaaHelpSuccession
import Derived.Test.YtjacbpmkdlngaaaCheckSuccession
namespace Go.Proofs.Ytjacbpmkdlngaaa
open Go.ChangeShapes Go.WideShapes Go.ChangeAt Go.RowKit Go.Deep

set_option maxHeartbeats 4000000 in
theorem lawCheckSuccession_any_no {ks : List (List Int)} {v0 : Value} (a0 a1 a2 a3 : Int) (w : World) (s0 : Sl w.heap.size w 5 v0 ks) (hs0 : ∀ r ∈ ks, r.length = 5) (hno : Hid (findI 0 a0 ks = -1 ∨ findI 0 a1 ks = -1 ∨ (a0 == a1) = true ∨ (∃ i k : Nat, findI 0 a0 ks = (i : Int) ∧ findI 0 a1 ks = (k : Int) ∧ (fld ks i 1 == fld ks k 1) = false) ∨ timeB a2 = false)) :
    Calls Try.prog 6 #[v0, .agg #[iv a0, iv a1, iv a2, iv a3]] w (Ret (.bool true) w) := by
  obtain ⟨A0, c0, rfl, hca0, hcb0, -⟩ := id s0
  have H0 : Below w.heap.size w (w.alloc (.cells #[iv a0, iv a1, iv a2, iv a3] 45)) := (below_alloc _ _)
  by_cases hl0 : ks.length ≤ 1048576
  rotate_left
  · have HH := hid H0
    clear H0
    go_enter Try.func6, Try.ntmps6
    go_wp2_with fail
    refine (szKeyS_no _ _ (by omega) (by omega) (by omega) (by omega)).mono ?_
    rintro e w' ⟨rfl, rfl⟩
    go_wp2
    go_ret
    exact ⟨rfl, HH.out⟩
  have HS : Hid (∀ w' : World, Below (w.alloc (.cells #[iv a0, iv a1, iv a2, iv a3] 45)).heap.size (w.alloc (.cells #[iv a0, iv a1, iv a2, iv a3] 45)) w' → (w'.cell? ⟨w.heap.size, 0, none⟩ = some (iv a0) ∧ w'.cell? ⟨w.heap.size, 1, none⟩ = some (iv a1) ∧ w'.cell? ⟨w.heap.size, 2, none⟩ = some (iv a2) ∧ w'.cell? ⟨w.heap.size, 3, none⟩ = some (iv a3) ∧ Below (w.alloc (.cells #[iv a0, iv a1, iv a2, iv a3] 45)).heap.size (w.alloc (.cells #[iv a0, iv a1, iv a2, iv a3] 45)) w')) := hid fun w' hx => ⟨(hx.cell (p := ⟨w.heap.size, 0, none⟩) (by simp)).trans (by simp [go_sem]), (hx.cell (p := ⟨w.heap.size, 1, none⟩) (by simp)).trans (by simp [go_sem]), (hx.cell (p := ⟨w.heap.size, 2, none⟩) (by simp)).trans (by simp [go_sem]), (hx.cell (p := ⟨w.heap.size, 3, none⟩) (by simp)).trans (by simp [go_sem]), hx⟩
  go_enter Try.func6, Try.ntmps6
  go_wp2_with fail
  refine (szKeyS_ok _ _ (by omega) (by omega) (by omega)).mono ?_
  rintro e w' ⟨rfl, rfl⟩
  replace s0 := s0.step H0
  have HH := hid H0
  clear H0
  have HX : Below (w.alloc (.cells #[iv a0, iv a1, iv a2, iv a3] 45)).heap.size (w.alloc (.cells #[iv a0, iv a1, iv a2, iv a3] 45)) (w.alloc (.cells #[iv a0, iv a1, iv a2, iv a3] 45)) := Below.refl _ _
  go_wp2_with fail
  go_region_held3 (fun w' => w'.cell? ⟨w.heap.size, 0, none⟩ = some (iv a0) ∧ w'.cell? ⟨w.heap.size, 1, none⟩ = some (iv a1) ∧ w'.cell? ⟨w.heap.size, 2, none⟩ = some (iv a2) ∧ w'.cell? ⟨w.heap.size, 3, none⟩ = some (iv a3) ∧ Below (w.alloc (.cells #[iv a0, iv a1, iv a2, iv a3] 45)).heap.size (w.alloc (.cells #[iv a0, iv a1, iv a2, iv a3] 45)) w') (first | exact HS.out _ HX.drew | exact HS.out _ HZ1.out | exact HS.out _ HZ2.out | exact HS.out _ HZ3.out | go_keep)
    (first | (go_at_call 17; refine (toKeyS_any _ (s0.below HX.drew (Nat.le_refl _)) hs0 HX.drew.size (by omega)).mono ?_; rintro e w1 ⟨o1, rfl, ho1, hb1⟩; have HZ1 := hid (below_step HX.drew hb1); have t1 := (Own.sl ho1 hs0)) | (go_at_call 29; refine (toSuccession_any _ _ _ _ _).mono ?_; rintro e w2 ⟨rfl, hb2⟩; have HZ2 := hid (below_step HZ1.out hb2); have t1x2 := t1.step hb2) | (go_at_call 28; refine (specCheckSuccession_any_no _ _ _ _ _ t1x2 (Nat.le_refl _) hno.out).mono ?_; rintro e w3 ⟨rfl, hb3⟩; have HZ3 := hid (below_step HZ2.out hb3)))
  replace HX := HZ3.out
  clear HZ1
  clear HZ2
  clear HZ3
  obtain ⟨hcX, -⟩ := bcell HX
  go_wp2_with fail
  clear hcX
  refine (toKeyS_any _ (s0.below HX (Nat.le_refl _)) hs0 HX.size (by omega)).mono ?_
  rintro e w4 ⟨o4, rfl, ho4, hb4⟩
  replace HX := below_step HX hb4
  have t4 := (Own.sl ho4 hs0)
  obtain ⟨hcX, -⟩ := bcell HX
  go_wp2_with fail
  clear hcX
  refine (toSuccession_any _ _ _ _ _).mono ?_
  rintro e w5 ⟨rfl, hb5⟩
  replace HX := below_step HX hb5
  replace t4 := t4.step hb5
  go_wp2_with fail
  refine (implCheckSuccession_any_no _ _ _ _ _ t4 (Nat.le_refl _) hno.out).mono ?_
  rintro e w6 ⟨rfl, hb6⟩
  replace HX := below_step HX hb6
  replace t4 := t4.step hb6
  go_wp2_with fail
  refine (toKeyS_any _ (s0.below HX (Nat.le_refl _)) hs0 HX.size (by omega)).mono ?_
  rintro e w7 ⟨o7, rfl, ho7, hb7⟩
  replace HX := below_step HX hb7
  replace t4 := t4.step hb7
  have t7 := (Own.sl ho7 hs0)
  go_wp2_with fail
  refine (eqKeyS_any _ t4 t7 (Nat.le_refl _)).mono ?_
  rintro e w8 ⟨rfl, hb8⟩
  replace HX := below_step HX hb8
  replace t4 := t4.step hb8
  replace t7 := t7.step hb8
  clear t7
  go_wp2
  go_ret
  exact ⟨rfl, below_step HH.out HX⟩

set_option maxHeartbeats 4000000 in
theorem lawCheckSuccession_any_yes {ks : List (List Int)} {v0 : Value} (a0 a1 a2 a3 : Int) (w : World) (s0 : Sl w.heap.size w 5 v0 ks) (hs0 : ∀ r ∈ ks, r.length = 5) (i k : Nat) (hyes : Hid (i < ks.length ∧ findI 0 a0 ks = (i : Int) ∧ k < ks.length ∧ findI 0 a1 ks = (k : Int) ∧ (a0 == a1) = false ∧ (fld ks i 1 == fld ks k 1) = true ∧ timeB a2 = true)) :
    Calls Try.prog 6 #[v0, .agg #[iv a0, iv a1, iv a2, iv a3]] w (Ret (.bool true) w) := by
  obtain ⟨A0, c0, rfl, hca0, hcb0, -⟩ := id s0
  have H0 : Below w.heap.size w (w.alloc (.cells #[iv a0, iv a1, iv a2, iv a3] 45)) := (below_alloc _ _)
  by_cases hl0 : ks.length ≤ 1048576
  rotate_left
  · have HH := hid H0
    clear H0
    go_enter Try.func6, Try.ntmps6
    go_wp2_with fail
    refine (szKeyS_no _ _ (by omega) (by omega) (by omega) (by omega)).mono ?_
    rintro e w' ⟨rfl, rfl⟩
    go_wp2
    go_ret
    exact ⟨rfl, HH.out⟩
  have HS : Hid (∀ w' : World, Below (w.alloc (.cells #[iv a0, iv a1, iv a2, iv a3] 45)).heap.size (w.alloc (.cells #[iv a0, iv a1, iv a2, iv a3] 45)) w' → (w'.cell? ⟨w.heap.size, 0, none⟩ = some (iv a0) ∧ w'.cell? ⟨w.heap.size, 1, none⟩ = some (iv a1) ∧ w'.cell? ⟨w.heap.size, 2, none⟩ = some (iv a2) ∧ w'.cell? ⟨w.heap.size, 3, none⟩ = some (iv a3) ∧ Below (w.alloc (.cells #[iv a0, iv a1, iv a2, iv a3] 45)).heap.size (w.alloc (.cells #[iv a0, iv a1, iv a2, iv a3] 45)) w')) := hid fun w' hx => ⟨(hx.cell (p := ⟨w.heap.size, 0, none⟩) (by simp)).trans (by simp [go_sem]), (hx.cell (p := ⟨w.heap.size, 1, none⟩) (by simp)).trans (by simp [go_sem]), (hx.cell (p := ⟨w.heap.size, 2, none⟩) (by simp)).trans (by simp [go_sem]), (hx.cell (p := ⟨w.heap.size, 3, none⟩) (by simp)).trans (by simp [go_sem]), hx⟩
  go_enter Try.func6, Try.ntmps6
  go_wp2_with fail
  refine (szKeyS_ok _ _ (by omega) (by omega) (by omega)).mono ?_
  rintro e w' ⟨rfl, rfl⟩
  replace s0 := s0.step H0
  have HH := hid H0
  clear H0
  have HX : Below (w.alloc (.cells #[iv a0, iv a1, iv a2, iv a3] 45)).heap.size (w.alloc (.cells #[iv a0, iv a1, iv a2, iv a3] 45)) (w.alloc (.cells #[iv a0, iv a1, iv a2, iv a3] 45)) := Below.refl _ _
  go_wp2_with fail
  go_region_held3 (fun w' => w'.cell? ⟨w.heap.size, 0, none⟩ = some (iv a0) ∧ w'.cell? ⟨w.heap.size, 1, none⟩ = some (iv a1) ∧ w'.cell? ⟨w.heap.size, 2, none⟩ = some (iv a2) ∧ w'.cell? ⟨w.heap.size, 3, none⟩ = some (iv a3) ∧ Below (w.alloc (.cells #[iv a0, iv a1, iv a2, iv a3] 45)).heap.size (w.alloc (.cells #[iv a0, iv a1, iv a2, iv a3] 45)) w') (first | exact HS.out _ HX.drew | exact HS.out _ HZ1.out | exact HS.out _ HZ2.out | exact HS.out _ HZ3.out | go_keep)
    (first | (go_at_call 17; refine (toKeyS_any _ (s0.below HX.drew (Nat.le_refl _)) hs0 HX.drew.size (by omega)).mono ?_; rintro e w1 ⟨o1, rfl, ho1, hb1⟩; have HZ1 := hid (below_step HX.drew hb1); have t1 := (Own.sl ho1 hs0)) | (go_at_call 29; refine (toSuccession_any _ _ _ _ _).mono ?_; rintro e w2 ⟨rfl, hb2⟩; have HZ2 := hid (below_step HZ1.out hb2); have t1x2 := t1.step hb2) | (go_at_call 28; refine (specCheckSuccession_any_yes _ _ _ _ _ t1x2 (Nat.le_refl _) i hyes.out.1 hyes.out.2.1 k hyes.out.2.2.1 hyes.out.2.2.2.1 hyes.out.2.2.2.2.1 hyes.out.2.2.2.2.2.1 hyes.out.2.2.2.2.2.2).mono ?_; rintro e w3 ⟨rfl, hb3⟩; have HZ3 := hid (below_step HZ2.out hb3)))
  replace HX := HZ3.out
  clear HZ1
  clear HZ2
  clear HZ3
  obtain ⟨hcX, -⟩ := bcell HX
  go_wp2_with fail
  clear hcX
  refine (toKeyS_any _ (s0.below HX (Nat.le_refl _)) hs0 HX.size (by omega)).mono ?_
  rintro e w4 ⟨o4, rfl, ho4, hb4⟩
  replace HX := below_step HX hb4
  have t4 := (Own.sl ho4 hs0)
  obtain ⟨hcX, -⟩ := bcell HX
  go_wp2_with fail
  clear hcX
  refine (toSuccession_any _ _ _ _ _).mono ?_
  rintro e w5 ⟨rfl, hb5⟩
  replace HX := below_step HX hb5
  replace t4 := t4.step hb5
  go_wp2_with fail
  refine (implCheckSuccession_any_yes _ _ _ _ _ t4 (Nat.le_refl _) i hyes.out.1 hyes.out.2.1 k hyes.out.2.2.1 hyes.out.2.2.2.1 hyes.out.2.2.2.2.1 hyes.out.2.2.2.2.2.1 hyes.out.2.2.2.2.2.2).mono ?_
  rintro e w6 ⟨rfl, hb6⟩
  replace HX := below_step HX hb6
  replace t4 := t4.step hb6
  go_wp2_with fail
  refine (toKeyS_any _ (s0.below HX (Nat.le_refl _)) hs0 HX.size (by omega)).mono ?_
  rintro e w7 ⟨o7, rfl, ho7, hb7⟩
  replace HX := below_step HX hb7
  replace t4 := t4.step hb7
  have t7 := (Own.sl ho7 hs0)
  go_wp2_with fail
  refine (eqKeyS_any _ t4 t7 (Nat.le_refl _)).mono ?_
  rintro e w8 ⟨rfl, hb8⟩
  replace HX := below_step HX hb8
  replace t4 := t4.step hb8
  replace t7 := t7.step hb8
  clear t7
  go_wp2
  go_ret
  exact ⟨rfl, below_step HH.out HX⟩

theorem lawCheckSuccession_any {ks : List (List Int)} {v0 : Value} (a0 a1 a2 a3 : Int) (w : World) (s0 : Sl w.heap.size w 5 v0 ks) (hs0 : ∀ r ∈ ks, r.length = 5) :
    Calls Try.prog 6 #[v0, .agg #[iv a0, iv a1, iv a2, iv a3]] w (Ret (.bool true) w) := by
  rcases findI_range 0 a0 ks with hf | ⟨i, hi, hf, -⟩
  · exact lawCheckSuccession_any_no a0 a1 a2 a3 w s0 hs0 (.inl hf)
  · rcases findI_range 0 a1 ks with hf2 | ⟨k, hk, hf2, -⟩
    · exact lawCheckSuccession_any_no a0 a1 a2 a3 w s0 hs0 (.inr (.inl hf2))
    · cases hne : (a0 == a1)
      · cases how : (fld ks i 1 == fld ks k 1)
        · exact lawCheckSuccession_any_no a0 a1 a2 a3 w s0 hs0 (.inr (.inr (.inr (.inl ⟨i, k, hf, hf2, how⟩))))
        · cases ht : timeB a2
          · exact lawCheckSuccession_any_no a0 a1 a2 a3 w s0 hs0 (.inr (.inr (.inr (.inr ht))))
          · exact lawCheckSuccession_any_yes a0 a1 a2 a3 w s0 hs0 i k ⟨hi, hf, hk, hf2, hne, how, ht⟩
      · exact lawCheckSuccession_any_no a0 a1 a2 a3 w s0 hs0 (.inr (.inr (.inl hne)))


set_option maxRecDepth 100000 in
theorem lawCheckSuccession_lifted (os : Os) (started : os.Started) (H : Type) (enc : TypeId × Value → H) :
    ReturnsInHanded {} Try.checked os 6 .any (Rows.fnExactCheckSuccessionSpec.pre6 enc Try.prog Try.f6 Rows.fnExactCheckSuccessionRow.domain false) (Rows.fnExactCheckSuccessionSpec.post enc Try.prog Try.f6 false true false false) := by
  refine returnsInHanded_of_change (C := Try.checked) Try.own started (by kernel_rfl) Try.func6
    (ChangeSpec.witness6 (enc := enc) (C := Try.checked) false ⟨#[], #[.slice none 0 0, .agg #[.int .i64 0, .int .i64 0, .int .i64 0, .int .i64 0]], []⟩ 8 (by kernel_rfl) (by kernel_rfl) (by kernel_rfl) (by kernel_rfl)) ?_
  intro W base args ds gs before hval0 hW hcnd _
  have hval : ∀ (j : Nat) t v, Try.f6.params[j]? = some t → args[j]? = some v → Value.okWide Try.prog W .any base t v := hval0
  have hW' := hW
  obtain ⟨p, q, hA0, hV, rfl, hfz, hnd⟩ := hW
  have hA : DataW.TrodAll enc Try.prog W 0 (fun _ => true) true Try.f6.params.toList args.toList ds p := hA0
  rw [Try.params6] at hA hval
  obtain ⟨v0, v1, d0, d1, p0, p1, rfl, rfl, rfl, h0, h1⟩ := trodAll_two hA
  obtain ⟨rfl, rfl⟩ := trodVars_none hV
  obtain ⟨ks, s0, hs0, -⟩ := open_rows Try.underlying22 Try.underlying89 (by kernel_rfl) (N := 5) (by kernel_rfl) (by kernel_rfl) (by decide) Try.underlying3 (by kernel_rfl) (hval 0 22 v0 rfl rfl) h0
  obtain ⟨zs1, hlen1, rfl, -⟩ := open_ints_agg Try.underlying45 (by kernel_rfl) (N := 4) (by kernel_rfl) (by kernel_rfl) Try.underlying3 (by kernel_rfl) (hval 1 45 v1 rfl rfl) h1
  obtain ⟨a0, a1, a2, a3, rfl⟩ := list4 hlen1
  refine (lawCheckSuccession_any a0 a1 a2 a3 W s0 hs0).mono fun e W' ⟨he, hb⟩ => ?_
  subst he
  exact ⟨_, rfl, post_true hW' rfl Try.laidOut (by kernel_rfl) rfl Try.underlying4 rfl hb⟩

theorem lawCheckSuccession_holds : Rows.FnExactCheckSuccessionSaid :=
  OpenClaim.holds_of_wide 6 Try.f6 rfl rfl rfl rfl rfl rfl rfl ⟨rfl, rfl, rfl, rfl, rfl⟩ rfl rfl rfl rfl rfl (by kernel_rfl) Try.func6 (by kernel_rfl)
    (of_decide_eq_true (by kernel_rfl)) (by unfold Func.isWrapper; first | (rw [if_pos (by decide +kernel)]; kernel_rfl) | (rw [if_neg (by decide +kernel)]; exact ⟨rfl, rfl⟩))
    (fun os started H enc _ => lawCheckSuccession_lifted os started H enc)
end Go.Proofs.Ytjacbpmkdlngaaa
