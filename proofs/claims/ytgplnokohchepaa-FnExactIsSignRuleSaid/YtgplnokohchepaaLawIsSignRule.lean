/- The law FnExactIsSignRule is true of every input: the program's IsSignRule and the reference's return the same, and leave their arguments as they were. No condition. -/
import Derived.Test.YtgplnokohchepaaRows
import Derived.Test.YtgplnokohchepaaBase
import Derived.Test.YtgplnokohchepaaOpen
import Derived.Test.YtgplnokohchepaaPlain
import Derived.Test.YtgplnokohchepaaApart
import Derived.Test.YtgplnokohchepaaHelpSignRule
import Derived.Test.YtgplnokohchepaaIsSignRule
import Derived.Test.YtgplnokohchepaaOpenRule
namespace Go.Proofs.Ytgplnokohchepaa
open Go.ChangeShapes Go.WideShapes Go.ChangeAt Go.RowKit Go.Deep

set_option maxRecDepth 8000 in
set_option maxHeartbeats 4000000 in
theorem lawIsSignRule_any {os : List Int} {v0 : Value} (b0 : Bool) (w : World) (s0 : Si w.heap.size w v0 os) :
    Calls Try.prog 12 #[.agg #[v0, .bool b0]] w (Ret (.bool true) w) := by
  obtain ⟨A0, c0, rfl, hca0, hcb0, -⟩ := id s0
  have H0 : Below w.heap.size w (w.alloc (.cells #[.slice A0 os.length c0, .bool b0] 64)) := (below_alloc _ _)
  by_cases hl0 : os.length ≤ 1048576
  rotate_left
  · have HH := hid H0
    clear H0
    go_enter Try.func12, Try.ntmps12
    have HX : Below (w.alloc (.cells #[.slice A0 os.length c0, .bool b0] 64)).heap.size (w.alloc (.cells #[.slice A0 os.length c0, .bool b0] 64)) (w.alloc (.cells #[.slice A0 os.length c0, .bool b0] 64)) := Below.refl _ _
    obtain ⟨hcX, -⟩ := bcell HX
    go_wp2_with fail
    clear hcX
    refine (szSignRule_no _ _ _ (by omega) (by omega) (by omega) (by omega)).mono ?_
    rintro e w1 ⟨rfl, hb1⟩
    have Z1 := hid hb1.size
    replace HX := below_step HX hb1
    go_wp2
    go_ret
    exact ⟨rfl, below_step HH.out HX⟩
  go_enter Try.func12, Try.ntmps12
  replace s0 := s0.step H0
  have HH := hid H0
  clear H0
  have HX : Below (w.alloc (.cells #[.slice A0 os.length c0, .bool b0] 64)).heap.size (w.alloc (.cells #[.slice A0 os.length c0, .bool b0] 64)) (w.alloc (.cells #[.slice A0 os.length c0, .bool b0] 64)) := Below.refl _ _
  obtain ⟨hcX, -⟩ := bcell HX
  go_wp2_with fail
  clear hcX
  refine (szSignRule_ok _ _ _ (by omega) (by omega) (by omega)).mono ?_
  rintro e w1 ⟨rfl, hb1⟩
  have Z1 := hid hb1.size
  replace HX := below_step HX hb1
  obtain ⟨hcX, -⟩ := bcell HX
  go_wp2_with fail
  clear hcX
  refine (toSignRule_any b0 _ (s0.below HX (Nat.le_refl _)) HX.size (by omega)).mono ?_
  rintro e w2 ⟨o2, rfl, ho2, hb2⟩
  have Z2 := hid hb2.size
  replace HX := below_step HX hb2
  obtain ⟨G2, d2, rfl⟩ := ownsRow_form ho2.1
  obtain ⟨hcX, -⟩ := bcell HX
  go_wp2_with fail
  clear hcX
  refine (specIsSignRule_any b0 _ ((Own.si (zs := os) ho2).mono (Nat.le_refl _)) (Nat.le_refl _) ).mono ?_
  rintro e w3 ⟨rfl, hb3⟩
  have Z3 := hid hb3.size
  replace HX := below_step HX hb3
  replace ho2 := ho2.below hb3 (Nat.le_refl _)
  clear ho2
  obtain ⟨hcX, -⟩ := bcell HX
  go_wp2_with fail
  clear hcX
  refine (toSignRule_any b0 _ (s0.below HX (Nat.le_refl _)) HX.size (by omega)).mono ?_
  rintro e w4 ⟨o4, rfl, ho4, hb4⟩
  have Z4 := hid hb4.size
  replace HX := below_step HX hb4
  obtain ⟨G4, d4, rfl⟩ := ownsRow_form ho4.1
  have Z5 := hid (below_alloc w4 (.cells #[.slice G4 os.length d4, .bool b0] 67)).size
  replace HX := below_step HX (below_alloc w4 (.cells #[.slice G4 os.length d4, .bool b0] 67))
  replace ho4 := ho4.below (below_alloc w4 (.cells #[.slice G4 os.length d4, .bool b0] 67)) (Nat.le_refl _)
  have hbx0 : (w4.alloc (.cells #[.slice G4 os.length d4, .bool b0] 67)).heap[w4.heap.size]? = some (.cells #[.slice G4 os.length d4, .bool b0] 67) := heap_new _ _
  obtain ⟨hcX, -⟩ := bcell HX
  have hx0_0 := cell_in hbx0 0 (u := .slice G4 os.length d4) rfl
  have hx0_1 := cell_in hbx0 1 (u := .bool b0) rfl
  go_wp2_with fail
  clear hcX hx0_0 hx0_1
  refine (implIsSignRule_any b0 _ ((Own.si (zs := os) ho4).mono Z5.out) (Nat.le_refl _) ).mono ?_
  rintro e w6 ⟨rfl, hb6⟩
  have Z6 := hid hb6.size
  replace HX := below_step HX hb6
  replace ho4 := ho4.below hb6 Z5.out
  replace hbx0 := (hb6.block _ (Nat.lt_of_lt_of_le (by simp) (Nat.le_refl _))).trans hbx0
  have HR : Hid (∀ w' : World, Below w6.heap.size w6 w' → (w'.cell? ⟨w.heap.size, 0, none⟩ = some (.slice A0 os.length c0) ∧ w'.cell? ⟨w.heap.size, 1, none⟩ = some (.bool b0) ∧ w'.cell? ⟨w4.heap.size, 0, none⟩ = some (.slice G4 os.length d4) ∧ w'.cell? ⟨w4.heap.size, 1, none⟩ = some (.bool b0) ∧ Below w6.heap.size w6 w')) := hid fun w' hx => ⟨((below_step HX hx).cell (p := ⟨w.heap.size, 0, none⟩) (by simp)).trans (by simp [go_sem]), ((below_step HX hx).cell (p := ⟨w.heap.size, 1, none⟩) (by simp)).trans (by simp [go_sem]), cell_in ((hx.block _ (Nat.lt_of_lt_of_le (by simp) Z6.out)).trans hbx0) 0 rfl, cell_in ((hx.block _ (Nat.lt_of_lt_of_le (by simp) Z6.out)).trans hbx0) 1 rfl, hx⟩
  go_wp2_with fail
  go_region_held3 (fun w' => w'.cell? ⟨w.heap.size, 0, none⟩ = some (.slice A0 os.length c0) ∧ w'.cell? ⟨w.heap.size, 1, none⟩ = some (.bool b0) ∧ w'.cell? ⟨w4.heap.size, 0, none⟩ = some (.slice G4 os.length d4) ∧ w'.cell? ⟨w4.heap.size, 1, none⟩ = some (.bool b0) ∧ Below w6.heap.size w6 w') (first | with_reducible exact HR.out _ (Below.refl w6.heap.size w6).drew | with_reducible exact HR.out _ HZ7.out | with_reducible exact HR.out _ HZ8.out | go_keep)
    (first | (go_at_call 48; refine (toSignRule_any b0 _ (s0.below (below_step HX (Below.refl w6.heap.size w6).drew) (Nat.le_refl _)) (Nat.le_trans HX.size (Below.refl w6.heap.size w6).drew.size) (by omega)).mono ?_; rintro e w7 ⟨o7, rfl, ho7, hb7⟩; have HZ7 := hid (below_step (Below.refl w6.heap.size w6).drew hb7); have u7 := (((Own.si (zs := os) ho4).below HZ7.out (Nat.le_trans Z5.out Z6.out)).mono (Nat.le_trans (Nat.le_trans Z5.out Z6.out) HZ7.out.size)); have t7 := (Own.si (zs := os) ho7)) | (go_at_call 50; refine (eqSignRule_any b0 _ u7 t7 (Nat.le_refl _)).mono ?_; rintro e w8 ⟨rfl, hb8⟩; have HZ8 := hid (below_step HZ7.out hb8)))
  have hbR8 := HZ8.out
  have Z7 : Hid (w6.heap.size ≤ w7.heap.size) := hid hb7.size
  have Z8 : Hid (w7.heap.size ≤ w8.heap.size) := hid hb8.size
  replace HX := below_step HX hbR8
  replace ho4 := ho4.below hbR8 (Nat.le_trans Z5.out Z6.out)
  replace hbx0 := (hbR8.block _ (Nat.lt_of_lt_of_le (by simp) Z6.out)).trans hbx0
  clear HR HZ7 HZ8
  go_wp2
  go_ret
  exact ⟨rfl, below_step HH.out HX⟩

set_option maxRecDepth 100000 in
theorem lawIsSignRule_lifted (os : Os) (started : os.Started) (H : Type) (enc : TypeId × Value → H) :
    ReturnsInHanded {} Try.checked os 12 .any (Rows.fnExactIsSignRuleSpec.pre6 enc Try.prog Try.f12 Rows.fnExactIsSignRuleRow.domain false) (Rows.fnExactIsSignRuleSpec.post enc Try.prog Try.f12 false true false false) := by
  refine returnsInHanded_of_change (C := Try.checked) Try.own started (by kernel_rfl) Try.func12
    (ChangeSpec.witness6 (enc := enc) (C := Try.checked) false ⟨#[], #[.agg #[.slice none 0 0, .bool false]], []⟩ 8 (by kernel_rfl) (by kernel_rfl) (by kernel_rfl) (by kernel_rfl)) ?_
  intro W base args ds gs before hval0 hW hcnd _
  have hval : ∀ (j : Nat) t v, Try.f12.params[j]? = some t → args[j]? = some v → Value.okWide Try.prog W .any base t v := hval0
  have hW' := hW
  obtain ⟨p, q, hA0, hV, rfl, hfz, hnd⟩ := hW
  have hA : DataW.TrodAll enc Try.prog W 0 (fun _ => true) true Try.f12.params.toList args.toList ds p := hA0
  rw [Try.params12] at hA hval
  obtain ⟨v0, d0, rfl, rfl, h0⟩ := trodAll_one hA
  obtain ⟨rfl, rfl⟩ := trodVars_none hV
  obtain ⟨os, u0, b0, rfl, s0⟩ := open_rule Try.underlying64 (by kernel_rfl) (by kernel_rfl) Try.underlying62 Try.underlying3 (by kernel_rfl) Try.underlying4 (hval 0 64 v0 rfl rfl) h0
  refine (lawIsSignRule_any b0 W s0).mono fun e W' ⟨he, hb⟩ => ?_
  subst he
  exact ⟨_, rfl, post_true hW' rfl Try.laidOut (by kernel_rfl) rfl Try.underlying4 rfl hb⟩

theorem lawIsSignRule_holds : Rows.FnExactIsSignRuleSaid :=
  OpenClaim.holds_of_wide 12 Try.f12 rfl rfl rfl rfl rfl rfl rfl ⟨rfl, rfl, rfl, rfl, rfl⟩ rfl rfl rfl rfl rfl (by kernel_rfl) Try.func12 (by kernel_rfl)
    (of_decide_eq_true (by kernel_rfl)) (by unfold Func.isWrapper; first | (rw [if_pos (by decide +kernel)]; kernel_rfl) | (rw [if_neg (by decide +kernel)]; exact ⟨rfl, rfl⟩))
    (fun os started H enc _ => lawIsSignRule_lifted os started H enc)
end Go.Proofs.Ytgplnokohchepaa
