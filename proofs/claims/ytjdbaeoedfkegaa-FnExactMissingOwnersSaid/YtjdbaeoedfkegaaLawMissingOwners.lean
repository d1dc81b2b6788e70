/- The law FnExactMissingOwners is true of every input: the program's MissingOwners and the reference's return the same, and leave their arguments as they were. No condition. -/
import Derived.Test.YtjdbaeoedfkegaaRows
import Derived.Test.YtjdbaeoedfkegaaBase
import Derived.Test.YtjdbaeoedfkegaaOpen
import Derived.Test.YtjdbaeoedfkegaaPlain
import Derived.Test.YtjdbaeoedfkegaaApart
import Derived.Test.YtjdbaeoedfkegaaHelpI
import Derived.Test.YtjdbaeoedfkegaaHelpKey
import Derived.Test.YtjdbaeoedfkegaaHelpSignature
import Derived.Test.YtjdbaeoedfkegaaHelpSignRule
import Derived.Test.YtjdbaeoedfkegaaMkKey
import Derived.Test.YtjdbaeoedfkegaaMkInt
import Derived.Test.YtjdbaeoedfkegaaMkSignRule
import Derived.Test.YtjdbaeoedfkegaaMkSignature
import Derived.Test.YtjdbaeoedfkegaaMissing
import Derived.Test.YtjdbaeoedfkegaaOpenRule
namespace Go.Proofs.Ytjdbaeoedfkegaa
open Go.ChangeShapes Go.WideShapes Go.ChangeAt Go.RowKit Go.Deep

set_option maxRecDepth 8000 in
set_option maxHeartbeats 8000000 in
theorem lawMissingOwners_any {ks : List (List Int)} {v0 : Value} {os : List Int} {v1 : Value} (b1 : Bool) {ls : List (List Int)} {v2 : Value} (n : Int) (w : World) (s0 : Sl w.heap.size w 5 v0 ks) (hs0 : ∀ r ∈ ks, r.length = 5) (s1 : Si w.heap.size w v1 os) (s2 : Sl w.heap.size w 9 v2 ls) (hs2 : ∀ r ∈ ls, r.length = 9) :
    Calls Try.prog 10 #[v0, .agg #[v1, .bool b1], v2, iv n] w (Ret (.bool true) w) := by
  obtain ⟨A0, c0, rfl, hca0, hcb0, -⟩ := id s0
  obtain ⟨A1, c1, rfl, hca1, hcb1, -⟩ := id s1
  obtain ⟨A2, c2, rfl, hca2, hcb2, -⟩ := id s2
  have H0 : Below w.heap.size w (w.alloc (.cells #[.slice A1 os.length c1, .bool b1] 67)) := (below_alloc _ _)
  by_cases hl0 : ks.length ≤ 1048576
  rotate_left
  · have HH := hid H0
    clear H0
    go_enter Try.func10, Try.ntmps10
    have HX : Below (w.alloc (.cells #[.slice A1 os.length c1, .bool b1] 67)).heap.size (w.alloc (.cells #[.slice A1 os.length c1, .bool b1] 67)) (w.alloc (.cells #[.slice A1 os.length c1, .bool b1] 67)) := Below.refl _ _
    go_wp2_with fail
    refine (szKeyS_no _ _ (by omega) (by omega) (by omega) (by omega)).mono ?_
    rintro e w' ⟨rfl, rfl⟩
    go_wp2
    go_ret
    exact ⟨rfl, below_step HH.out HX⟩
  by_cases hl1 : ks.length + os.length ≤ 1048576
  rotate_left
  · have HH := hid H0
    clear H0
    go_enter Try.func10, Try.ntmps10
    have HX : Below (w.alloc (.cells #[.slice A1 os.length c1, .bool b1] 67)).heap.size (w.alloc (.cells #[.slice A1 os.length c1, .bool b1] 67)) (w.alloc (.cells #[.slice A1 os.length c1, .bool b1] 67)) := Below.refl _ _
    go_wp2_with fail
    refine (szKeyS_ok _ _ (by omega) (by omega) (by omega)).mono ?_
    rintro e w' ⟨rfl, rfl⟩
    obtain ⟨hcX, -⟩ := bcell HX
    go_wp2_with fail
    clear hcX
    refine (szSignRule_no _ _ _ (by omega) (by omega) (by omega) (by omega)).mono ?_
    rintro e w1 ⟨rfl, hb1⟩
    have Z1 := hid hb1.size
    replace HX := below_step HX hb1
    go_wp2
    go_ret
    exact ⟨rfl, below_step HH.out HX⟩
  by_cases hl2 : ks.length + os.length + ls.length ≤ 1048576
  rotate_left
  · have HH := hid H0
    clear H0
    go_enter Try.func10, Try.ntmps10
    have HX : Below (w.alloc (.cells #[.slice A1 os.length c1, .bool b1] 67)).heap.size (w.alloc (.cells #[.slice A1 os.length c1, .bool b1] 67)) (w.alloc (.cells #[.slice A1 os.length c1, .bool b1] 67)) := Below.refl _ _
    go_wp2_with fail
    refine (szKeyS_ok _ _ (by omega) (by omega) (by omega)).mono ?_
    rintro e w' ⟨rfl, rfl⟩
    obtain ⟨hcX, -⟩ := bcell HX
    go_wp2_with fail
    clear hcX
    refine (szSignRule_ok _ _ _ (by omega) (by omega) (by omega)).mono ?_
    rintro e w1 ⟨rfl, hb1⟩
    have Z1 := hid hb1.size
    replace HX := below_step HX hb1
    obtain ⟨hcX, -⟩ := bcell HX
    go_wp2_with fail
    clear hcX
    refine (szSignatureS_no _ _ (by omega) (by omega) (by omega) (by omega)).mono ?_
    rintro e w' ⟨rfl, rfl⟩
    go_wp2
    go_ret
    exact ⟨rfl, below_step HH.out HX⟩
  go_enter Try.func10, Try.ntmps10
  replace s0 := s0.step H0
  replace s1 := s1.step H0
  replace s2 := s2.step H0
  have HH := hid H0
  clear H0
  have HX : Below (w.alloc (.cells #[.slice A1 os.length c1, .bool b1] 67)).heap.size (w.alloc (.cells #[.slice A1 os.length c1, .bool b1] 67)) (w.alloc (.cells #[.slice A1 os.length c1, .bool b1] 67)) := Below.refl _ _
  go_wp2_with fail
  refine (szKeyS_ok _ _ (by omega) (by omega) (by omega)).mono ?_
  rintro e w' ⟨rfl, rfl⟩
  obtain ⟨hcX, -⟩ := bcell HX
  go_wp2_with fail
  clear hcX
  refine (szSignRule_ok _ _ _ (by omega) (by omega) (by omega)).mono ?_
  rintro e w1 ⟨rfl, hb1⟩
  have Z1 := hid hb1.size
  replace HX := below_step HX hb1
  obtain ⟨hcX, -⟩ := bcell HX
  go_wp2_with fail
  clear hcX
  refine (szSignatureS_ok _ _ (by omega) (by omega) (by omega)).mono ?_
  rintro e w' ⟨rfl, rfl⟩
  have hle := missI_le ks ls os n os.length
  have HR : Hid (∀ w' : World, Below w1.heap.size w1 w' → (w'.cell? ⟨w.heap.size, 0, none⟩ = some (.slice A1 os.length c1) ∧ w'.cell? ⟨w.heap.size, 1, none⟩ = some (.bool b1) ∧ Below w1.heap.size w1 w')) := hid fun w' hx => ⟨((below_step HX hx).cell (p := ⟨w.heap.size, 0, none⟩) (by simp)).trans (by simp [go_sem]), ((below_step HX hx).cell (p := ⟨w.heap.size, 1, none⟩) (by simp)).trans (by simp [go_sem]), hx⟩
  go_wp2_with fail
  go_region_held3 (fun w' => w'.cell? ⟨w.heap.size, 0, none⟩ = some (.slice A1 os.length c1) ∧ w'.cell? ⟨w.heap.size, 1, none⟩ = some (.bool b1) ∧ Below w1.heap.size w1 w') (first | with_reducible exact HR.out _ (Below.refl w1.heap.size w1).drew | with_reducible exact HR.out _ HZ2.out | with_reducible exact HR.out _ HZ3.out | with_reducible exact HR.out _ HZ4.out | with_reducible exact HR.out _ HZ5.out | go_keep)
    (first | (go_at_call 43; refine (toKeyS_any _ (s0.below (below_step HX (Below.refl w1.heap.size w1).drew) (Nat.le_refl _)) hs0 (Nat.le_trans HX.size (Below.refl w1.heap.size w1).drew.size) (by omega)).mono ?_; rintro e w2 ⟨o2, rfl, ho2, hb2⟩; have HZ2 := hid (below_step (Below.refl w1.heap.size w1).drew hb2); have t2 := (Own.sl (ks := ks) ho2 hs0)) | (go_at_call 44; refine (toSignRule_any b1 _ (s1.below (below_step HX HZ2.out) (Nat.le_refl _)) (Nat.le_trans HX.size HZ2.out.size) (by omega)).mono ?_; rintro e w3 ⟨o3, rfl, ho3, hb3⟩; have HZ3 := hid (below_step HZ2.out hb3); obtain ⟨G3, d3, rfl⟩ := ownsRow_form ho3.1; have t2x3 := t2.step hb3; have t3 := (Own.si (zs := os) ho3)) | (go_at_call 45; refine (toSignatureS_any _ (s2.below (below_step HX HZ3.out) (Nat.le_refl _)) hs2 (Nat.le_trans HX.size HZ3.out.size) (by omega)).mono ?_; rintro e w4 ⟨o4, rfl, ho4, hb4⟩; have HZ4 := hid (below_step HZ3.out hb4); have t2x4 := t2x3.step hb4; have t3x4 := t3.step hb4; have t4 := (Own.sl (ks := ls) ho4 hs2)) | (go_at_call 42; refine (specMissingOwners_any b1 _ _ t2x4 t3x4 t4 (Nat.le_refl _) (by omega)).mono ?_; rintro e w5 ⟨o5, rfl, ho5, hb5⟩; have HZ5 := hid (below_step HZ4.out hb5)))
  have hbR5 := HZ5.out
  have Z2 : Hid (w1.heap.size ≤ w2.heap.size) := hid hb2.size
  have Z3 : Hid (w2.heap.size ≤ w3.heap.size) := hid hb3.size
  have Z4 : Hid (w3.heap.size ≤ w4.heap.size) := hid hb4.size
  have Z5 : Hid (w4.heap.size ≤ w5.heap.size) := hid hb5.size
  replace HX := below_step HX hbR5
  clear HR HZ2 HZ3 HZ4 HZ5
  obtain ⟨hcX, -⟩ := bcell HX
  go_wp2_with fail
  clear hcX
  refine (toKeyS_any _ (s0.below HX (Nat.le_refl _)) hs0 HX.size (by omega)).mono ?_
  rintro e w6 ⟨o6, rfl, ho6, hb6⟩
  have Z6 := hid hb6.size
  replace HX := below_step HX hb6
  replace ho5 := ho5.below hb6 (Nat.le_refl _)
  obtain ⟨hcX, -⟩ := bcell HX
  go_wp2_with fail
  clear hcX
  refine (toSignRule_any b1 _ (s1.below HX (Nat.le_refl _)) HX.size (by omega)).mono ?_
  rintro e w7 ⟨o7, rfl, ho7, hb7⟩
  have Z7 := hid hb7.size
  replace HX := below_step HX hb7
  replace ho5 := ho5.below hb7 Z6.out
  replace ho6 := ho6.below hb7 (Nat.le_refl _)
  obtain ⟨G7, d7, rfl⟩ := ownsRow_form ho7.1
  have Z8 := hid (below_alloc w7 (.cells #[.slice G7 os.length d7, .bool b1] 75)).size
  replace HX := below_step HX (below_alloc w7 (.cells #[.slice G7 os.length d7, .bool b1] 75))
  replace ho5 := ho5.below (below_alloc w7 (.cells #[.slice G7 os.length d7, .bool b1] 75)) (Nat.le_trans Z6.out Z7.out)
  replace ho6 := ho6.below (below_alloc w7 (.cells #[.slice G7 os.length d7, .bool b1] 75)) Z7.out
  replace ho7 := ho7.below (below_alloc w7 (.cells #[.slice G7 os.length d7, .bool b1] 75)) (Nat.le_refl _)
  have hbx1 : (w7.alloc (.cells #[.slice G7 os.length d7, .bool b1] 75)).heap[w7.heap.size]? = some (.cells #[.slice G7 os.length d7, .bool b1] 75) := heap_new _ _
  obtain ⟨hcX, -⟩ := bcell HX
  have hx1_0 := cell_in hbx1 0 (u := .slice G7 os.length d7) rfl
  have hx1_1 := cell_in hbx1 1 (u := .bool b1) rfl
  go_wp2_with fail
  clear hcX hx1_0 hx1_1
  refine (toSignatureS_any _ (s2.below HX (Nat.le_refl _)) hs2 HX.size (by omega)).mono ?_
  rintro e w9 ⟨o9, rfl, ho9, hb9⟩
  have Z9 := hid hb9.size
  replace HX := below_step HX hb9
  replace ho5 := ho5.below hb9 (Nat.le_trans Z6.out (Nat.le_trans Z7.out Z8.out))
  replace ho6 := ho6.below hb9 (Nat.le_trans Z7.out Z8.out)
  replace ho7 := ho7.below hb9 Z8.out
  replace hbx1 := (hb9.block _ (Nat.lt_of_lt_of_le (by simp) (Nat.le_refl _))).trans hbx1
  obtain ⟨hcX, -⟩ := bcell HX
  have hx1_0 := cell_in hbx1 0 (u := .slice G7 os.length d7) rfl
  have hx1_1 := cell_in hbx1 1 (u := .bool b1) rfl
  go_wp2_with fail
  clear hcX hx1_0 hx1_1
  refine (implMissingOwners_any b1 _ _ ((Own.sl (ks := ks) ho6 hs0).mono (Nat.le_trans Z7.out (Nat.le_trans Z8.out Z9.out))) ((Own.si (zs := os) ho7).mono (Nat.le_trans Z8.out Z9.out)) ((Own.sl (ks := ls) ho9 hs2).mono (Nat.le_refl _)) (Nat.le_refl _) (by omega)).mono ?_
  rintro e w10 ⟨o10, rfl, ho10, hb10⟩
  have Z10 := hid hb10.size
  replace HX := below_step HX hb10
  replace ho5 := ho5.below hb10 (Nat.le_trans Z6.out (Nat.le_trans Z7.out (Nat.le_trans Z8.out Z9.out)))
  replace ho6 := ho6.below hb10 (Nat.le_trans Z7.out (Nat.le_trans Z8.out Z9.out))
  replace ho7 := ho7.below hb10 (Nat.le_trans Z8.out Z9.out)
  replace ho9 := ho9.below hb10 (Nat.le_refl _)
  replace hbx1 := (hb10.block _ (Nat.lt_of_lt_of_le (by simp) Z9.out)).trans hbx1
  obtain ⟨hcX, -⟩ := bcell HX
  have hx1_0 := cell_in hbx1 0 (u := .slice G7 os.length d7) rfl
  have hx1_1 := cell_in hbx1 1 (u := .bool b1) rfl
  go_wp2_with fail
  clear hcX hx1_0 hx1_1
  refine (eqIntS_any  _ ((Own.si (zs := missI ks ls os n os.length) ho10).mono (Nat.le_refl _)) ((Own.si (zs := missI ks ls os n os.length) ho5).mono (Nat.le_trans Z6.out (Nat.le_trans Z7.out (Nat.le_trans Z8.out (Nat.le_trans Z9.out Z10.out))))) (Nat.le_refl _)).mono ?_
  rintro e w11 ⟨rfl, hb11⟩
  have Z11 := hid hb11.size
  replace HX := below_step HX hb11
  replace ho5 := ho5.below hb11 (Nat.le_trans Z6.out (Nat.le_trans Z7.out (Nat.le_trans Z8.out (Nat.le_trans Z9.out Z10.out))))
  replace ho6 := ho6.below hb11 (Nat.le_trans Z7.out (Nat.le_trans Z8.out (Nat.le_trans Z9.out Z10.out)))
  replace ho7 := ho7.below hb11 (Nat.le_trans Z8.out (Nat.le_trans Z9.out Z10.out))
  replace ho9 := ho9.below hb11 Z10.out
  replace ho10 := ho10.below hb11 (Nat.le_refl _)
  replace hbx1 := (hb11.block _ (Nat.lt_of_lt_of_le (by simp) (Nat.le_trans Z9.out Z10.out))).trans hbx1
  obtain ⟨hcX, -⟩ := bcell HX
  have hx1_0 := cell_in hbx1 0 (u := .slice G7 os.length d7) rfl
  have hx1_1 := cell_in hbx1 1 (u := .bool b1) rfl
  go_wp2_with fail
  clear hcX hx1_0 hx1_1
  refine (toKeyS_any _ (s0.below HX (Nat.le_refl _)) hs0 HX.size (by omega)).mono ?_
  rintro e w12 ⟨o12, rfl, ho12, hb12⟩
  have Z12 := hid hb12.size
  replace HX := below_step HX hb12
  replace ho5 := ho5.below hb12 (Nat.le_trans Z6.out (Nat.le_trans Z7.out (Nat.le_trans Z8.out (Nat.le_trans Z9.out (Nat.le_trans Z10.out Z11.out)))))
  replace ho6 := ho6.below hb12 (Nat.le_trans Z7.out (Nat.le_trans Z8.out (Nat.le_trans Z9.out (Nat.le_trans Z10.out Z11.out))))
  replace ho7 := ho7.below hb12 (Nat.le_trans Z8.out (Nat.le_trans Z9.out (Nat.le_trans Z10.out Z11.out)))
  replace ho9 := ho9.below hb12 (Nat.le_trans Z10.out Z11.out)
  replace ho10 := ho10.below hb12 Z11.out
  replace hbx1 := (hb12.block _ (Nat.lt_of_lt_of_le (by simp) (Nat.le_trans Z9.out (Nat.le_trans Z10.out Z11.out)))).trans hbx1
  obtain ⟨hcX, -⟩ := bcell HX
  have hx1_0 := cell_in hbx1 0 (u := .slice G7 os.length d7) rfl
  have hx1_1 := cell_in hbx1 1 (u := .bool b1) rfl
  go_wp2_with fail
  clear hcX hx1_0 hx1_1
  refine (eqKeyS_any  _ ((Own.sl (ks := ks) ho6 hs0).mono (Nat.le_trans Z7.out (Nat.le_trans Z8.out (Nat.le_trans Z9.out (Nat.le_trans Z10.out (Nat.le_trans Z11.out Z12.out)))))) ((Own.sl (ks := ks) ho12 hs0).mono (Nat.le_refl _)) (Nat.le_refl _)).mono ?_
  rintro e w13 ⟨rfl, hb13⟩
  have Z13 := hid hb13.size
  replace HX := below_step HX hb13
  replace ho5 := ho5.below hb13 (Nat.le_trans Z6.out (Nat.le_trans Z7.out (Nat.le_trans Z8.out (Nat.le_trans Z9.out (Nat.le_trans Z10.out (Nat.le_trans Z11.out Z12.out))))))
  replace ho6 := ho6.below hb13 (Nat.le_trans Z7.out (Nat.le_trans Z8.out (Nat.le_trans Z9.out (Nat.le_trans Z10.out (Nat.le_trans Z11.out Z12.out)))))
  replace ho7 := ho7.below hb13 (Nat.le_trans Z8.out (Nat.le_trans Z9.out (Nat.le_trans Z10.out (Nat.le_trans Z11.out Z12.out))))
  replace ho9 := ho9.below hb13 (Nat.le_trans Z10.out (Nat.le_trans Z11.out Z12.out))
  replace ho10 := ho10.below hb13 (Nat.le_trans Z11.out Z12.out)
  replace ho12 := ho12.below hb13 (Nat.le_refl _)
  replace hbx1 := (hb13.block _ (Nat.lt_of_lt_of_le (by simp) (Nat.le_trans Z9.out (Nat.le_trans Z10.out (Nat.le_trans Z11.out Z12.out))))).trans hbx1
  clear ho12
  have HR : Hid (∀ w' : World, Below w13.heap.size w13 w' → (w'.cell? ⟨w.heap.size, 0, none⟩ = some (.slice A1 os.length c1) ∧ w'.cell? ⟨w.heap.size, 1, none⟩ = some (.bool b1) ∧ w'.cell? ⟨w7.heap.size, 0, none⟩ = some (.slice G7 os.length d7) ∧ w'.cell? ⟨w7.heap.size, 1, none⟩ = some (.bool b1) ∧ Below w13.heap.size w13 w')) := hid fun w' hx => ⟨((below_step HX hx).cell (p := ⟨w.heap.size, 0, none⟩) (by simp)).trans (by simp [go_sem]), ((below_step HX hx).cell (p := ⟨w.heap.size, 1, none⟩) (by simp)).trans (by simp [go_sem]), cell_in ((hx.block _ (Nat.lt_of_lt_of_le (by simp) (Nat.le_trans Z9.out (Nat.le_trans Z10.out (Nat.le_trans Z11.out (Nat.le_trans Z12.out Z13.out)))))).trans hbx1) 0 rfl, cell_in ((hx.block _ (Nat.lt_of_lt_of_le (by simp) (Nat.le_trans Z9.out (Nat.le_trans Z10.out (Nat.le_trans Z11.out (Nat.le_trans Z12.out Z13.out)))))).trans hbx1) 1 rfl, hx⟩
  go_wp2_with fail
  go_region_held3 (fun w' => w'.cell? ⟨w.heap.size, 0, none⟩ = some (.slice A1 os.length c1) ∧ w'.cell? ⟨w.heap.size, 1, none⟩ = some (.bool b1) ∧ w'.cell? ⟨w7.heap.size, 0, none⟩ = some (.slice G7 os.length d7) ∧ w'.cell? ⟨w7.heap.size, 1, none⟩ = some (.bool b1) ∧ Below w13.heap.size w13 w') (first | with_reducible exact HR.out _ (Below.refl w13.heap.size w13).drew | with_reducible exact HR.out _ HZ14.out | with_reducible exact HR.out _ HZ15.out | go_keep)
    (first | (go_at_call 44; refine (toSignRule_any b1 _ (s1.below (below_step HX (Below.refl w13.heap.size w13).drew) (Nat.le_refl _)) (Nat.le_trans HX.size (Below.refl w13.heap.size w13).drew.size) (by omega)).mono ?_; rintro e w14 ⟨o14, rfl, ho14, hb14⟩; have HZ14 := hid (below_step (Below.refl w13.heap.size w13).drew hb14); have u14 := (((Own.si (zs := os) ho7).below HZ14.out (Nat.le_trans Z8.out (Nat.le_trans Z9.out (Nat.le_trans Z10.out (Nat.le_trans Z11.out (Nat.le_trans Z12.out Z13.out)))))).mono (Nat.le_trans (Nat.le_trans Z8.out (Nat.le_trans Z9.out (Nat.le_trans Z10.out (Nat.le_trans Z11.out (Nat.le_trans Z12.out Z13.out))))) HZ14.out.size)); have t14 := (Own.si (zs := os) ho14)) | (go_at_call 48; refine (eqSignRule_any b1 _ u14 t14 (Nat.le_refl _)).mono ?_; rintro e w15 ⟨rfl, hb15⟩; have HZ15 := hid (below_step HZ14.out hb15)))
  have hbR15 := HZ15.out
  have Z14 : Hid (w13.heap.size ≤ w14.heap.size) := hid hb14.size
  have Z15 : Hid (w14.heap.size ≤ w15.heap.size) := hid hb15.size
  replace HX := below_step HX hbR15
  replace ho5 := ho5.below hbR15 (Nat.le_trans Z6.out (Nat.le_trans Z7.out (Nat.le_trans Z8.out (Nat.le_trans Z9.out (Nat.le_trans Z10.out (Nat.le_trans Z11.out (Nat.le_trans Z12.out Z13.out)))))))
  replace ho6 := ho6.below hbR15 (Nat.le_trans Z7.out (Nat.le_trans Z8.out (Nat.le_trans Z9.out (Nat.le_trans Z10.out (Nat.le_trans Z11.out (Nat.le_trans Z12.out Z13.out))))))
  replace ho7 := ho7.below hbR15 (Nat.le_trans Z8.out (Nat.le_trans Z9.out (Nat.le_trans Z10.out (Nat.le_trans Z11.out (Nat.le_trans Z12.out Z13.out)))))
  replace ho9 := ho9.below hbR15 (Nat.le_trans Z10.out (Nat.le_trans Z11.out (Nat.le_trans Z12.out Z13.out)))
  replace ho10 := ho10.below hbR15 (Nat.le_trans Z11.out (Nat.le_trans Z12.out Z13.out))
  replace hbx1 := (hbR15.block _ (Nat.lt_of_lt_of_le (by simp) (Nat.le_trans Z9.out (Nat.le_trans Z10.out (Nat.le_trans Z11.out (Nat.le_trans Z12.out Z13.out)))))).trans hbx1
  clear HR HZ14 HZ15
  obtain ⟨hcX, -⟩ := bcell HX
  have hx1_0 := cell_in hbx1 0 (u := .slice G7 os.length d7) rfl
  have hx1_1 := cell_in hbx1 1 (u := .bool b1) rfl
  go_wp2_with fail
  clear hcX hx1_0 hx1_1
  refine (toSignatureS_any _ (s2.below HX (Nat.le_refl _)) hs2 HX.size (by omega)).mono ?_
  rintro e w16 ⟨o16, rfl, ho16, hb16⟩
  have Z16 := hid hb16.size
  replace HX := below_step HX hb16
  replace ho5 := ho5.below hb16 (Nat.le_trans Z6.out (Nat.le_trans Z7.out (Nat.le_trans Z8.out (Nat.le_trans Z9.out (Nat.le_trans Z10.out (Nat.le_trans Z11.out (Nat.le_trans Z12.out (Nat.le_trans Z13.out (Nat.le_trans Z14.out Z15.out)))))))))
  replace ho6 := ho6.below hb16 (Nat.le_trans Z7.out (Nat.le_trans Z8.out (Nat.le_trans Z9.out (Nat.le_trans Z10.out (Nat.le_trans Z11.out (Nat.le_trans Z12.out (Nat.le_trans Z13.out (Nat.le_trans Z14.out Z15.out))))))))
  replace ho7 := ho7.below hb16 (Nat.le_trans Z8.out (Nat.le_trans Z9.out (Nat.le_trans Z10.out (Nat.le_trans Z11.out (Nat.le_trans Z12.out (Nat.le_trans Z13.out (Nat.le_trans Z14.out Z15.out)))))))
  replace ho9 := ho9.below hb16 (Nat.le_trans Z10.out (Nat.le_trans Z11.out (Nat.le_trans Z12.out (Nat.le_trans Z13.out (Nat.le_trans Z14.out Z15.out)))))
  replace ho10 := ho10.below hb16 (Nat.le_trans Z11.out (Nat.le_trans Z12.out (Nat.le_trans Z13.out (Nat.le_trans Z14.out Z15.out))))
  replace hbx1 := (hb16.block _ (Nat.lt_of_lt_of_le (by simp) (Nat.le_trans Z9.out (Nat.le_trans Z10.out (Nat.le_trans Z11.out (Nat.le_trans Z12.out (Nat.le_trans Z13.out (Nat.le_trans Z14.out Z15.out)))))))).trans hbx1
  obtain ⟨hcX, -⟩ := bcell HX
  have hx1_0 := cell_in hbx1 0 (u := .slice G7 os.length d7) rfl
  have hx1_1 := cell_in hbx1 1 (u := .bool b1) rfl
  go_wp2_with fail
  clear hcX hx1_0 hx1_1
  refine (eqSignatureS_any  _ ((Own.sl (ks := ls) ho9 hs2).mono (Nat.le_trans Z10.out (Nat.le_trans Z11.out (Nat.le_trans Z12.out (Nat.le_trans Z13.out (Nat.le_trans Z14.out (Nat.le_trans Z15.out Z16.out))))))) ((Own.sl (ks := ls) ho16 hs2).mono (Nat.le_refl _)) (Nat.le_refl _)).mono ?_
  rintro e w17 ⟨rfl, hb17⟩
  have Z17 := hid hb17.size
  replace HX := below_step HX hb17
  replace ho5 := ho5.below hb17 (Nat.le_trans Z6.out (Nat.le_trans Z7.out (Nat.le_trans Z8.out (Nat.le_trans Z9.out (Nat.le_trans Z10.out (Nat.le_trans Z11.out (Nat.le_trans Z12.out (Nat.le_trans Z13.out (Nat.le_trans Z14.out (Nat.le_trans Z15.out Z16.out))))))))))
  replace ho6 := ho6.below hb17 (Nat.le_trans Z7.out (Nat.le_trans Z8.out (Nat.le_trans Z9.out (Nat.le_trans Z10.out (Nat.le_trans Z11.out (Nat.le_trans Z12.out (Nat.le_trans Z13.out (Nat.le_trans Z14.out (Nat.le_trans Z15.out Z16.out)))))))))
  replace ho7 := ho7.below hb17 (Nat.le_trans Z8.out (Nat.le_trans Z9.out (Nat.le_trans Z10.out (Nat.le_trans Z11.out (Nat.le_trans Z12.out (Nat.le_trans Z13.out (Nat.le_trans Z14.out (Nat.le_trans Z15.out Z16.out))))))))
  replace ho9 := ho9.below hb17 (Nat.le_trans Z10.out (Nat.le_trans Z11.out (Nat.le_trans Z12.out (Nat.le_trans Z13.out (Nat.le_trans Z14.out (Nat.le_trans Z15.out Z16.out))))))
  replace ho10 := ho10.below hb17 (Nat.le_trans Z11.out (Nat.le_trans Z12.out (Nat.le_trans Z13.out (Nat.le_trans Z14.out (Nat.le_trans Z15.out Z16.out)))))
  replace ho16 := ho16.below hb17 (Nat.le_refl _)
  replace hbx1 := (hb17.block _ (Nat.lt_of_lt_of_le (by simp) (Nat.le_trans Z9.out (Nat.le_trans Z10.out (Nat.le_trans Z11.out (Nat.le_trans Z12.out (Nat.le_trans Z13.out (Nat.le_trans Z14.out (Nat.le_trans Z15.out Z16.out))))))))).trans hbx1
  clear ho16
  obtain ⟨hcX, -⟩ := bcell HX
  have hx1_0 := cell_in hbx1 0 (u := .slice G7 os.length d7) rfl
  have hx1_1 := cell_in hbx1 1 (u := .bool b1) rfl
  go_wp2_with fail
  clear hcX hx1_0 hx1_1
  refine (markKeyS_apart _ _ (by omega) (by omega) (by omega) ho6).mono ?_
  rintro e w18 ⟨rfl, hom18, hb18, hap18⟩
  have Z18 := hid hb18.size
  replace HX := HX.trans (hb18.mono (Nat.le_trans Z1.out (Nat.le_trans Z2.out (Nat.le_trans Z3.out (Nat.le_trans Z4.out Z5.out)))))
  replace ho5 := ho5.below hb18 (Nat.le_refl _)
  replace ho6 := hom18
  replace ho7 := ho7.kept hap18.kept (Nat.le_refl _) (Nat.le_trans Z8.out (Nat.le_trans Z9.out (Nat.le_trans Z10.out (Nat.le_trans Z11.out (Nat.le_trans Z12.out (Nat.le_trans Z13.out (Nat.le_trans Z14.out (Nat.le_trans Z15.out (Nat.le_trans Z16.out Z17.out)))))))))
  replace ho9 := ho9.kept hap18.kept (Nat.le_trans Z7.out Z8.out) (Nat.le_trans Z10.out (Nat.le_trans Z11.out (Nat.le_trans Z12.out (Nat.le_trans Z13.out (Nat.le_trans Z14.out (Nat.le_trans Z15.out (Nat.le_trans Z16.out Z17.out)))))))
  replace ho10 := ho10.kept hap18.kept (Nat.le_trans Z7.out (Nat.le_trans Z8.out Z9.out)) (Nat.le_trans Z11.out (Nat.le_trans Z12.out (Nat.le_trans Z13.out (Nat.le_trans Z14.out (Nat.le_trans Z15.out (Nat.le_trans Z16.out Z17.out))))))
  replace hbx1 := (hap18.kept _ Z7.out (Nat.lt_of_lt_of_le (by simp) (Nat.le_trans Z9.out (Nat.le_trans Z10.out (Nat.le_trans Z11.out (Nat.le_trans Z12.out (Nat.le_trans Z13.out (Nat.le_trans Z14.out (Nat.le_trans Z15.out (Nat.le_trans Z16.out Z17.out)))))))))).trans hbx1
  obtain ⟨hcX, -⟩ := bcell HX
  have hx1_0 := cell_in hbx1 0 (u := .slice G7 os.length d7) rfl
  have hx1_1 := cell_in hbx1 1 (u := .bool b1) rfl
  go_wp2_with fail
  clear hcX hx1_0 hx1_1
  refine (markSignRule_apart b1 _ _ (by omega) (by omega) (by omega) ho7 (Nat.le_trans Z8.out (Nat.le_trans Z9.out (Nat.le_trans Z10.out (Nat.le_trans Z11.out (Nat.le_trans Z12.out (Nat.le_trans Z13.out (Nat.le_trans Z14.out (Nat.le_trans Z15.out (Nat.le_trans Z16.out (Nat.le_trans Z17.out Z18.out)))))))))) (Nat.le_trans Z7.out (Nat.le_trans Z8.out (Nat.le_trans Z9.out (Nat.le_trans Z10.out (Nat.le_trans Z11.out (Nat.le_trans Z12.out (Nat.le_trans Z13.out (Nat.le_trans Z14.out (Nat.le_trans Z15.out (Nat.le_trans Z16.out (Nat.le_trans Z17.out Z18.out)))))))))))).mono ?_
  rintro e w19 ⟨rfl, hom19, hb19, hap19⟩
  have Z19 := hid hb19.size
  replace HX := HX.trans (hb19.mono (Nat.le_trans Z1.out (Nat.le_trans Z2.out (Nat.le_trans Z3.out (Nat.le_trans Z4.out (Nat.le_trans Z5.out Z6.out))))))
  replace ho5 := ho5.below hb19 Z6.out
  replace ho6 := ho6.below hb19 (Nat.le_refl _)
  replace ho7 := hom19
  replace ho9 := ho9.kept hap19 Z8.out (Nat.le_trans Z10.out (Nat.le_trans Z11.out (Nat.le_trans Z12.out (Nat.le_trans Z13.out (Nat.le_trans Z14.out (Nat.le_trans Z15.out (Nat.le_trans Z16.out (Nat.le_trans Z17.out Z18.out))))))))
  replace ho10 := ho10.kept hap19 (Nat.le_trans Z8.out Z9.out) (Nat.le_trans Z11.out (Nat.le_trans Z12.out (Nat.le_trans Z13.out (Nat.le_trans Z14.out (Nat.le_trans Z15.out (Nat.le_trans Z16.out (Nat.le_trans Z17.out Z18.out)))))))
  replace hbx1 := (hap19 _ (Nat.le_refl _) (Nat.lt_of_lt_of_le (by simp) (Nat.le_trans Z9.out (Nat.le_trans Z10.out (Nat.le_trans Z11.out (Nat.le_trans Z12.out (Nat.le_trans Z13.out (Nat.le_trans Z14.out (Nat.le_trans Z15.out (Nat.le_trans Z16.out (Nat.le_trans Z17.out Z18.out))))))))))).trans hbx1
  obtain ⟨hcX, -⟩ := bcell HX
  have hx1_0 := cell_in hbx1 0 (u := .slice G7 os.length d7) rfl
  have hx1_1 := cell_in hbx1 1 (u := .bool b1) rfl
  go_wp2_with fail
  clear hcX hx1_0 hx1_1
  refine (markSignatureS_apart _ _ (by omega) (by omega) (by omega) ho9).mono ?_
  rintro e w20 ⟨rfl, hom20, hb20, hap20⟩
  have Z20 := hid hb20.size
  replace HX := HX.trans (hb20.mono (Nat.le_trans Z1.out (Nat.le_trans Z2.out (Nat.le_trans Z3.out (Nat.le_trans Z4.out (Nat.le_trans Z5.out (Nat.le_trans Z6.out (Nat.le_trans Z7.out Z8.out))))))))
  replace ho5 := ho5.below hb20 (Nat.le_trans Z6.out (Nat.le_trans Z7.out Z8.out))
  replace ho6 := ho6.below hb20 (Nat.le_trans Z7.out Z8.out)
  replace ho7 := ho7.below hb20 Z8.out
  replace ho9 := hom20
  replace ho10 := ho10.kept hap20.kept (Nat.le_refl _) (Nat.le_trans Z11.out (Nat.le_trans Z12.out (Nat.le_trans Z13.out (Nat.le_trans Z14.out (Nat.le_trans Z15.out (Nat.le_trans Z16.out (Nat.le_trans Z17.out (Nat.le_trans Z18.out Z19.out))))))))
  replace hbx1 := (hb20.block _ (Nat.lt_of_lt_of_le (by simp) (Nat.le_refl _))).trans hbx1
  clear ho6
  clear ho7
  clear ho9
  clear hbx1
  obtain ⟨hcX, -⟩ := bcell HX
  go_wp2_with fail
  clear hcX
  refine (eqIntS_any  _ ((Own.si (zs := missI ks ls os n os.length) ho10).mono (Nat.le_trans Z11.out (Nat.le_trans Z12.out (Nat.le_trans Z13.out (Nat.le_trans Z14.out (Nat.le_trans Z15.out (Nat.le_trans Z16.out (Nat.le_trans Z17.out (Nat.le_trans Z18.out (Nat.le_trans Z19.out Z20.out)))))))))) ((Own.si (zs := missI ks ls os n os.length) ho5).mono (Nat.le_trans Z6.out (Nat.le_trans Z7.out (Nat.le_trans Z8.out (Nat.le_trans Z9.out (Nat.le_trans Z10.out (Nat.le_trans Z11.out (Nat.le_trans Z12.out (Nat.le_trans Z13.out (Nat.le_trans Z14.out (Nat.le_trans Z15.out (Nat.le_trans Z16.out (Nat.le_trans Z17.out (Nat.le_trans Z18.out (Nat.le_trans Z19.out Z20.out))))))))))))))) (Nat.le_refl _)).mono ?_
  rintro e w21 ⟨rfl, hb21⟩
  have Z21 := hid hb21.size
  replace HX := below_step HX hb21
  replace ho5 := ho5.below hb21 (Nat.le_trans Z6.out (Nat.le_trans Z7.out (Nat.le_trans Z8.out (Nat.le_trans Z9.out (Nat.le_trans Z10.out (Nat.le_trans Z11.out (Nat.le_trans Z12.out (Nat.le_trans Z13.out (Nat.le_trans Z14.out (Nat.le_trans Z15.out (Nat.le_trans Z16.out (Nat.le_trans Z17.out (Nat.le_trans Z18.out (Nat.le_trans Z19.out Z20.out))))))))))))))
  replace ho10 := ho10.below hb21 (Nat.le_trans Z11.out (Nat.le_trans Z12.out (Nat.le_trans Z13.out (Nat.le_trans Z14.out (Nat.le_trans Z15.out (Nat.le_trans Z16.out (Nat.le_trans Z17.out (Nat.le_trans Z18.out (Nat.le_trans Z19.out Z20.out)))))))))
  obtain ⟨hcX, -⟩ := bcell HX
  go_wp2_with fail
  clear hcX
  refine (markIntS_apart _ 1 (by omega) (by omega) (by omega) ho10).mono ?_
  rintro e w22 ⟨rfl, hom22, hb22, hap22⟩
  have Z22 := hid hb22.size
  replace HX := HX.trans (hb22.mono (Nat.le_trans Z1.out (Nat.le_trans Z2.out (Nat.le_trans Z3.out (Nat.le_trans Z4.out (Nat.le_trans Z5.out (Nat.le_trans Z6.out (Nat.le_trans Z7.out (Nat.le_trans Z8.out Z9.out)))))))))
  replace ho5 := ho5.below hb22 (Nat.le_trans Z6.out (Nat.le_trans Z7.out (Nat.le_trans Z8.out Z9.out)))
  replace ho10 := hom22
  obtain ⟨hcX, -⟩ := bcell HX
  go_wp2_with fail
  clear hcX
  refine (heldIntS_any _ 1 (by omega) (by omega) (by omega) (Own.marks ho10)).mono ?_
  rintro e w' ⟨rfl, rfl⟩
  have HR : Hid (∀ w' : World, Below w22.heap.size w22 w' → (w'.cell? ⟨w.heap.size, 0, none⟩ = some (.slice A1 os.length c1) ∧ w'.cell? ⟨w.heap.size, 1, none⟩ = some (.bool b1) ∧ Below w22.heap.size w22 w')) := hid fun w' hx => ⟨((below_step HX hx).cell (p := ⟨w.heap.size, 0, none⟩) (by simp)).trans (by simp [go_sem]), ((below_step HX hx).cell (p := ⟨w.heap.size, 1, none⟩) (by simp)).trans (by simp [go_sem]), hx⟩
  go_wp2_with fail
  go_region_held3 (fun w' => w'.cell? ⟨w.heap.size, 0, none⟩ = some (.slice A1 os.length c1) ∧ w'.cell? ⟨w.heap.size, 1, none⟩ = some (.bool b1) ∧ Below w22.heap.size w22 w') (first | with_reducible exact HR.out _ (Below.refl w22.heap.size w22).drew | with_reducible exact HR.out _ HZ23.out | with_reducible exact HR.out _ HZ24.out | with_reducible exact HR.out _ HZ25.out | with_reducible exact HR.out _ HZ26.out | go_keep)
    (first | (go_at_call 43; refine (toKeyS_any _ (s0.below (below_step HX (Below.refl w22.heap.size w22).drew) (Nat.le_refl _)) hs0 (Nat.le_trans HX.size (Below.refl w22.heap.size w22).drew.size) (by omega)).mono ?_; rintro e w23 ⟨o23, rfl, ho23, hb23⟩; have HZ23 := hid (below_step (Below.refl w22.heap.size w22).drew hb23); have t23 := (Own.sl (ks := ks) ho23 hs0)) | (go_at_call 44; refine (toSignRule_any b1 _ (s1.below (below_step HX HZ23.out) (Nat.le_refl _)) (Nat.le_trans HX.size HZ23.out.size) (by omega)).mono ?_; rintro e w24 ⟨o24, rfl, ho24, hb24⟩; have HZ24 := hid (below_step HZ23.out hb24); obtain ⟨G24, d24, rfl⟩ := ownsRow_form ho24.1; have t23x24 := t23.step hb24; have t24 := (Own.si (zs := os) ho24)) | (go_at_call 45; refine (toSignatureS_any _ (s2.below (below_step HX HZ24.out) (Nat.le_refl _)) hs2 (Nat.le_trans HX.size HZ24.out.size) (by omega)).mono ?_; rintro e w25 ⟨o25, rfl, ho25, hb25⟩; have HZ25 := hid (below_step HZ24.out hb25); have t23x25 := t23x24.step hb25; have t24x25 := t24.step hb25; have t25 := (Own.sl (ks := ls) ho25 hs2)) | (go_at_call 46; refine (implMissingOwners_any b1 _ _ t23x25 t24x25 t25 (Nat.le_refl _) (by omega)).mono ?_; rintro e w26 ⟨o26, rfl, ho26, hb26⟩; have HZ26 := hid (below_step HZ25.out hb26)))
  have hbR26 := HZ26.out
  have Z23 : Hid (w22.heap.size ≤ w23.heap.size) := hid hb23.size
  have Z24 : Hid (w23.heap.size ≤ w24.heap.size) := hid hb24.size
  have Z25 : Hid (w24.heap.size ≤ w25.heap.size) := hid hb25.size
  have Z26 : Hid (w25.heap.size ≤ w26.heap.size) := hid hb26.size
  replace HX := below_step HX hbR26
  replace ho5 := ho5.below hbR26 (Nat.le_trans Z6.out (Nat.le_trans Z7.out (Nat.le_trans Z8.out (Nat.le_trans Z9.out (Nat.le_trans Z10.out (Nat.le_trans Z11.out (Nat.le_trans Z12.out (Nat.le_trans Z13.out (Nat.le_trans Z14.out (Nat.le_trans Z15.out (Nat.le_trans Z16.out (Nat.le_trans Z17.out (Nat.le_trans Z18.out (Nat.le_trans Z19.out (Nat.le_trans Z20.out (Nat.le_trans Z21.out Z22.out))))))))))))))))
  replace ho10 := ho10.below hbR26 (Nat.le_trans Z11.out (Nat.le_trans Z12.out (Nat.le_trans Z13.out (Nat.le_trans Z14.out (Nat.le_trans Z15.out (Nat.le_trans Z16.out (Nat.le_trans Z17.out (Nat.le_trans Z18.out (Nat.le_trans Z19.out (Nat.le_trans Z20.out (Nat.le_trans Z21.out Z22.out)))))))))))
  clear HR HZ23 HZ24 HZ25 HZ26
  obtain ⟨hcX, -⟩ := bcell HX
  go_wp2_with fail
  clear hcX
  refine (eqIntS_any  _ ((Own.si (zs := missI ks ls os n os.length) ho26).mono (Nat.le_refl _)) ((Own.si (zs := missI ks ls os n os.length) ho5).mono (Nat.le_trans Z6.out (Nat.le_trans Z7.out (Nat.le_trans Z8.out (Nat.le_trans Z9.out (Nat.le_trans Z10.out (Nat.le_trans Z11.out (Nat.le_trans Z12.out (Nat.le_trans Z13.out (Nat.le_trans Z14.out (Nat.le_trans Z15.out (Nat.le_trans Z16.out (Nat.le_trans Z17.out (Nat.le_trans Z18.out (Nat.le_trans Z19.out (Nat.le_trans Z20.out (Nat.le_trans Z21.out (Nat.le_trans Z22.out (Nat.le_trans Z23.out (Nat.le_trans Z24.out (Nat.le_trans Z25.out Z26.out))))))))))))))))))))) (Nat.le_refl _)).mono ?_
  rintro e w27 ⟨rfl, hb27⟩
  have Z27 := hid hb27.size
  replace HX := below_step HX hb27
  replace ho5 := ho5.below hb27 (Nat.le_trans Z6.out (Nat.le_trans Z7.out (Nat.le_trans Z8.out (Nat.le_trans Z9.out (Nat.le_trans Z10.out (Nat.le_trans Z11.out (Nat.le_trans Z12.out (Nat.le_trans Z13.out (Nat.le_trans Z14.out (Nat.le_trans Z15.out (Nat.le_trans Z16.out (Nat.le_trans Z17.out (Nat.le_trans Z18.out (Nat.le_trans Z19.out (Nat.le_trans Z20.out (Nat.le_trans Z21.out (Nat.le_trans Z22.out (Nat.le_trans Z23.out (Nat.le_trans Z24.out (Nat.le_trans Z25.out Z26.out))))))))))))))))))))
  replace ho10 := ho10.below hb27 (Nat.le_trans Z11.out (Nat.le_trans Z12.out (Nat.le_trans Z13.out (Nat.le_trans Z14.out (Nat.le_trans Z15.out (Nat.le_trans Z16.out (Nat.le_trans Z17.out (Nat.le_trans Z18.out (Nat.le_trans Z19.out (Nat.le_trans Z20.out (Nat.le_trans Z21.out (Nat.le_trans Z22.out (Nat.le_trans Z23.out (Nat.le_trans Z24.out (Nat.le_trans Z25.out Z26.out)))))))))))))))
  replace ho26 := ho26.below hb27 (Nat.le_refl _)
  obtain ⟨hcX, -⟩ := bcell HX
  go_wp2_with fail
  clear hcX
  refine (heldIntS_any _ 1 (by omega) (by omega) (by omega) (Own.marks ho10)).mono ?_
  rintro e w' ⟨rfl, rfl⟩
  go_wp2
  go_ret
  exact ⟨rfl, below_step HH.out HX⟩

set_option maxRecDepth 100000 in
theorem lawMissingOwners_lifted (os : Os) (started : os.Started) (H : Type) (enc : TypeId × Value → H) :
    ReturnsInHanded {} Try.checked os 10 .any (Rows.fnExactMissingOwnersSpec.pre6 enc Try.prog Try.f10 Rows.fnExactMissingOwnersRow.domain false) (Rows.fnExactMissingOwnersSpec.post enc Try.prog Try.f10 false true false false) := by
  refine returnsInHanded_of_change (C := Try.checked) Try.own started (by kernel_rfl) Try.func10
    (ChangeSpec.witness6 (enc := enc) (C := Try.checked) false ⟨#[], #[.slice none 0 0, .agg #[.slice none 0 0, .bool false], .slice none 0 0, .int .i64 0], []⟩ 8 (by kernel_rfl) (by kernel_rfl) (by kernel_rfl) (by kernel_rfl)) ?_
  intro W base args ds gs before hval0 hW hcnd _
  have hval : ∀ (j : Nat) t v, Try.f10.params[j]? = some t → args[j]? = some v → Value.okWide Try.prog W .any base t v := hval0
  have hW' := hW
  obtain ⟨p, q, hA0, hV, rfl, hfz, hnd⟩ := hW
  have hA : DataW.TrodAll enc Try.prog W 0 (fun _ => true) true Try.f10.params.toList args.toList ds p := hA0
  rw [Try.params10] at hA hval
  obtain ⟨v0, v1, v2, v3, d0, d1, d2, d3, p0, p1, p2, p3, rfl, rfl, rfl, h0, h1, h2, h3⟩ := trodAll_four hA
  obtain ⟨rfl, rfl⟩ := trodVars_none hV
  obtain ⟨ks, s0, hs0, -⟩ := open_rows Try.underlying65 Try.underlying97 (by kernel_rfl) (N := 5) (by kernel_rfl) (by kernel_rfl) (by decide) Try.underlying3 (by kernel_rfl) (hval 0 65 v0 rfl rfl) h0
  obtain ⟨os, u1, b1, rfl, s1⟩ := open_rule Try.underlying67 (by kernel_rfl) (by kernel_rfl) Try.underlying52 Try.underlying3 (by kernel_rfl) Try.underlying4 (hval 1 67 v1 rfl rfl) h1
  obtain ⟨ls, s2, hs2, -⟩ := open_rows Try.underlying68 Try.underlying29 (by kernel_rfl) (N := 9) (by kernel_rfl) (by kernel_rfl) (by decide) Try.underlying3 (by kernel_rfl) (hval 2 68 v2 rfl rfl) h2
  obtain ⟨n, rfl, rfl, rfl, -⟩ := open_int Try.underlying3 (hval 3 3 v3 rfl rfl) h3
  refine (lawMissingOwners_any b1 n W s0 hs0 s1 s2 hs2).mono fun e W' ⟨he, hb⟩ => ?_
  subst he
  exact ⟨_, rfl, post_true hW' rfl Try.laidOut (by kernel_rfl) rfl Try.underlying4 rfl hb⟩

theorem lawMissingOwners_holds : Rows.FnExactMissingOwnersSaid :=
  OpenClaim.holds_of_wide 10 Try.f10 rfl rfl rfl rfl rfl rfl rfl ⟨rfl, rfl, rfl, rfl, rfl⟩ rfl rfl rfl rfl rfl (by kernel_rfl) Try.func10 (by kernel_rfl)
    (of_decide_eq_true (by kernel_rfl)) (by unfold Func.isWrapper; first | (rw [if_pos (by decide +kernel)]; kernel_rfl) | (rw [if_neg (by decide +kernel)]; exact ⟨rfl, rfl⟩))
    (fun os started H enc _ => lawMissingOwners_lifted os started H enc)
end Go.Proofs.Ytjdbaeoedfkegaa
