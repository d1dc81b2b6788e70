/- The law FnExactMeetsRule is true of every input: the program's MeetsRule and the reference's return the same, and leave their arguments as they were. No condition. -/
import Derived.Test.YtkdpfbodmfjkkaaRows
import Derived.Test.YtkdpfbodmfjkkaaBase
import Derived.Test.YtkdpfbodmfjkkaaOpen
import Derived.Test.YtkdpfbodmfjkkaaPlain
import Derived.Test.YtkdpfbodmfjkkaaApart
import Derived.Test.YtkdpfbodmfjkkaaHelpI
import Derived.Test.YtkdpfbodmfjkkaaHelpKey
import Derived.Test.YtkdpfbodmfjkkaaHelpSignature
import Derived.Test.YtkdpfbodmfjkkaaHelpSignRule
import Derived.Test.YtkdpfbodmfjkkaaMeetsRule
import Derived.Test.YtkdpfbodmfjkkaaOpenRule
namespace Go.Proofs.Ytkdpfbodmfjkkaa
open Go.ChangeShapes Go.WideShapes Go.ChangeAt Go.RowKit Go.Deep

set_option maxRecDepth 8000 in
set_option maxHeartbeats 4000000 in
theorem lawMeetsRule_any {ks : List (List Int)} {v0 : Value} {os : List Int} {v1 : Value} (b1 : Bool) {ls : List (List Int)} {v2 : Value} (n : Int) (w : World) (s0 : Sl w.heap.size w 5 v0 ks) (hs0 : ∀ r ∈ ks, r.length = 5) (s1 : Si w.heap.size w v1 os) (s2 : Sl w.heap.size w 9 v2 ls) (hs2 : ∀ r ∈ ls, r.length = 9) :
    Calls Try.prog 3 #[v0, .agg #[v1, .bool b1], v2, iv n] w (Ret (.bool true) w) := by
  obtain ⟨A0, c0, rfl, hca0, hcb0, -⟩ := id s0
  obtain ⟨A1, c1, rfl, hca1, hcb1, -⟩ := id s1
  obtain ⟨A2, c2, rfl, hca2, hcb2, -⟩ := id s2
  have H0 : Below w.heap.size w (w.alloc (.cells #[.slice A1 os.length c1, .bool b1] 25)) := (below_alloc _ _)
  by_cases hl0 : ks.length ≤ 1048576
  rotate_left
  · have HH := hid H0
    clear H0
    go_enter Try.func3, Try.ntmps3
    have HX : Below (w.alloc (.cells #[.slice A1 os.length c1, .bool b1] 25)).heap.size (w.alloc (.cells #[.slice A1 os.length c1, .bool b1] 25)) (w.alloc (.cells #[.slice A1 os.length c1, .bool b1] 25)) := Below.refl _ _
    go_wp2_with fail
    refine (szKeyS_no _ _ (by omega) (by omega) (by omega) (by omega)).mono ?_
    rintro e w' ⟨rfl, rfl⟩
    go_wp2
    go_ret
    exact ⟨rfl, below_step HH.out HX⟩
  by_cases hl1 : ks.length + os.length ≤ 1048576
  rotate_left
  · have HH := hid H0
    clear H0
    go_enter Try.func3, Try.ntmps3
    have HX : Below (w.alloc (.cells #[.slice A1 os.length c1, .bool b1] 25)).heap.size (w.alloc (.cells #[.slice A1 os.length c1, .bool b1] 25)) (w.alloc (.cells #[.slice A1 os.length c1, .bool b1] 25)) := Below.refl _ _
    go_wp2_with fail
    refine (szKeyS_ok _ _ (by omega) (by omega) (by omega)).mono ?_
    rintro e w' ⟨rfl, rfl⟩
    obtain ⟨hcX, -⟩ := bcell HX
    go_wp2_with fail
    clear hcX
    refine (szSignRule_no _ _ _ (by omega) (by omega) (by omega) (by omega)).mono ?_
    rintro e w1 ⟨rfl, hb1⟩
    have Z1 := hid hb1.size
    replace HX := below_step HX hb1
    go_wp2
    go_ret
    exact ⟨rfl, below_step HH.out HX⟩
  by_cases hl2 : ks.length + os.length + ls.length ≤ 1048576
  rotate_left
  · have HH := hid H0
    clear H0
    go_enter Try.func3, Try.ntmps3
    have HX : Below (w.alloc (.cells #[.slice A1 os.length c1, .bool b1] 25)).heap.size (w.alloc (.cells #[.slice A1 os.length c1, .bool b1] 25)) (w.alloc (.cells #[.slice A1 os.length c1, .bool b1] 25)) := Below.refl _ _
    go_wp2_with fail
    refine (szKeyS_ok _ _ (by omega) (by omega) (by omega)).mono ?_
    rintro e w' ⟨rfl, rfl⟩
    obtain ⟨hcX, -⟩ := bcell HX
    go_wp2_with fail
    clear hcX
    refine (szSignRule_ok _ _ _ (by omega) (by omega) (by omega)).mono ?_
    rintro e w1 ⟨rfl, hb1⟩
    have Z1 := hid hb1.size
    replace HX := below_step HX hb1
    obtain ⟨hcX, -⟩ := bcell HX
    go_wp2_with fail
    clear hcX
    refine (szSignatureS_no _ _ (by omega) (by omega) (by omega) (by omega)).mono ?_
    rintro e w' ⟨rfl, rfl⟩
    go_wp2
    go_ret
    exact ⟨rfl, below_step HH.out HX⟩
  go_enter Try.func3, Try.ntmps3
  replace s0 := s0.step H0
  replace s1 := s1.step H0
  replace s2 := s2.step H0
  have HH := hid H0
  clear H0
  have HX : Below (w.alloc (.cells #[.slice A1 os.length c1, .bool b1] 25)).heap.size (w.alloc (.cells #[.slice A1 os.length c1, .bool b1] 25)) (w.alloc (.cells #[.slice A1 os.length c1, .bool b1] 25)) := Below.refl _ _
  go_wp2_with fail
  refine (szKeyS_ok _ _ (by omega) (by omega) (by omega)).mono ?_
  rintro e w' ⟨rfl, rfl⟩
  obtain ⟨hcX, -⟩ := bcell HX
  go_wp2_with fail
  clear hcX
  refine (szSignRule_ok _ _ _ (by omega) (by omega) (by omega)).mono ?_
  rintro e w1 ⟨rfl, hb1⟩
  have Z1 := hid hb1.size
  replace HX := below_step HX hb1
  obtain ⟨hcX, -⟩ := bcell HX
  go_wp2_with fail
  clear hcX
  refine (szSignatureS_ok _ _ (by omega) (by omega) (by omega)).mono ?_
  rintro e w' ⟨rfl, rfl⟩
  have HR : Hid (∀ w' : World, Below w1.heap.size w1 w' → (w'.cell? ⟨w.heap.size, 0, none⟩ = some (.slice A1 os.length c1) ∧ w'.cell? ⟨w.heap.size, 1, none⟩ = some (.bool b1) ∧ Below w1.heap.size w1 w')) := hid fun w' hx => ⟨((below_step HX hx).cell (p := ⟨w.heap.size, 0, none⟩) (by simp)).trans (by simp [go_sem]), ((below_step HX hx).cell (p := ⟨w.heap.size, 1, none⟩) (by simp)).trans (by simp [go_sem]), hx⟩
  go_wp2_with fail
  go_region_held3 (fun w' => w'.cell? ⟨w.heap.size, 0, none⟩ = some (.slice A1 os.length c1) ∧ w'.cell? ⟨w.heap.size, 1, none⟩ = some (.bool b1) ∧ Below w1.heap.size w1 w') (first | with_reducible exact HR.out _ (Below.refl w1.heap.size w1).drew | with_reducible exact HR.out _ HZ2.out | with_reducible exact HR.out _ HZ3.out | with_reducible exact HR.out _ HZ4.out | with_reducible exact HR.out _ HZ5.out | go_keep)
    (first | (go_at_call 19; refine (toKeyS_any _ (s0.below (below_step HX (Below.refl w1.heap.size w1).drew) (Nat.le_refl _)) hs0 (Nat.le_trans HX.size (Below.refl w1.heap.size w1).drew.size) (by omega)).mono ?_; rintro e w2 ⟨o2, rfl, ho2, hb2⟩; have HZ2 := hid (below_step (Below.refl w1.heap.size w1).drew hb2); have t2 := (Own.sl (ks := ks) ho2 hs0)) | (go_at_call 20; refine (toSignRule_any b1 _ (s1.below (below_step HX HZ2.out) (Nat.le_refl _)) (Nat.le_trans HX.size HZ2.out.size) (by omega)).mono ?_; rintro e w3 ⟨o3, rfl, ho3, hb3⟩; have HZ3 := hid (below_step HZ2.out hb3); obtain ⟨G3, d3, rfl⟩ := ownsRow_form ho3.1; have t2x3 := t2.step hb3; have t3 := (Own.si (zs := os) ho3)) | (go_at_call 21; refine (toSignatureS_any _ (s2.below (below_step HX HZ3.out) (Nat.le_refl _)) hs2 (Nat.le_trans HX.size HZ3.out.size) (by omega)).mono ?_; rintro e w4 ⟨o4, rfl, ho4, hb4⟩; have HZ4 := hid (below_step HZ3.out hb4); have t2x4 := t2x3.step hb4; have t3x4 := t3.step hb4; have t4 := (Own.sl (ks := ls) ho4 hs2)) | (go_at_call 18; refine (specMeetsRule_any b1 _ _ t2x4 t3x4 t4 (Nat.le_refl _) (by omega)).mono ?_; rintro e w5 ⟨rfl, hb5⟩; have HZ5 := hid (below_step HZ4.out hb5)))
  have hbR5 := HZ5.out
  have Z2 : Hid (w1.heap.size ≤ w2.heap.size) := hid hb2.size
  have Z3 : Hid (w2.heap.size ≤ w3.heap.size) := hid hb3.size
  have Z4 : Hid (w3.heap.size ≤ w4.heap.size) := hid hb4.size
  have Z5 : Hid (w4.heap.size ≤ w5.heap.size) := hid hb5.size
  replace HX := below_step HX hbR5
  clear HR HZ2 HZ3 HZ4 HZ5
  obtain ⟨hcX, -⟩ := bcell HX
  go_wp2_with fail
  clear hcX
  refine (toKeyS_any _ (s0.below HX (Nat.le_refl _)) hs0 HX.size (by omega)).mono ?_
  rintro e w6 ⟨o6, rfl, ho6, hb6⟩
  have Z6 := hid hb6.size
  replace HX := below_step HX hb6
  obtain ⟨hcX, -⟩ := bcell HX
  go_wp2_with fail
  clear hcX
  refine (toSignRule_any b1 _ (s1.below HX (Nat.le_refl _)) HX.size (by omega)).mono ?_
  rintro e w7 ⟨o7, rfl, ho7, hb7⟩
  have Z7 := hid hb7.size
  replace HX := below_step HX hb7
  replace ho6 := ho6.below hb7 (Nat.le_refl _)
  obtain ⟨G7, d7, rfl⟩ := ownsRow_form ho7.1
  have Z8 := hid (below_alloc w7 (.cells #[.slice G7 os.length d7, .bool b1] 33)).size
  replace HX := below_step HX (below_alloc w7 (.cells #[.slice G7 os.length d7, .bool b1] 33))
  replace ho6 := ho6.below (below_alloc w7 (.cells #[.slice G7 os.length d7, .bool b1] 33)) Z7.out
  replace ho7 := ho7.below (below_alloc w7 (.cells #[.slice G7 os.length d7, .bool b1] 33)) (Nat.le_refl _)
  have hbx1 : (w7.alloc (.cells #[.slice G7 os.length d7, .bool b1] 33)).heap[w7.heap.size]? = some (.cells #[.slice G7 os.length d7, .bool b1] 33) := heap_new _ _
  obtain ⟨hcX, -⟩ := bcell HX
  have hx1_0 := cell_in hbx1 0 (u := .slice G7 os.length d7) rfl
  have hx1_1 := cell_in hbx1 1 (u := .bool b1) rfl
  go_wp2_with fail
  clear hcX hx1_0 hx1_1
  refine (toSignatureS_any _ (s2.below HX (Nat.le_refl _)) hs2 HX.size (by omega)).mono ?_
  rintro e w9 ⟨o9, rfl, ho9, hb9⟩
  have Z9 := hid hb9.size
  replace HX := below_step HX hb9
  replace ho6 := ho6.below hb9 (Nat.le_trans Z7.out Z8.out)
  replace ho7 := ho7.below hb9 Z8.out
  replace hbx1 := (hb9.block _ (Nat.lt_of_lt_of_le (by simp) (Nat.le_refl _))).trans hbx1
  obtain ⟨hcX, -⟩ := bcell HX
  have hx1_0 := cell_in hbx1 0 (u := .slice G7 os.length d7) rfl
  have hx1_1 := cell_in hbx1 1 (u := .bool b1) rfl
  go_wp2_with fail
  clear hcX hx1_0 hx1_1
  refine (implMeetsRule_any b1 _ _ ((Own.sl (ks := ks) ho6 hs0).mono (Nat.le_trans Z7.out (Nat.le_trans Z8.out Z9.out))) ((Own.si (zs := os) ho7).mono (Nat.le_trans Z8.out Z9.out)) ((Own.sl (ks := ls) ho9 hs2).mono (Nat.le_refl _)) (Nat.le_refl _) (by omega)).mono ?_
  rintro e w10 ⟨rfl, hb10⟩
  have Z10 := hid hb10.size
  replace HX := below_step HX hb10
  replace ho6 := ho6.below hb10 (Nat.le_trans Z7.out (Nat.le_trans Z8.out Z9.out))
  replace ho7 := ho7.below hb10 (Nat.le_trans Z8.out Z9.out)
  replace ho9 := ho9.below hb10 (Nat.le_refl _)
  replace hbx1 := (hb10.block _ (Nat.lt_of_lt_of_le (by simp) Z9.out)).trans hbx1
  obtain ⟨hcX, -⟩ := bcell HX
  have hx1_0 := cell_in hbx1 0 (u := .slice G7 os.length d7) rfl
  have hx1_1 := cell_in hbx1 1 (u := .bool b1) rfl
  go_wp2_with fail
  clear hcX hx1_0 hx1_1
  refine (toKeyS_any _ (s0.below HX (Nat.le_refl _)) hs0 HX.size (by omega)).mono ?_
  rintro e w11 ⟨o11, rfl, ho11, hb11⟩
  have Z11 := hid hb11.size
  replace HX := below_step HX hb11
  replace ho6 := ho6.below hb11 (Nat.le_trans Z7.out (Nat.le_trans Z8.out (Nat.le_trans Z9.out Z10.out)))
  replace ho7 := ho7.below hb11 (Nat.le_trans Z8.out (Nat.le_trans Z9.out Z10.out))
  replace ho9 := ho9.below hb11 Z10.out
  replace hbx1 := (hb11.block _ (Nat.lt_of_lt_of_le (by simp) (Nat.le_trans Z9.out Z10.out))).trans hbx1
  obtain ⟨hcX, -⟩ := bcell HX
  have hx1_0 := cell_in hbx1 0 (u := .slice G7 os.length d7) rfl
  have hx1_1 := cell_in hbx1 1 (u := .bool b1) rfl
  go_wp2_with fail
  clear hcX hx1_0 hx1_1
  refine (eqKeyS_any  _ ((Own.sl (ks := ks) ho6 hs0).mono (Nat.le_trans Z7.out (Nat.le_trans Z8.out (Nat.le_trans Z9.out (Nat.le_trans Z10.out Z11.out))))) ((Own.sl (ks := ks) ho11 hs0).mono (Nat.le_refl _)) (Nat.le_refl _)).mono ?_
  rintro e w12 ⟨rfl, hb12⟩
  have Z12 := hid hb12.size
  replace HX := below_step HX hb12
  replace ho6 := ho6.below hb12 (Nat.le_trans Z7.out (Nat.le_trans Z8.out (Nat.le_trans Z9.out (Nat.le_trans Z10.out Z11.out))))
  replace ho7 := ho7.below hb12 (Nat.le_trans Z8.out (Nat.le_trans Z9.out (Nat.le_trans Z10.out Z11.out)))
  replace ho9 := ho9.below hb12 (Nat.le_trans Z10.out Z11.out)
  replace ho11 := ho11.below hb12 (Nat.le_refl _)
  replace hbx1 := (hb12.block _ (Nat.lt_of_lt_of_le (by simp) (Nat.le_trans Z9.out (Nat.le_trans Z10.out Z11.out)))).trans hbx1
  clear ho11
  have HR : Hid (∀ w' : World, Below w12.heap.size w12 w' → (w'.cell? ⟨w.heap.size, 0, none⟩ = some (.slice A1 os.length c1) ∧ w'.cell? ⟨w.heap.size, 1, none⟩ = some (.bool b1) ∧ w'.cell? ⟨w7.heap.size, 0, none⟩ = some (.slice G7 os.length d7) ∧ w'.cell? ⟨w7.heap.size, 1, none⟩ = some (.bool b1) ∧ Below w12.heap.size w12 w')) := hid fun w' hx => ⟨((below_step HX hx).cell (p := ⟨w.heap.size, 0, none⟩) (by simp)).trans (by simp [go_sem]), ((below_step HX hx).cell (p := ⟨w.heap.size, 1, none⟩) (by simp)).trans (by simp [go_sem]), cell_in ((hx.block _ (Nat.lt_of_lt_of_le (by simp) (Nat.le_trans Z9.out (Nat.le_trans Z10.out (Nat.le_trans Z11.out Z12.out))))).trans hbx1) 0 rfl, cell_in ((hx.block _ (Nat.lt_of_lt_of_le (by simp) (Nat.le_trans Z9.out (Nat.le_trans Z10.out (Nat.le_trans Z11.out Z12.out))))).trans hbx1) 1 rfl, hx⟩
  go_wp2_with fail
  go_region_held3 (fun w' => w'.cell? ⟨w.heap.size, 0, none⟩ = some (.slice A1 os.length c1) ∧ w'.cell? ⟨w.heap.size, 1, none⟩ = some (.bool b1) ∧ w'.cell? ⟨w7.heap.size, 0, none⟩ = some (.slice G7 os.length d7) ∧ w'.cell? ⟨w7.heap.size, 1, none⟩ = some (.bool b1) ∧ Below w12.heap.size w12 w') (first | with_reducible exact HR.out _ (Below.refl w12.heap.size w12).drew | with_reducible exact HR.out _ HZ13.out | with_reducible exact HR.out _ HZ14.out | go_keep)
    (first | (go_at_call 20; refine (toSignRule_any b1 _ (s1.below (below_step HX (Below.refl w12.heap.size w12).drew) (Nat.le_refl _)) (Nat.le_trans HX.size (Below.refl w12.heap.size w12).drew.size) (by omega)).mono ?_; rintro e w13 ⟨o13, rfl, ho13, hb13⟩; have HZ13 := hid (below_step (Below.refl w12.heap.size w12).drew hb13); have u13 := (((Own.si (zs := os) ho7).below HZ13.out (Nat.le_trans Z8.out (Nat.le_trans Z9.out (Nat.le_trans Z10.out (Nat.le_trans Z11.out Z12.out))))).mono (Nat.le_trans (Nat.le_trans Z8.out (Nat.le_trans Z9.out (Nat.le_trans Z10.out (Nat.le_trans Z11.out Z12.out)))) HZ13.out.size)); have t13 := (Own.si (zs := os) ho13)) | (go_at_call 24; refine (eqSignRule_any b1 _ u13 t13 (Nat.le_refl _)).mono ?_; rintro e w14 ⟨rfl, hb14⟩; have HZ14 := hid (below_step HZ13.out hb14)))
  have hbR14 := HZ14.out
  have Z13 : Hid (w12.heap.size ≤ w13.heap.size) := hid hb13.size
  have Z14 : Hid (w13.heap.size ≤ w14.heap.size) := hid hb14.size
  replace HX := below_step HX hbR14
  replace ho6 := ho6.below hbR14 (Nat.le_trans Z7.out (Nat.le_trans Z8.out (Nat.le_trans Z9.out (Nat.le_trans Z10.out (Nat.le_trans Z11.out Z12.out)))))
  replace ho7 := ho7.below hbR14 (Nat.le_trans Z8.out (Nat.le_trans Z9.out (Nat.le_trans Z10.out (Nat.le_trans Z11.out Z12.out))))
  replace ho9 := ho9.below hbR14 (Nat.le_trans Z10.out (Nat.le_trans Z11.out Z12.out))
  replace hbx1 := (hbR14.block _ (Nat.lt_of_lt_of_le (by simp) (Nat.le_trans Z9.out (Nat.le_trans Z10.out (Nat.le_trans Z11.out Z12.out))))).trans hbx1
  clear HR HZ13 HZ14
  obtain ⟨hcX, -⟩ := bcell HX
  have hx1_0 := cell_in hbx1 0 (u := .slice G7 os.length d7) rfl
  have hx1_1 := cell_in hbx1 1 (u := .bool b1) rfl
  go_wp2_with fail
  clear hcX hx1_0 hx1_1
  refine (toSignatureS_any _ (s2.below HX (Nat.le_refl _)) hs2 HX.size (by omega)).mono ?_
  rintro e w15 ⟨o15, rfl, ho15, hb15⟩
  have Z15 := hid hb15.size
  replace HX := below_step HX hb15
  replace ho6 := ho6.below hb15 (Nat.le_trans Z7.out (Nat.le_trans Z8.out (Nat.le_trans Z9.out (Nat.le_trans Z10.out (Nat.le_trans Z11.out (Nat.le_trans Z12.out (Nat.le_trans Z13.out Z14.out)))))))
  replace ho7 := ho7.below hb15 (Nat.le_trans Z8.out (Nat.le_trans Z9.out (Nat.le_trans Z10.out (Nat.le_trans Z11.out (Nat.le_trans Z12.out (Nat.le_trans Z13.out Z14.out))))))
  replace ho9 := ho9.below hb15 (Nat.le_trans Z10.out (Nat.le_trans Z11.out (Nat.le_trans Z12.out (Nat.le_trans Z13.out Z14.out))))
  replace hbx1 := (hb15.block _ (Nat.lt_of_lt_of_le (by simp) (Nat.le_trans Z9.out (Nat.le_trans Z10.out (Nat.le_trans Z11.out (Nat.le_trans Z12.out (Nat.le_trans Z13.out Z14.out))))))).trans hbx1
  obtain ⟨hcX, -⟩ := bcell HX
  have hx1_0 := cell_in hbx1 0 (u := .slice G7 os.length d7) rfl
  have hx1_1 := cell_in hbx1 1 (u := .bool b1) rfl
  go_wp2_with fail
  clear hcX hx1_0 hx1_1
  refine (eqSignatureS_any  _ ((Own.sl (ks := ls) ho9 hs2).mono (Nat.le_trans Z10.out (Nat.le_trans Z11.out (Nat.le_trans Z12.out (Nat.le_trans Z13.out (Nat.le_trans Z14.out Z15.out)))))) ((Own.sl (ks := ls) ho15 hs2).mono (Nat.le_refl _)) (Nat.le_refl _)).mono ?_
  rintro e w16 ⟨rfl, hb16⟩
  have Z16 := hid hb16.size
  replace HX := below_step HX hb16
  replace ho6 := ho6.below hb16 (Nat.le_trans Z7.out (Nat.le_trans Z8.out (Nat.le_trans Z9.out (Nat.le_trans Z10.out (Nat.le_trans Z11.out (Nat.le_trans Z12.out (Nat.le_trans Z13.out (Nat.le_trans Z14.out Z15.out))))))))
  replace ho7 := ho7.below hb16 (Nat.le_trans Z8.out (Nat.le_trans Z9.out (Nat.le_trans Z10.out (Nat.le_trans Z11.out (Nat.le_trans Z12.out (Nat.le_trans Z13.out (Nat.le_trans Z14.out Z15.out)))))))
  replace ho9 := ho9.below hb16 (Nat.le_trans Z10.out (Nat.le_trans Z11.out (Nat.le_trans Z12.out (Nat.le_trans Z13.out (Nat.le_trans Z14.out Z15.out)))))
  replace ho15 := ho15.below hb16 (Nat.le_refl _)
  replace hbx1 := (hb16.block _ (Nat.lt_of_lt_of_le (by simp) (Nat.le_trans Z9.out (Nat.le_trans Z10.out (Nat.le_trans Z11.out (Nat.le_trans Z12.out (Nat.le_trans Z13.out (Nat.le_trans Z14.out Z15.out)))))))).trans hbx1
  clear ho15
  go_wp2
  go_ret
  exact ⟨rfl, below_step HH.out HX⟩

set_option maxRecDepth 100000 in
theorem lawMeetsRule_lifted (os : Os) (started : os.Started) (H : Type) (enc : TypeId × Value → H) :
    ReturnsInHanded {} Try.checked os 3 .any (Rows.fnExactMeetsRuleSpec.pre6 enc Try.prog Try.f3 Rows.fnExactMeetsRuleRow.domain false) (Rows.fnExactMeetsRuleSpec.post enc Try.prog Try.f3 false true false false) := by
  refine returnsInHanded_of_change (C := Try.checked) Try.own started (by kernel_rfl) Try.func3
    (ChangeSpec.witness6 (enc := enc) (C := Try.checked) false ⟨#[], #[.slice none 0 0, .agg #[.slice none 0 0, .bool false], .slice none 0 0, .int .i64 0], []⟩ 8 (by kernel_rfl) (by kernel_rfl) (by kernel_rfl) (by kernel_rfl)) ?_
  intro W base args ds gs before hval0 hW hcnd _
  have hval : ∀ (j : Nat) t v, Try.f3.params[j]? = some t → args[j]? = some v → Value.okWide Try.prog W .any base t v := hval0
  have hW' := hW
  obtain ⟨p, q, hA0, hV, rfl, hfz, hnd⟩ := hW
  have hA : DataW.TrodAll enc Try.prog W 0 (fun _ => true) true Try.f3.params.toList args.toList ds p := hA0
  rw [Try.params3] at hA hval
  obtain ⟨v0, v1, v2, v3, d0, d1, d2, d3, p0, p1, p2, p3, rfl, rfl, rfl, h0, h1, h2, h3⟩ := trodAll_four hA
  obtain ⟨rfl, rfl⟩ := trodVars_none hV
  obtain ⟨ks, s0, hs0, -⟩ := open_rows Try.underlying22 Try.underlying149 (by kernel_rfl) (N := 5) (by kernel_rfl) (by kernel_rfl) (by decide) Try.underlying3 (by kernel_rfl) (hval 0 22 v0 rfl rfl) h0
  obtain ⟨os, u1, b1, rfl, s1⟩ := open_rule Try.underlying25 (by kernel_rfl) (by kernel_rfl) Try.underlying23 Try.underlying3 (by kernel_rfl) Try.underlying4 (hval 1 25 v1 rfl rfl) h1
  obtain ⟨ls, s2, hs2, -⟩ := open_rows Try.underlying26 Try.underlying152 (by kernel_rfl) (N := 9) (by kernel_rfl) (by kernel_rfl) (by decide) Try.underlying3 (by kernel_rfl) (hval 2 26 v2 rfl rfl) h2
  obtain ⟨n, rfl, rfl, rfl, -⟩ := open_int Try.underlying3 (hval 3 3 v3 rfl rfl) h3
  refine (lawMeetsRule_any b1 n W s0 hs0 s1 s2 hs2).mono fun e W' ⟨he, hb⟩ => ?_
  subst he
  exact ⟨_, rfl, post_true hW' rfl Try.laidOut (by kernel_rfl) rfl Try.underlying4 rfl hb⟩

theorem lawMeetsRule_holds : Rows.FnExactMeetsRuleSaid :=
  OpenClaim.holds_of_wide 3 Try.f3 rfl rfl rfl rfl rfl rfl rfl ⟨rfl, rfl, rfl, rfl, rfl⟩ rfl rfl rfl rfl rfl (by kernel_rfl) Try.func3 (by kernel_rfl)
    (of_decide_eq_true (by kernel_rfl)) (by unfold Func.isWrapper; first | (rw [if_pos (by decide +kernel)]; kernel_rfl) | (rw [if_neg (by decide +kernel)]; exact ⟨rfl, rfl⟩))
    (fun os started H enc _ => lawMeetsRule_lifted os started H enc)
end Go.Proofs.Ytkdpfbodmfjkkaa
