/- The law FnKeys is true of every input. No condition. -/
import Derived.Test.YtkdpfbodmfjkkaaRows
import Derived.Test.YtkdpfbodmfjkkaaBase
import Derived.Test.YtkdpfbodmfjkkaaOpen
import Derived.Test.YtkdpfbodmfjkkaaPlain
import Derived.Test.YtkdpfbodmfjkkaaPlainKeys
import Derived.Test.YtkdpfbodmfjkkaaHashNe
import Derived.Test.YtkdpfbodmfjkkaaAppend
import Derived.Test.YtkdpfbodmfjkkaaApart
import Derived.Test.YtkdpfbodmfjkkaaCol
import Derived.Test.YtkdpfbodmfjkkaaCrypto
import Derived.Test.YtkdpfbodmfjkkaaMark
import Derived.Test.YtkdpfbodmfjkkaaFindKey
import Derived.Test.YtkdpfbodmfjkkaaKeysOf
import Derived.Test.YtkdpfbodmfjkkaaAreKeys
import Derived.Test.YtkdpfbodmfjkkaaChkKey
import Derived.Test.YtkdpfbodmfjkkaaStampsDigest
import Derived.Test.YtkdpfbodmfjkkaaDrawMark
import Derived.Test.YtkdpfbodmfjkkaaBig
import Derived.Test.YtkdpfbodmfjkkaaBox
namespace Go.Proofs.Ytkdpfbodmfjkkaa
open Go.ChangeShapes Go.WideShapes Go.ChangeAt Go.RowKit Go.Deep

/-- The numbers, the one at place j raised by one. -/
def upAt (zs : List Int) (j : Nat) : List Int := zs.set j (nth zs j + 1)
theorem upAt_length (zs : List Int) (j : Nat) : (upAt zs j).length = zs.length := by simp [upAt]
theorem mark_up {m s : Int} {zs : List Int} {j : Nat} (hj : j < zs.length) : (markW m s (upAt zs j) == markW m s zs) = false := by
  rw [beq_eq_false_iff_ne]
  have h1 : zs = zs.take j ++ nth zs j :: zs.drop (j + 1) := by
    rw [nth, List.getD, List.getElem?_eq_getElem hj]
    simp
  have h2 : upAt zs j = zs.take j ++ (nth zs j + 1) :: zs.drop (j + 1) := by
    unfold upAt
    generalize nth zs j + 1 = y
    rw [List.set_eq_take_append_cons_drop]
    simp [hj]
  rw [h2]
  conv => rhs; rw [h1]
  exact mark_ne (modP_up' _)
set_option maxRecDepth 90000 in
set_option maxHeartbeats 40000000 in
theorem lawKeys_any {n : Nat} {v : Value} (w : World) (hv : Bytes w.heap.size w v n) :
    Calls Try.prog 5 #[v] w (Ret (.bool true) w) := by
  have HV := hid hv
  obtain ⟨A, c, rfl, hc1, hc2, -⟩ := hv
  by_cases hn : n ≤ 1048576
  rotate_left
  · go_enter Try.func5, Try.ntmps5
    go_wp2_with fail
    refine (big_yes _ hn (by omega)).mono ?_
    rintro e w1 ⟨rfl, rfl⟩
    go_wp2
    go_ret
    exact ⟨rfl, Below.refl _ _⟩
  go_enter Try.func5, Try.ntmps5
  go_wp2_with fail
  refine (big_no _ hn).mono ?_
  rintro e w1 ⟨rfl, rfl⟩
  go_wp2_with fail
  refine (DrawCheckMark_any _ HV.out hn).mono ?_
  rintro e w1 ⟨u, ks, m, x, zs, mark, rfl, h2, hl, hs, hu, hx, hb1⟩
  have HB1 := hid hb1
  have HS1 := hid (hu.sl h2)
  have HZ1 := hid hx.si
  have hzl := hs.1
  have HV1 := hid ((HV.out.below hb1 (Nat.le_refl _)).mono hb1.size)
  have hl9 : ks.length ≤ 10 := by omega
  clear hb1 hu hx h2 hs hl
  obtain ⟨A1, c1, rfl, hd1, hd2, -⟩ := id HS1.out
  go_wp2_with fail
  refine (implFindKey_any _ _ HS1.out (Nat.le_refl _)).mono ?_
  rintro e w2 ⟨rfl, hb2⟩
  have HS2 := hid (HS1.out.step hb2)
  have HZ2 := hid (HZ1.out.step hb2)
  have HB2 := hid (below_step HB1.out hb2)
  have HV2 := hid ((HV1.out.below hb2 (Nat.le_refl _)).mono hb2.size)
  clear hb2
  rcases findI_range 0 m ks with hf | ⟨k, hk, hf, -⟩
  · skip
    have HCM : Hid (∀ W : World, Below w2.heap.size w2 W → Calls Try.prog 38 #[.slice A1 ks.length c1, iv m, x, iv mark] W (Ret (.bool false) W)) := hid fun W q1 => by rw [checkMarkB_none (mark := mark) (zs := zs) hf]; exact implCheckMark_any _ _ W (HS2.out.below q1 (Nat.le_refl _)) (HZ2.out.below q1 (Nat.le_refl _)) q1.size (by omega)
    rw [hf]
    go_wp2_with fail
    refine (HCM.out _ (Below.refl _ _)).mono ?_
    rintro e w3 ⟨rfl, hb3⟩
    have HX3 := hid hb3
    clear hb3
    clear HCM
    have HV3 := hid ((HV2.out.below HX3.out (Nat.le_refl _)).mono HX3.out.size)
    have HB3 := hid (below_step HB2.out HX3.out)
    clear HX3 HV2 HB2 HV1 HB1 HS1 HZ1 HS2 HZ2
    go_wp2_with fail
    refine (DrawMarkWith_any _ HV3.out hn).mono ?_
    rintro e w4 ⟨a0, a1, a2, a3, a4, x4, ys, rfl, hs4, hx4, hb4⟩
    have HV4 := hid ((HV3.out.below hb4 (Nat.le_refl _)).mono hb4.size)
    have HB4 := hid (below_step HB3.out hb4)
    have HZ4 := hid hx4.si
    have hyl := hs4.1
    have HYR := hid hs4.2
    have HX4 := hid (Blk.new w4 #[iv a0, iv a1, iv a2, iv a3, iv a4] 64)
    clear hx4 hs4 hb4 HV3 HB3
    obtain ⟨A4, c4, rfl, he1, he2, -⟩ := id HZ4.out
    obtain ⟨W4, hW4⟩ : ∃ W4, W4 = w4.alloc (.cells #[iv a0, iv a1, iv a2, iv a3, iv a4] 64) := ⟨_, rfl⟩
    have hwA : w4.heap.size < W4.heap.size := by rw [hW4]; simp
    have HA4 := hid (below_alloc w4 (.cells #[iv a0, iv a1, iv a2, iv a3, iv a4] 64))
    go_wp2
    rw [← hW4] at HX4 HA4 ⊢
    clear hW4
    go_loopw [10] (fun t wr => ∃ j : Nat, j ≤ ys.length ∧ t = .int .i64 j ∧ Below W4.heap.size W4 wr) (fun t _ => ys.length - (intOf t).toNat)
    case atStart => exact ⟨0, Nat.zero_le _, rfl, Below.refl _ _⟩
    case round =>
      obtain ⟨j, hj, rfl, hb⟩ := hrel
      have HXR := hid hb
      clear hb
      by_cases hlt : j < ys.length
      · skip
        have hup := mark_up (m := a2) (s := a4) hlt
        have hi0 : (0 : Int) ≤ (j : Int) := Int.natCast_nonneg _
        have hi1 : (j : Int) < (ys.length : Int) := by omega
        have hzr : W4.heap.size ≤ wr.heap.size := HXR.out.size
        have HZR := hid (((HZ4.out.below HA4.out (Nat.le_refl _)).below HXR.out (Nat.le_of_lt hwA)).mono (show w4.heap.size ≤ wr.heap.size by omega))
        have HZA := hid (HZR.out.below (below_alloc wr (.cells #[] 3)) (Nat.le_refl _))
        have HOA := hid (World.ownsRow_lit (base := wr.heap.size) (e := 3) (size := 1) wr #[] 0 (Nat.le_refl _) (by decide) rfl)
        have hyz : 0 ≤ nth ys j ∧ nth ys j ≤ 8 := by rw [nth, List.getD, List.getElem?_eq_getElem hlt]; exact HYR.out _ (List.getElem_mem hlt)
        obtain ⟨y, hy⟩ : ∃ y, y = nth ys j := ⟨_, rfl⟩
        rw [← hy] at hyz
        obtain ⟨hy0, hy1⟩ := hyz
        have HQ := hid (Si.src HZA.out)
        go_wp2_with (first | (at_builtin; refine wpList_append_src _ rfl _ _ 23 rfl wr.heap.size 3 Try.underlying23 Try.infoI rfl (by decide) _ _ 0 ys.length _ (ys.map (Value.int .i64)) rfl rfl HOA.out HQ.out (by unfold maxLen; omega) (by omega) (by simp) ?_; intro v1 w5 hown1 hg1; have HO5 : Hid (w5.ownsRow wr.heap.size 3 1 v1 ys.length (ys.map (Value.int .i64))) := hid (by simpa using hown1); have HX5 := hid (below_grown (HXR.out.alloc HXR.out.size _) HOA.out hg1 HXR.out.size (by have := HXR.out.size; simp; omega)); have HZ5 := hid (HZA.out.below (below_grown (Below.refl wr.heap.size _) HOA.out hg1 (Nat.le_refl _) (by simp)) (Nat.le_refl _)); clear hown1 hg1) | fail)
        obtain ⟨B5, d5, rfl⟩ := ownsRow_form HO5.out
        obtain ⟨g5, rfl⟩ := ownsRow_some HO5.out (by omega)
        have hg5 : wr.heap.size ≤ g5 ∧ g5 < w5.heap.size := HO5.out.lt g5 rfl
        have c0 : w5.cell? ⟨g5, j, none⟩ = some (iv y) := by rw [HO5.out.cellAt j (by omega), List.getElem?_map, nth_get hlt, hy]; rfl
        have f0 : w5.frozen? ⟨g5, j, none⟩ = false := HO5.out.frozenAt _
        have HO6 := hid (HO5.out.stored j (iv (y + 1))).1
        rw [set_rows, show ys.set j (y + 1) = upAt ys j by rw [hy]; rfl] at HO6
        obtain ⟨w6, hw6⟩ : ∃ w6, w6 = w5.setCell ⟨g5, j, none⟩ (iv (y + 1)) := ⟨_, rfl⟩
        have HX6 := hid (HX5.out.setCell (p := ⟨g5, j, none⟩) (by show W4.heap.size ≤ g5; omega) (iv (y + 1)))
        have HZ6 := hid (HZ5.out.below ((Below.refl wr.heap.size w5).setCell (p := ⟨g5, j, none⟩) hg5.1 (iv (y + 1))) (Nat.le_refl _))
        rw [← hw6] at HO6 HX6 HZ6
        have hz56 : w5.heap.size = w6.heap.size := by rw [hw6]; simp
        have hz6 : W4.heap.size ≤ w6.heap.size := HX6.out.size
        obtain ⟨x0, x1, x2, x3, x4⟩ : True ∧ True ∧ True ∧ True ∧ True := ⟨trivial, trivial, trivial, trivial, trivial⟩
        have HX64 := hid (HX4.out.below HX6.out)
        have hxl := HX64.out.lt
        have hZ6s : Si w6.heap.size w6 (.slice A4 ys.length c4) ys := HZ6.out.mono (by omega)
        have hO6s : Si w6.heap.size w6 (.slice (some ⟨g5, 0, none⟩) ys.length d5) (upAt ys j) := by have h := HO6.out; rw [← upAt_length ys j] at h ⊢; exact (Own.si ⟨h, fun g hg => by have := (h.lt g hg).2; omega⟩).mono (Nat.le_refl _)
        have hlu := upAt_length ys j
        have HMO : Hid (∀ W : World, Below w6.heap.size w6 W → Calls Try.prog 39 #[.agg #[iv a0, iv a1, iv a2, iv a3, iv a4], .slice (some ⟨g5, 0, none⟩) ys.length d5] W (Ret (iv (markW a2 a4 (upAt ys j))) W)) := hid fun W q => implMarkWith_any _ _ _ _ _ W (hO6s.below q (Nat.le_refl _)) q.size (by omega)
        have HMY : Hid (∀ W : World, Below w6.heap.size w6 W → Calls Try.prog 39 #[.agg #[iv a0, iv a1, iv a2, iv a3, iv a4], .slice A4 ys.length c4] W (Ret (iv (markW a2 a4 ys)) W)) := hid fun W q => implMarkWith_any _ _ _ _ _ W (hZ6s.below q (Nat.le_refl _)) q.size (by omega)
        generalize markW a2 a4 (upAt ys j) = mo at hup HMO
        generalize markW a2 a4 ys = my at hup HMY
        have HS : Hid (∀ w' : World, Below w6.heap.size w6 w' → (w'.cell? ⟨w4.heap.size, 0, none⟩ = some (iv a0) ∧ w'.cell? ⟨w4.heap.size, 1, none⟩ = some (iv a1) ∧ w'.cell? ⟨w4.heap.size, 2, none⟩ = some (iv a2) ∧ w'.cell? ⟨w4.heap.size, 3, none⟩ = some (iv a3) ∧ w'.cell? ⟨w4.heap.size, 4, none⟩ = some (iv a4))) := hid fun w' q => ⟨(HX64.out.below q).cell 0 rfl, (HX64.out.below q).cell 1 rfl, (HX64.out.below q).cell 2 rfl, (HX64.out.below q).cell 3 rfl, (HX64.out.below q).cell 4 rfl⟩
        have HW6 := hid hw6
        clear hw6 hz56 hlu
        clear hO6s hZ6s HQ HOA HZR HZA HZ5 HZ6 HO5 HO6 HX5 HX64 hy x0 x1 x2 x3 x4
        cases hkb : keyB a0 a1 a2 a3 a4
        · skip
          have HI : Hid (∀ W : World, Calls Try.prog 42 #[.agg #[iv a0, iv a1, iv a2, iv a3, iv a4]] W (Ret (.bool false) W)) := hid fun W => by rw [← hkb]; exact implIsKey_any _ _ _ _ _ W
          clear hkb HMO HMY hup
          have hr := Below.refl w6.heap.size w6
          go_wp2_with fail
          go_simp
          go_wp2_with fail
          try go_simp
          go_wp2_with fail
          rw [← HW6.out]
          clear HW6 c0 f0
          refine wp_region_held_drew (S := fun w' => w'.cell? ⟨w4.heap.size, 0, none⟩ = some (iv a0) ∧ w'.cell? ⟨w4.heap.size, 1, none⟩ = some (iv a1) ∧ w'.cell? ⟨w4.heap.size, 2, none⟩ = some (iv a2) ∧ w'.cell? ⟨w4.heap.size, 3, none⟩ = some (iv a3) ∧ w'.cell? ⟨w4.heap.size, 4, none⟩ = some (iv a4)) (by kernel_rfl) (HS.out _ hr.drew) (fun hSx => ?_)
          refine wpAnyH_take (i := 0) (v := .agg #[iv a0, iv a1, iv a2, iv a3, iv a4]) rfl (by kernel_rfl) (by kernel_rfl) (by kernel_rfl) (fun _ _ _ h => h) (Or.inl ⟨by rfl, fun wq hSw => by go_simp⟩) hSx ?_
          try simp [Act.put]
          clear hSx
          refine wpAnyH_ready (rs := [1]) (by kernel_rfl) (by simp) ?_
          refine AllReadyH.cons rfl (fun K hK => ?_) AllReadyH.nil
          go_simp
          go_wp2_with ((go_at_call 42; refine (HI.out _).mono ?_; rintro e w7 ⟨rfl, hb7⟩; have HZ1 := hid (below_step hr.drew hb7); clear hb7))
          refine hK _ _ (by simpa using HS.out _ HZ1.out) (fun hSx => ?_)
          clear hK K
          try simp [Act.put]
          refine wpAnyH_take (i := 2) (v := .bool false) rfl (by kernel_rfl) (by kernel_rfl) (by kernel_rfl) (fun _ _ _ h => h) (Or.inl ⟨by rfl, fun wq hSw => by go_simp⟩) hSx ?_
          try simp [Act.put]
          refine wpAnyH_take (i := 3) (v := undef) rfl (by kernel_rfl) (by kernel_rfl) (by kernel_rfl) (fun _ _ _ h => h) (Or.inr ⟨by rfl, rfl⟩) hSx ?_
          try simp [Act.put]
          refine wpAnyH_take (i := 4) (v := undef) rfl (by kernel_rfl) (by kernel_rfl) (by kernel_rfl) (fun _ _ _ h => h) (Or.inr ⟨by rfl, rfl⟩) hSx ?_
          try simp [Act.put]
          refine wpAnyH_take (i := 5) (v := undef) rfl (by kernel_rfl) (by kernel_rfl) (by kernel_rfl) (fun _ _ _ h => h) (Or.inr ⟨by rfl, rfl⟩) hSx ?_
          try simp [Act.put]
          refine wpAnyH_take (i := 6) (v := undef) rfl (by kernel_rfl) (by kernel_rfl) (by kernel_rfl) (fun _ _ _ h => h) (Or.inr ⟨by rfl, rfl⟩) hSx ?_
          try simp [Act.put]
          refine wpAnyH_take (i := 7) (v := undef) rfl (by kernel_rfl) (by kernel_rfl) (by kernel_rfl) (fun _ _ _ h => h) (Or.inr ⟨by rfl, rfl⟩) hSx ?_
          try simp [Act.put]
          refine wpAnyH_take (i := 8) (v := undef) rfl (by kernel_rfl) (by kernel_rfl) (by kernel_rfl) (fun _ _ _ h => h) (Or.inr ⟨by rfl, rfl⟩) hSx ?_
          try simp [Act.put]
          refine wpAnyH_take (i := 9) (v := undef) rfl (by kernel_rfl) (by kernel_rfl) (by kernel_rfl) (fun _ _ _ h => h) (Or.inr ⟨by rfl, rfl⟩) hSx ?_
          try simp [Act.put]
          refine wpAnyH_take (i := 10) (v := .bool false) rfl (by kernel_rfl) (by kernel_rfl) (by kernel_rfl) (fun _ _ _ h => h) (Or.inl ⟨by rfl, fun wq hSw => by go_simp⟩) hSx ?_
          try simp [Act.put]
          refine wpAnyH_done (by kernel_rfl) ?_ _
          have HE := hid (HX6.out.trans (HZ1.out.mono hz6))
          clear HS hr
          go_wp2
          go_roundw
          case rel => exact ⟨j + 1, by omega, by go_num, HE.out⟩
          case measure => simp [intOf]; omega
        · skip
          have HI : Hid (∀ W : World, Calls Try.prog 42 #[.agg #[iv a0, iv a1, iv a2, iv a3, iv a4]] W (Ret (.bool true) W)) := hid fun W => by rw [← hkb]; exact implIsKey_any _ _ _ _ _ W
          clear hkb
          have hr := Below.refl w6.heap.size w6
          go_wp2_with fail
          go_simp
          go_wp2_with fail
          try go_simp
          go_wp2_with fail
          rw [← HW6.out]
          clear HW6 c0 f0
          go_region_held3 (fun w' => w'.cell? ⟨w4.heap.size, 0, none⟩ = some (iv a0) ∧ w'.cell? ⟨w4.heap.size, 1, none⟩ = some (iv a1) ∧ w'.cell? ⟨w4.heap.size, 2, none⟩ = some (iv a2) ∧ w'.cell? ⟨w4.heap.size, 3, none⟩ = some (iv a3) ∧ w'.cell? ⟨w4.heap.size, 4, none⟩ = some (iv a4)) (first | with_reducible exact HS.out _ hr.drew | with_reducible exact HS.out _ HZ1.out | with_reducible exact HS.out _ HZo.out | with_reducible exact HS.out _ HZy.out | with_reducible exact HS.out _ HZoy.out | with_reducible exact HS.out _ HZyo.out | go_keep)
            (first | (go_at_call 42; refine (HI.out _).mono ?_; rintro e w7 ⟨rfl, hb7⟩; have HZ1 := hid (below_step hr.drew hb7); clear hb7) | (go_at_call 39; (first | (refine (HMO.out _ HZy.out).mono ?_; rintro e wHZyo ⟨rfl, hbHZyo⟩; have HZyo := hid (below_step HZy.out hbHZyo); clear hbHZyo) | (refine (HMY.out _ HZo.out).mono ?_; rintro e wHZoy ⟨rfl, hbHZoy⟩; have HZoy := hid (below_step HZo.out hbHZoy); clear hbHZoy) | (refine (HMO.out _ HZ1.out).mono ?_; rintro e wHZo ⟨rfl, hbHZo⟩; have HZo := hid (below_step HZ1.out hbHZo); clear hbHZo) | (refine (HMY.out _ HZ1.out).mono ?_; rintro e wHZy ⟨rfl, hbHZy⟩; have HZy := hid (below_step HZ1.out hbHZy); clear hbHZy))))
          all_goals
            have HE : Hid (Below W4.heap.size W4 _) := hid (by first | exact HX6.out.trans (HZoy.out.mono hz6) | exact HX6.out.trans (HZyo.out.mono hz6))
            clear HS hr
            go_wp2
            go_roundw
            case rel => exact ⟨j + 1, by omega, by go_num, HE.out⟩
            case measure => simp [intOf]; omega
      · skip
        have HV5 := hid (((HV4.out.below HA4.out (Nat.le_refl _)).below HXR.out (Nat.le_of_lt hwA)).mono (show w4.heap.size ≤ wr.heap.size by have := HXR.out.size; omega))
        have HB5 := hid (below_step (below_step HB4.out HA4.out) HXR.out)
        clear HXR
        go_wp2_with fail
        refine (DrawKeysOf_any _ HV5.out hn).mono ?_
        rintro e w6 ⟨u6, ms, o, rfl, h26, hl6, hu6, hb6⟩
        have HB6 := hid (below_step HB5.out hb6)
        have HS6 := hid (hu6.sl h26)
        have hl9m : ms.length ≤ 10 := by omega
        clear hb6 hu6 h26 HB5 HV5 hl6
        obtain ⟨A6, c6, rfl, hf1, hf2, -⟩ := id HS6.out
        go_wp2_with fail
        refine (implKeysOf_any _ _ HS6.out (Nat.le_refl _) (by omega)).mono ?_
        rintro e w7 ⟨v7, rfl, ho7, hb7⟩
        have HB7 := hid (below_step HB6.out hb7)
        have HS7 := hid (HS6.out.step hb7)
        have HM7 := hid ho7.si
        clear hb7 ho7
        obtain ⟨A7, c7, rfl, hh1, hh2, -, hcell⟩ := id HM7.out
        have HC7 := hid hcell
        clear hcell
        obtain ⟨q, hq⟩ : ∃ q, q = (keysI ms o ms.length).length := ⟨_, rfl⟩
        have HAK : Hid (∀ W : World, Below w7.heap.size w7 W → Calls Try.prog 45 #[.slice A6 ms.length c6] W (Ret (.bool (areB (goodKey ms) ms.length 12)) W)) := hid fun W q => implAreKeys_any W (HS7.out.below q (Nat.le_refl _)) q.size
        cases hak : areB (goodKey ms) ms.length 12
        · skip
          rw [hak] at HAK
          go_wp2
          go_loopw [15] (fun t wr => ∃ j : Nat, j ≤ (keysI ms o ms.length).length ∧ t = .int .i64 j ∧ Below w7.heap.size w7 wr) (fun t _ => (keysI ms o ms.length).length - (intOf t).toNat)
          case atStart => exact ⟨0, Nat.zero_le _, rfl, Below.refl _ _⟩
          case round =>
            obtain ⟨j, hj, rfl, hb⟩ := hrel
            have HXR := hid hb
            clear hb
            by_cases hlt : j < (keysI ms o ms.length).length
            rotate_left
            · go_wp2
              go_ret
              exact ⟨rfl, below_step HB7.out HXR.out⟩
            go_wp2_with fail
            refine (HAK.out _ HXR.out).mono ?_
            rintro e w8 ⟨rfl, hb8⟩
            have HX8 := hid (below_step HXR.out hb8)
            clear hb8
            have HX9 := HX8
            go_wp2
            go_roundw
            case rel => exact ⟨j + 1, by omega, by go_num, HX9.out⟩
            case measure => simp [intOf]; omega
        · skip
          rw [hak] at HAK
          go_wp2
          go_loopw [15] (fun t wr => ∃ j : Nat, j ≤ (keysI ms o ms.length).length ∧ t = .int .i64 j ∧ Below w7.heap.size w7 wr) (fun t _ => (keysI ms o ms.length).length - (intOf t).toNat)
          case atStart => exact ⟨0, Nat.zero_le _, rfl, Below.refl _ _⟩
          case round =>
            obtain ⟨j, hj, rfl, hb⟩ := hrel
            have HXR := hid hb
            clear hb
            by_cases hlt : j < (keysI ms o ms.length).length
            rotate_left
            · go_wp2
              go_ret
              exact ⟨rfl, below_step HB7.out HXR.out⟩
            obtain ⟨b, off, rfl, hbB, hcc⟩ := HC7.out (by omega)
            have HOW : Hid (∀ W : World, Below w7.heap.size w7 W → Calls Try.prog 46 #[.slice A6 ms.length c6, iv (nth (keysI ms o ms.length) j)] W (Ret (iv o) W)) := hid fun W q => ret_cast (by rw [keys_owner hak hlt]) (implOwnerOf_any _ W (HS7.out.below q (Nat.le_refl _)) q.size)
            have hj1 : (j : Int) < ((keysI ms o ms.length).length : Int) := by omega
            go_wp2_with fail
            refine (HAK.out _ HXR.out).mono ?_
            rintro e w8 ⟨rfl, hb8⟩
            have HX8 := hid (below_step HXR.out hb8)
            clear hb8
            have c0 := cell_at HX8.out hbB (Nat.le_refl _) (hcc j hlt)
            clear hcc
            go_wp2_with fail
            refine (HOW.out _ HX8.out).mono ?_
            rintro e w9 ⟨rfl, hb9⟩
            have HX9 := hid (below_step HX8.out hb9)
            clear hb9 c0
            go_wp2
            go_roundw
            case rel => exact ⟨j + 1, by omega, by go_num, HX9.out⟩
            case measure => simp [intOf]; omega
  · skip
    have hi0 : (0 : Int) ≤ (k : Int) := Int.natCast_nonneg _
    have hi1 : (k : Int) < (ks.length : Int) := by omega
    have hmx : mx (k : Int) 0 = (k : Int) := mx_ge hi0
    have HCM : Hid (∀ W : World, Below w2.heap.size w2 W → Calls Try.prog 38 #[.slice A1 ks.length c1, iv m, x, iv mark] W (Ret (.bool (markW (fld ks k 2) (fld ks k 4) zs == mark)) W)) := hid fun W q1 => by rw [checkMarkB_some (mark := mark) (zs := zs) hf]; exact implCheckMark_any _ _ W (HS2.out.below q1 (Nat.le_refl _)) (HZ2.out.below q1 (Nat.le_refl _)) q1.size (by omega)
    rw [hf]
    go_wp2_with fail
    refine (HCM.out _ (Below.refl _ _)).mono ?_
    rintro e w3 ⟨rfl, hb3⟩
    have HY3 := hid hb3
    clear hb3
    go_wp2_with fail
    refine (implMax_any _ _ _).mono ?_
    rintro e wm ⟨rfl, hbm⟩
    rw [hmx]
    have HYm := hid (below_step HY3.out hbm)
    clear hbm hmx
    obtain ⟨A, c, hvv, -, -, -, hcell⟩ := id (HS2.out.below HYm.out (Nat.le_refl _))
    simp only [Value.slice.injEq] at hvv
    obtain ⟨rfl, -, rfl⟩ := hvv
    obtain ⟨b, off, rfl, hbB, hcc⟩ := hcell (by omega)
    have c0 := hcc k 0 hk (by omega)
    have c1 := hcc k 1 hk (by omega)
    have c2 := hcc k 2 hk (by omega)
    have c3 := hcc k 3 hk (by omega)
    have c4 := hcc k 4 hk (by omega)
    rw [Nat.add_zero] at c0
    clear hcc hcell
    go_wp2_with fail
    refine (implMarkWith_any _ _ _ _ _ _ (HZ2.out.below HYm.out (Nat.le_refl _)) HYm.out.size (by omega)).mono ?_
    rintro e wn ⟨rfl, hbn⟩
    have HX3 := hid (below_step HYm.out hbn)
    generalize hbq : (markW (fld ks k 2) (fld ks k 4) zs == mark) = bb
    clear hbn c0 c1 c2 c3 c4
    clear HCM
    have HV3 := hid ((HV2.out.below HX3.out (Nat.le_refl _)).mono HX3.out.size)
    have HB3 := hid (below_step HB2.out HX3.out)
    clear HX3 HV2 HB2 HV1 HB1 HS1 HZ1 HS2 HZ2
    go_wp2_with fail
    refine (DrawMarkWith_any _ HV3.out hn).mono ?_
    rintro e w4 ⟨a0, a1, a2, a3, a4, x4, ys, rfl, hs4, hx4, hb4⟩
    have HV4 := hid ((HV3.out.below hb4 (Nat.le_refl _)).mono hb4.size)
    have HB4 := hid (below_step HB3.out hb4)
    have HZ4 := hid hx4.si
    have hyl := hs4.1
    have HYR := hid hs4.2
    have HX4 := hid (Blk.new w4 #[iv a0, iv a1, iv a2, iv a3, iv a4] 64)
    clear hx4 hs4 hb4 HV3 HB3
    obtain ⟨A4, c4, rfl, he1, he2, -⟩ := id HZ4.out
    obtain ⟨W4, hW4⟩ : ∃ W4, W4 = w4.alloc (.cells #[iv a0, iv a1, iv a2, iv a3, iv a4] 64) := ⟨_, rfl⟩
    have hwA : w4.heap.size < W4.heap.size := by rw [hW4]; simp
    have HA4 := hid (below_alloc w4 (.cells #[iv a0, iv a1, iv a2, iv a3, iv a4] 64))
    go_wp2
    rw [← hW4] at HX4 HA4 ⊢
    clear hW4
    go_loopw [10] (fun t wr => ∃ j : Nat, j ≤ ys.length ∧ t = .int .i64 j ∧ Below W4.heap.size W4 wr) (fun t _ => ys.length - (intOf t).toNat)
    case atStart => exact ⟨0, Nat.zero_le _, rfl, Below.refl _ _⟩
    case round =>
      obtain ⟨j, hj, rfl, hb⟩ := hrel
      have HXR := hid hb
      clear hb
      by_cases hlt : j < ys.length
      · skip
        have hup := mark_up (m := a2) (s := a4) hlt
        have hi0 : (0 : Int) ≤ (j : Int) := Int.natCast_nonneg _
        have hi1 : (j : Int) < (ys.length : Int) := by omega
        have hzr : W4.heap.size ≤ wr.heap.size := HXR.out.size
        have HZR := hid (((HZ4.out.below HA4.out (Nat.le_refl _)).below HXR.out (Nat.le_of_lt hwA)).mono (show w4.heap.size ≤ wr.heap.size by omega))
        have HZA := hid (HZR.out.below (below_alloc wr (.cells #[] 3)) (Nat.le_refl _))
        have HOA := hid (World.ownsRow_lit (base := wr.heap.size) (e := 3) (size := 1) wr #[] 0 (Nat.le_refl _) (by decide) rfl)
        have hyz : 0 ≤ nth ys j ∧ nth ys j ≤ 8 := by rw [nth, List.getD, List.getElem?_eq_getElem hlt]; exact HYR.out _ (List.getElem_mem hlt)
        obtain ⟨y, hy⟩ : ∃ y, y = nth ys j := ⟨_, rfl⟩
        rw [← hy] at hyz
        obtain ⟨hy0, hy1⟩ := hyz
        have HQ := hid (Si.src HZA.out)
        go_wp2_with (first | (at_builtin; refine wpList_append_src _ rfl _ _ 23 rfl wr.heap.size 3 Try.underlying23 Try.infoI rfl (by decide) _ _ 0 ys.length _ (ys.map (Value.int .i64)) rfl rfl HOA.out HQ.out (by unfold maxLen; omega) (by omega) (by simp) ?_; intro v1 w5 hown1 hg1; have HO5 : Hid (w5.ownsRow wr.heap.size 3 1 v1 ys.length (ys.map (Value.int .i64))) := hid (by simpa using hown1); have HX5 := hid (below_grown (HXR.out.alloc HXR.out.size _) HOA.out hg1 HXR.out.size (by have := HXR.out.size; simp; omega)); have HZ5 := hid (HZA.out.below (below_grown (Below.refl wr.heap.size _) HOA.out hg1 (Nat.le_refl _) (by simp)) (Nat.le_refl _)); clear hown1 hg1) | fail)
        obtain ⟨B5, d5, rfl⟩ := ownsRow_form HO5.out
        obtain ⟨g5, rfl⟩ := ownsRow_some HO5.out (by omega)
        have hg5 : wr.heap.size ≤ g5 ∧ g5 < w5.heap.size := HO5.out.lt g5 rfl
        have c0 : w5.cell? ⟨g5, j, none⟩ = some (iv y) := by rw [HO5.out.cellAt j (by omega), List.getElem?_map, nth_get hlt, hy]; rfl
        have f0 : w5.frozen? ⟨g5, j, none⟩ = false := HO5.out.frozenAt _
        have HO6 := hid (HO5.out.stored j (iv (y + 1))).1
        rw [set_rows, show ys.set j (y + 1) = upAt ys j by rw [hy]; rfl] at HO6
        obtain ⟨w6, hw6⟩ : ∃ w6, w6 = w5.setCell ⟨g5, j, none⟩ (iv (y + 1)) := ⟨_, rfl⟩
        have HX6 := hid (HX5.out.setCell (p := ⟨g5, j, none⟩) (by show W4.heap.size ≤ g5; omega) (iv (y + 1)))
        have HZ6 := hid (HZ5.out.below ((Below.refl wr.heap.size w5).setCell (p := ⟨g5, j, none⟩) hg5.1 (iv (y + 1))) (Nat.le_refl _))
        rw [← hw6] at HO6 HX6 HZ6
        have hz56 : w5.heap.size = w6.heap.size := by rw [hw6]; simp
        have hz6 : W4.heap.size ≤ w6.heap.size := HX6.out.size
        obtain ⟨x0, x1, x2, x3, x4⟩ : True ∧ True ∧ True ∧ True ∧ True := ⟨trivial, trivial, trivial, trivial, trivial⟩
        have HX64 := hid (HX4.out.below HX6.out)
        have hxl := HX64.out.lt
        have hZ6s : Si w6.heap.size w6 (.slice A4 ys.length c4) ys := HZ6.out.mono (by omega)
        have hO6s : Si w6.heap.size w6 (.slice (some ⟨g5, 0, none⟩) ys.length d5) (upAt ys j) := by have h := HO6.out; rw [← upAt_length ys j] at h ⊢; exact (Own.si ⟨h, fun g hg => by have := (h.lt g hg).2; omega⟩).mono (Nat.le_refl _)
        have hlu := upAt_length ys j
        have HMO : Hid (∀ W : World, Below w6.heap.size w6 W → Calls Try.prog 39 #[.agg #[iv a0, iv a1, iv a2, iv a3, iv a4], .slice (some ⟨g5, 0, none⟩) ys.length d5] W (Ret (iv (markW a2 a4 (upAt ys j))) W)) := hid fun W q => implMarkWith_any _ _ _ _ _ W (hO6s.below q (Nat.le_refl _)) q.size (by omega)
        have HMY : Hid (∀ W : World, Below w6.heap.size w6 W → Calls Try.prog 39 #[.agg #[iv a0, iv a1, iv a2, iv a3, iv a4], .slice A4 ys.length c4] W (Ret (iv (markW a2 a4 ys)) W)) := hid fun W q => implMarkWith_any _ _ _ _ _ W (hZ6s.below q (Nat.le_refl _)) q.size (by omega)
        generalize markW a2 a4 (upAt ys j) = mo at hup HMO
        generalize markW a2 a4 ys = my at hup HMY
        have HS : Hid (∀ w' : World, Below w6.heap.size w6 w' → (w'.cell? ⟨w4.heap.size, 0, none⟩ = some (iv a0) ∧ w'.cell? ⟨w4.heap.size, 1, none⟩ = some (iv a1) ∧ w'.cell? ⟨w4.heap.size, 2, none⟩ = some (iv a2) ∧ w'.cell? ⟨w4.heap.size, 3, none⟩ = some (iv a3) ∧ w'.cell? ⟨w4.heap.size, 4, none⟩ = some (iv a4))) := hid fun w' q => ⟨(HX64.out.below q).cell 0 rfl, (HX64.out.below q).cell 1 rfl, (HX64.out.below q).cell 2 rfl, (HX64.out.below q).cell 3 rfl, (HX64.out.below q).cell 4 rfl⟩
        have HW6 := hid hw6
        clear hw6 hz56 hlu
        clear hO6s hZ6s HQ HOA HZR HZA HZ5 HZ6 HO5 HO6 HX5 HX64 hy x0 x1 x2 x3 x4
        cases hkb : keyB a0 a1 a2 a3 a4
        · skip
          have HI : Hid (∀ W : World, Calls Try.prog 42 #[.agg #[iv a0, iv a1, iv a2, iv a3, iv a4]] W (Ret (.bool false) W)) := hid fun W => by rw [← hkb]; exact implIsKey_any _ _ _ _ _ W
          clear hkb HMO HMY hup
          have hr := Below.refl w6.heap.size w6
          go_wp2_with fail
          go_simp
          go_wp2_with fail
          try go_simp
          go_wp2_with fail
          rw [← HW6.out]
          clear HW6 c0 f0
          refine wp_region_held_drew (S := fun w' => w'.cell? ⟨w4.heap.size, 0, none⟩ = some (iv a0) ∧ w'.cell? ⟨w4.heap.size, 1, none⟩ = some (iv a1) ∧ w'.cell? ⟨w4.heap.size, 2, none⟩ = some (iv a2) ∧ w'.cell? ⟨w4.heap.size, 3, none⟩ = some (iv a3) ∧ w'.cell? ⟨w4.heap.size, 4, none⟩ = some (iv a4)) (by kernel_rfl) (HS.out _ hr.drew) (fun hSx => ?_)
          refine wpAnyH_take (i := 0) (v := .agg #[iv a0, iv a1, iv a2, iv a3, iv a4]) rfl (by kernel_rfl) (by kernel_rfl) (by kernel_rfl) (fun _ _ _ h => h) (Or.inl ⟨by rfl, fun wq hSw => by go_simp⟩) hSx ?_
          try simp [Act.put]
          clear hSx
          refine wpAnyH_ready (rs := [1]) (by kernel_rfl) (by simp) ?_
          refine AllReadyH.cons rfl (fun K hK => ?_) AllReadyH.nil
          go_simp
          go_wp2_with ((go_at_call 42; refine (HI.out _).mono ?_; rintro e w7 ⟨rfl, hb7⟩; have HZ1 := hid (below_step hr.drew hb7); clear hb7))
          refine hK _ _ (by simpa using HS.out _ HZ1.out) (fun hSx => ?_)
          clear hK K
          try simp [Act.put]
          refine wpAnyH_take (i := 2) (v := .bool false) rfl (by kernel_rfl) (by kernel_rfl) (by kernel_rfl) (fun _ _ _ h => h) (Or.inl ⟨by rfl, fun wq hSw => by go_simp⟩) hSx ?_
          try simp [Act.put]
          refine wpAnyH_take (i := 3) (v := undef) rfl (by kernel_rfl) (by kernel_rfl) (by kernel_rfl) (fun _ _ _ h => h) (Or.inr ⟨by rfl, rfl⟩) hSx ?_
          try simp [Act.put]
          refine wpAnyH_take (i := 4) (v := undef) rfl (by kernel_rfl) (by kernel_rfl) (by kernel_rfl) (fun _ _ _ h => h) (Or.inr ⟨by rfl, rfl⟩) hSx ?_
          try simp [Act.put]
          refine wpAnyH_take (i := 5) (v := undef) rfl (by kernel_rfl) (by kernel_rfl) (by kernel_rfl) (fun _ _ _ h => h) (Or.inr ⟨by rfl, rfl⟩) hSx ?_
          try simp [Act.put]
          refine wpAnyH_take (i := 6) (v := undef) rfl (by kernel_rfl) (by kernel_rfl) (by kernel_rfl) (fun _ _ _ h => h) (Or.inr ⟨by rfl, rfl⟩) hSx ?_
          try simp [Act.put]
          refine wpAnyH_take (i := 7) (v := undef) rfl (by kernel_rfl) (by kernel_rfl) (by kernel_rfl) (fun _ _ _ h => h) (Or.inr ⟨by rfl, rfl⟩) hSx ?_
          try simp [Act.put]
          refine wpAnyH_take (i := 8) (v := undef) rfl (by kernel_rfl) (by kernel_rfl) (by kernel_rfl) (fun _ _ _ h => h) (Or.inr ⟨by rfl, rfl⟩) hSx ?_
          try simp [Act.put]
          refine wpAnyH_take (i := 9) (v := undef) rfl (by kernel_rfl) (by kernel_rfl) (by kernel_rfl) (fun _ _ _ h => h) (Or.inr ⟨by rfl, rfl⟩) hSx ?_
          try simp [Act.put]
          refine wpAnyH_take (i := 10) (v := .bool false) rfl (by kernel_rfl) (by kernel_rfl) (by kernel_rfl) (fun _ _ _ h => h) (Or.inl ⟨by rfl, fun wq hSw => by go_simp⟩) hSx ?_
          try simp [Act.put]
          refine wpAnyH_done (by kernel_rfl) ?_ _
          have HE := hid (HX6.out.trans (HZ1.out.mono hz6))
          clear HS hr
          go_wp2
          go_roundw
          case rel => exact ⟨j + 1, by omega, by go_num, HE.out⟩
          case measure => simp [intOf]; omega
        · skip
          have HI : Hid (∀ W : World, Calls Try.prog 42 #[.agg #[iv a0, iv a1, iv a2, iv a3, iv a4]] W (Ret (.bool true) W)) := hid fun W => by rw [← hkb]; exact implIsKey_any _ _ _ _ _ W
          clear hkb
          have hr := Below.refl w6.heap.size w6
          go_wp2_with fail
          go_simp
          go_wp2_with fail
          try go_simp
          go_wp2_with fail
          rw [← HW6.out]
          clear HW6 c0 f0
          go_region_held3 (fun w' => w'.cell? ⟨w4.heap.size, 0, none⟩ = some (iv a0) ∧ w'.cell? ⟨w4.heap.size, 1, none⟩ = some (iv a1) ∧ w'.cell? ⟨w4.heap.size, 2, none⟩ = some (iv a2) ∧ w'.cell? ⟨w4.heap.size, 3, none⟩ = some (iv a3) ∧ w'.cell? ⟨w4.heap.size, 4, none⟩ = some (iv a4)) (first | with_reducible exact HS.out _ hr.drew | with_reducible exact HS.out _ HZ1.out | with_reducible exact HS.out _ HZo.out | with_reducible exact HS.out _ HZy.out | with_reducible exact HS.out _ HZoy.out | with_reducible exact HS.out _ HZyo.out | go_keep)
            (first | (go_at_call 42; refine (HI.out _).mono ?_; rintro e w7 ⟨rfl, hb7⟩; have HZ1 := hid (below_step hr.drew hb7); clear hb7) | (go_at_call 39; (first | (refine (HMO.out _ HZy.out).mono ?_; rintro e wHZyo ⟨rfl, hbHZyo⟩; have HZyo := hid (below_step HZy.out hbHZyo); clear hbHZyo) | (refine (HMY.out _ HZo.out).mono ?_; rintro e wHZoy ⟨rfl, hbHZoy⟩; have HZoy := hid (below_step HZo.out hbHZoy); clear hbHZoy) | (refine (HMO.out _ HZ1.out).mono ?_; rintro e wHZo ⟨rfl, hbHZo⟩; have HZo := hid (below_step HZ1.out hbHZo); clear hbHZo) | (refine (HMY.out _ HZ1.out).mono ?_; rintro e wHZy ⟨rfl, hbHZy⟩; have HZy := hid (below_step HZ1.out hbHZy); clear hbHZy))))
          all_goals
            have HE : Hid (Below W4.heap.size W4 _) := hid (by first | exact HX6.out.trans (HZoy.out.mono hz6) | exact HX6.out.trans (HZyo.out.mono hz6))
            clear HS hr
            go_wp2
            go_roundw
            case rel => exact ⟨j + 1, by omega, by go_num, HE.out⟩
            case measure => simp [intOf]; omega
      · skip
        have HV5 := hid (((HV4.out.below HA4.out (Nat.le_refl _)).below HXR.out (Nat.le_of_lt hwA)).mono (show w4.heap.size ≤ wr.heap.size by have := HXR.out.size; omega))
        have HB5 := hid (below_step (below_step HB4.out HA4.out) HXR.out)
        clear HXR
        go_wp2_with fail
        refine (DrawKeysOf_any _ HV5.out hn).mono ?_
        rintro e w6 ⟨u6, ms, o, rfl, h26, hl6, hu6, hb6⟩
        have HB6 := hid (below_step HB5.out hb6)
        have HS6 := hid (hu6.sl h26)
        have hl9m : ms.length ≤ 10 := by omega
        clear hb6 hu6 h26 HB5 HV5 hl6
        obtain ⟨A6, c6, rfl, hf1, hf2, -⟩ := id HS6.out
        go_wp2_with fail
        refine (implKeysOf_any _ _ HS6.out (Nat.le_refl _) (by omega)).mono ?_
        rintro e w7 ⟨v7, rfl, ho7, hb7⟩
        have HB7 := hid (below_step HB6.out hb7)
        have HS7 := hid (HS6.out.step hb7)
        have HM7 := hid ho7.si
        clear hb7 ho7
        obtain ⟨A7, c7, rfl, hh1, hh2, -, hcell⟩ := id HM7.out
        have HC7 := hid hcell
        clear hcell
        obtain ⟨q, hq⟩ : ∃ q, q = (keysI ms o ms.length).length := ⟨_, rfl⟩
        have HAK : Hid (∀ W : World, Below w7.heap.size w7 W → Calls Try.prog 45 #[.slice A6 ms.length c6] W (Ret (.bool (areB (goodKey ms) ms.length 12)) W)) := hid fun W q => implAreKeys_any W (HS7.out.below q (Nat.le_refl _)) q.size
        cases hak : areB (goodKey ms) ms.length 12
        · skip
          rw [hak] at HAK
          go_wp2
          go_loopw [15] (fun t wr => ∃ j : Nat, j ≤ (keysI ms o ms.length).length ∧ t = .int .i64 j ∧ Below w7.heap.size w7 wr) (fun t _ => (keysI ms o ms.length).length - (intOf t).toNat)
          case atStart => exact ⟨0, Nat.zero_le _, rfl, Below.refl _ _⟩
          case round =>
            obtain ⟨j, hj, rfl, hb⟩ := hrel
            have HXR := hid hb
            clear hb
            by_cases hlt : j < (keysI ms o ms.length).length
            rotate_left
            · go_wp2
              go_ret
              exact ⟨rfl, below_step HB7.out HXR.out⟩
            go_wp2_with fail
            refine (HAK.out _ HXR.out).mono ?_
            rintro e w8 ⟨rfl, hb8⟩
            have HX8 := hid (below_step HXR.out hb8)
            clear hb8
            have HX9 := HX8
            go_wp2
            go_roundw
            case rel => exact ⟨j + 1, by omega, by go_num, HX9.out⟩
            case measure => simp [intOf]; omega
        · skip
          rw [hak] at HAK
          go_wp2
          go_loopw [15] (fun t wr => ∃ j : Nat, j ≤ (keysI ms o ms.length).length ∧ t = .int .i64 j ∧ Below w7.heap.size w7 wr) (fun t _ => (keysI ms o ms.length).length - (intOf t).toNat)
          case atStart => exact ⟨0, Nat.zero_le _, rfl, Below.refl _ _⟩
          case round =>
            obtain ⟨j, hj, rfl, hb⟩ := hrel
            have HXR := hid hb
            clear hb
            by_cases hlt : j < (keysI ms o ms.length).length
            rotate_left
            · go_wp2
              go_ret
              exact ⟨rfl, below_step HB7.out HXR.out⟩
            obtain ⟨b, off, rfl, hbB, hcc⟩ := HC7.out (by omega)
            have HOW : Hid (∀ W : World, Below w7.heap.size w7 W → Calls Try.prog 46 #[.slice A6 ms.length c6, iv (nth (keysI ms o ms.length) j)] W (Ret (iv o) W)) := hid fun W q => ret_cast (by rw [keys_owner hak hlt]) (implOwnerOf_any _ W (HS7.out.below q (Nat.le_refl _)) q.size)
            have hj1 : (j : Int) < ((keysI ms o ms.length).length : Int) := by omega
            go_wp2_with fail
            refine (HAK.out _ HXR.out).mono ?_
            rintro e w8 ⟨rfl, hb8⟩
            have HX8 := hid (below_step HXR.out hb8)
            clear hb8
            have c0 := cell_at HX8.out hbB (Nat.le_refl _) (hcc j hlt)
            clear hcc
            go_wp2_with fail
            refine (HOW.out _ HX8.out).mono ?_
            rintro e w9 ⟨rfl, hb9⟩
            have HX9 := hid (below_step HX8.out hb9)
            clear hb9 c0
            go_wp2
            go_roundw
            case rel => exact ⟨j + 1, by omega, by go_num, HX9.out⟩
            case measure => simp [intOf]; omega

set_option maxRecDepth 100000 in
theorem lawKeys_lifted (os : Os) (started : os.Started) (H : Type) (enc : TypeId × Value → H) :
    ReturnsInHanded {} Try.checked os 5 .any (Rows.fnKeysSpec.pre6 enc Try.prog Try.f5 Rows.fnKeysRow.domain false) (Rows.fnKeysSpec.post enc Try.prog Try.f5 false true false false) := by
  refine returnsInHanded_of_change (C := Try.checked) Try.own started (by kernel_rfl) Try.func5
    (ChangeSpec.witness6 (enc := enc) (C := Try.checked) false ⟨#[], #[.slice none 0 0], []⟩ 8 (by kernel_rfl) (by kernel_rfl) (by kernel_rfl) (by kernel_rfl)) ?_
  intro W base args ds gs before hval0 hW hcnd _
  have hval : ∀ (j : Nat) t v, Try.f5.params[j]? = some t → args[j]? = some v → Value.okWide Try.prog W .any base t v := hval0
  have hW' := hW
  obtain ⟨p, q, hA0, hV, rfl, hfz, hnd⟩ := hW
  have hA : DataW.TrodAll enc Try.prog W 0 (fun _ => true) true Try.f5.params.toList args.toList ds p := hA0
  rw [Try.params5] at hA hval
  obtain ⟨v0, d0, rfl, rfl, h0⟩ := trodAll_one hA
  obtain ⟨rfl, rfl⟩ := trodVars_none hV
  obtain ⟨n, hB0⟩ := open_bytes Try.underlying41 Try.underlying5 (by kernel_rfl) (hval 0 41 v0 rfl rfl) h0
  refine (lawKeys_any W hB0).mono fun e W' ⟨he, hb⟩ => ?_
  subst he
  exact ⟨_, rfl, post_true hW' rfl Try.laidOut (by kernel_rfl) rfl Try.underlying4 rfl hb⟩

theorem lawKeys_holds : Rows.FnKeysSaid :=
  OpenClaim.holds_of_wide 5 Try.f5 rfl rfl rfl rfl rfl rfl rfl ⟨rfl, rfl, rfl, rfl, rfl⟩ rfl rfl rfl rfl rfl (by kernel_rfl) Try.func5 (by kernel_rfl)
    (of_decide_eq_true (by kernel_rfl)) (by unfold Func.isWrapper; first | (rw [if_pos (by decide +kernel)]; kernel_rfl) | (rw [if_neg (by decide +kernel)]; exact ⟨rfl, rfl⟩))
    (fun os started H enc _ => lawKeys_lifted os started H enc)end Go.Proofs.Ytkdpfbodmfjkkaa
