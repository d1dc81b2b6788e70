/- The law FnMandates is true of every input. No condition. -/
import Derived.Test.YtkdpfbodmfjkkaaRows
import Derived.Test.YtkdpfbodmfjkkaaBase
import Derived.Test.YtkdpfbodmfjkkaaOpen
import Derived.Test.YtkdpfbodmfjkkaaPlain
import Derived.Test.YtkdpfbodmfjkkaaAppend
import Derived.Test.YtkdpfbodmfjkkaaApart
import Derived.Test.YtkdpfbodmfjkkaaBlk
import Derived.Test.YtkdpfbodmfjkkaaMark
import Derived.Test.YtkdpfbodmfjkkaaFindKey
import Derived.Test.YtkdpfbodmfjkkaaChkSpan
import Derived.Test.YtkdpfbodmfjkkaaChkMandate
import Derived.Test.YtkdpfbodmfjkkaaMakeMandate
import Derived.Test.YtkdpfbodmfjkkaaCheckMandate
import Derived.Test.YtkdpfbodmfjkkaaMandSpans
import Derived.Test.YtkdpfbodmfjkkaaCovers
import Derived.Test.YtkdpfbodmfjkkaaMaySign
import Derived.Test.YtkdpfbodmfjkkaaPlainMand
import Derived.Test.YtkdpfbodmfjkkaaDrawMandate
import Derived.Test.YtkdpfbodmfjkkaaBig
import Derived.Test.YtkdpfbodmfjkkaaBox
import Derived.Deep.DeepCutAuto
namespace Go.Proofs.Ytkdpfbodmfjkkaa
open Go.ChangeShapes Go.WideShapes Go.ChangeAt Go.RowKit Go.Deep

theorem mand_made {ks : List (List Int)} {b0 b1 b2 b3 b4 m : Int} {k : Nat} (hx : mandateB b0 b1 b2 b3 b4 m = true) (hf : findI 0 b4 ks = (k : Int)) (hm : m = markW (fld ks k 2) (fld ks k 4) [105, b0, b1, b2, b3, b4]) : checkMandateB ks b0 b1 b2 b3 b4 m = (ownerOf b4 ks == b0) := by
  have h : (markW (fld ks k 2) (fld ks k 4) [105, b0, b1, b2, b3, b4] == m) = true := by rw [beq_iff_eq, hm]
  rw [checkMarkB_some hf] at h
  unfold checkMandateB
  rw [hx, h]
  simp
set_option maxRecDepth 90000 in
set_option maxHeartbeats 40000000 in
theorem lawMandates_any {n : Nat} {v : Value} (w : World) (hv : Bytes w.heap.size w v n) :
    Calls Try.prog 12 #[v] w (Ret (.bool true) w) := by
  have HV := hid hv
  obtain ⟨A, c, rfl, hc1, hc2, -⟩ := hv
  by_cases hn : n ≤ 1048576
  rotate_left
  · go_enter Try.func12, Try.ntmps12
    go_wp2_with fail
    refine (big_yes _ hn (by omega)).mono ?_
    rintro e w1 ⟨rfl, rfl⟩
    go_wp2
    go_ret
    exact ⟨rfl, Below.refl _ _⟩
  go_enter Try.func12, Try.ntmps12
  go_wp2_with fail
  refine (big_no _ hn).mono ?_
  rintro e w1 ⟨rfl, rfl⟩
  go_wp2_with fail
  refine (DrawMaySignFor_any _ HV.out hn).mono ?_
  rintro e w1 ⟨u, ks, x, ls, o, p, a0, a1, rfl, h1, hl9, h2, hl8, hu, hx, hb1⟩
  have HB1 := hid (below_step hb1 (below_alloc w1 (.cells #[iv a0, iv a1] 47)))
  have HS1 := hid ((hu.sl h1).step (below_alloc w1 (.cells #[iv a0, iv a1] 47)))
  have HL1 := hid ((hx.sl h2).step (below_alloc w1 (.cells #[iv a0, iv a1] 47)))
  have HX1 := hid (Blk.new w1 #[iv a0, iv a1] 47)
  clear hb1 hu hx h1 h2
  obtain ⟨A1, c1, rfl, hd1, hd2, -⟩ := id HS1.out
  obtain ⟨A2, c2, rfl, hd3, hd4, -⟩ := id HL1.out
  go_wp2_with fail
  generalize w1.alloc (.cells #[iv a0, iv a1] 47) = W1 at HB1 HS1 HL1 HX1 ⊢
  obtain ⟨bs, hbs⟩ : ∃ b, b = w1.heap.size := ⟨_, rfl⟩
  rw [← hbs] at HX1 ⊢
  clear hbs
  by_cases ho : o = 0
  · subst ho
    cases hsp : spanB a0 a1
    · skip
      have HI : Hid (∀ W : World, Below W1.heap.size W1 W → Calls Try.prog 81 #[.slice A1 ks.length c1, .slice A2 ls.length c2, iv 0, iv p, .agg #[iv a0, iv a1]] W (Ret (.bool false) W)) := hid fun W q => ret_cast (by rw [← may_zero hsp]) (implMaySignFor_any _ p a0 a1 W (HS1.out.below q (Nat.le_refl _)) (HL1.out.below q (Nat.le_refl _)) q.size (by omega))
      have HP : Hid (∀ W : World, Below W1.heap.size W1 W → Calls Try.prog 82 #[.slice A1 ks.length c1, .slice A2 ls.length c2, iv 0, iv p, .agg #[iv a0, iv a1]] W (Ret (.bool false) W)) := hid fun W q => ret_cast (by rw [← may_zero hsp]) (specMaySignFor_any _ p a0 a1 W (HS1.out.below q (Nat.le_refl _)) (HL1.out.below q (Nat.le_refl _)) q.size (by omega))
      have HIS : Hid (∀ W : World, Calls Try.prog 31 #[.agg #[iv a0, iv a1]] W (Ret (.bool false) W)) := hid fun W => by rw [← hsp]; exact implIsSpan_any _ _ W
      clear hsp
      refine (HI.out W1 (Below.refl _ _)).mono ?_
      rintro e w2 ⟨rfl, hb2⟩
      have HX2 := hid (HX1.out.below hb2)
      have HB2 := hid hb2
      have x0 := HX2.out.cell 0 rfl
      have x1 := HX2.out.cell 1 rfl
      clear hb2
      go_wp2_with fail
      refine (HP.out w2 HB2.out).mono ?_
      rintro e w3 ⟨rfl, hb3⟩
      have HX3 := hid (HX2.out.below hb3)
      have HB3 := hid (below_step HB2.out hb3)
      clear hb3 x0 x1 HI HP HX2 HB2
      have x0 := HX3.out.cell 0 rfl
      have x1 := HX3.out.cell 1 rfl
      go_wp2_with fail
      refine (HIS.out _).mono ?_
      rintro e w4 ⟨rfl, hb4⟩
      have HE := hid (below_step HB1.out (below_step HB3.out hb4))
      clear hb4
      go_wp2
      go_ret
      exact ⟨rfl, HE.out⟩
    · skip
      have HI : Hid (∀ W : World, Below W1.heap.size W1 W → Calls Try.prog 81 #[.slice A1 ks.length c1, .slice A2 ls.length c2, iv 0, iv p, .agg #[iv a0, iv a1]] W (Ret (.bool true) W)) := hid fun W q => ret_cast (by rw [← may_zero hsp]) (implMaySignFor_any _ p a0 a1 W (HS1.out.below q (Nat.le_refl _)) (HL1.out.below q (Nat.le_refl _)) q.size (by omega))
      have HP : Hid (∀ W : World, Below W1.heap.size W1 W → Calls Try.prog 82 #[.slice A1 ks.length c1, .slice A2 ls.length c2, iv 0, iv p, .agg #[iv a0, iv a1]] W (Ret (.bool true) W)) := hid fun W q => ret_cast (by rw [← may_zero hsp]) (specMaySignFor_any _ p a0 a1 W (HS1.out.below q (Nat.le_refl _)) (HL1.out.below q (Nat.le_refl _)) q.size (by omega))
      have HIS : Hid (∀ W : World, Calls Try.prog 31 #[.agg #[iv a0, iv a1]] W (Ret (.bool true) W)) := hid fun W => by rw [← hsp]; exact implIsSpan_any _ _ W
      clear hsp
      refine (HI.out W1 (Below.refl _ _)).mono ?_
      rintro e w2 ⟨rfl, hb2⟩
      have HX2 := hid (HX1.out.below hb2)
      have HB2 := hid hb2
      have x0 := HX2.out.cell 0 rfl
      have x1 := HX2.out.cell 1 rfl
      clear hb2
      go_wp2_with fail
      refine (HP.out w2 HB2.out).mono ?_
      rintro e w3 ⟨rfl, hb3⟩
      have HX3 := hid (HX2.out.below hb3)
      have HB3 := hid (below_step HB2.out hb3)
      clear hb3 x0 x1 HI HP HX2 HB2
      have x0 := HX3.out.cell 0 rfl
      have x1 := HX3.out.cell 1 rfl
      go_wp2_with fail
      refine (HIS.out _).mono ?_
      rintro e w4 ⟨rfl, hb4⟩
      have HE := hid (below_step HB1.out (below_step HB3.out hb4))
      clear hb4
      go_wp2
      go_ret
      exact ⟨rfl, HE.out⟩
  have e0 : (o == 0) = false := by rw [beq_eq_false_iff_ne]; exact ho
  cases hmay : mayB ks ls o p a0 a1
  · skip
    have HI : Hid (∀ W : World, Below W1.heap.size W1 W → Calls Try.prog 81 #[.slice A1 ks.length c1, .slice A2 ls.length c2, iv o, iv p, .agg #[iv a0, iv a1]] W (Ret (.bool false) W)) := hid fun W q => ret_cast (by rw [hmay]) (implMaySignFor_any _ p a0 a1 W (HS1.out.below q (Nat.le_refl _)) (HL1.out.below q (Nat.le_refl _)) q.size (by omega))
    have HP : Hid (∀ W : World, Below W1.heap.size W1 W → Calls Try.prog 82 #[.slice A1 ks.length c1, .slice A2 ls.length c2, iv o, iv p, .agg #[iv a0, iv a1]] W (Ret (.bool false) W)) := hid fun W q => ret_cast (by rw [hmay]) (specMaySignFor_any _ p a0 a1 W (HS1.out.below q (Nat.le_refl _)) (HL1.out.below q (Nat.le_refl _)) q.size (by omega))
    refine (HI.out W1 (Below.refl _ _)).mono ?_
    rintro e w2 ⟨rfl, hb2⟩
    have HX2 := hid (HX1.out.below hb2)
    have HB2 := hid hb2
    have x0 := HX2.out.cell 0 rfl
    have x1 := HX2.out.cell 1 rfl
    clear hb2
    go_wp2_with fail
    refine (HP.out w2 HB2.out).mono ?_
    rintro e w3 ⟨rfl, hb3⟩
    have HX3 := hid (HX2.out.below hb3)
    have HB3 := hid (below_step HB2.out hb3)
    clear hb3 x0 x1 HI HP HX2 HB2
    have x0 := HX3.out.cell 0 rfl
    have x1 := HX3.out.cell 1 rfl
    go_wp2_with fail
    refine (implMandateSpans_any _ _ _ (HS1.out.below HB3.out (Nat.le_refl _)) (HL1.out.below HB3.out (Nat.le_refl _)) HB3.out.size (by omega)).mono ?_
    rintro e w4 ⟨vs, rfl, hos, hb4⟩
    have HX4 := hid (HX3.out.below hb4)
    have HB4 := hid (below_step HB3.out hb4)
    have HSS := hid (hos.sl (manS_facts ks ls o p).1)
    have hls := (manS_facts ks ls o p).2
    have HCV : Hid (∀ W : World, Below w4.heap.size w4 W → Calls Try.prog 87 #[vs, .agg #[iv a0, iv a1]] W (Ret (.bool false) W)) := hid fun W q => ret_cast (by rw [may_other ho, hmay]) (implCoversSpan_any _ _ W (HSS.out.below q (Nat.le_refl _)) q.size (by omega))
    clear hos hb4 HSS hls x0 x1 HX3 HB3
    have HT4 := hid (below_step HB1.out HB4.out)
    have x0 := HX4.out.cell 0 rfl
    have x1 := HX4.out.cell 1 rfl
    have hxl := HX4.out.lt
    clear hmay
    have HXR := hid (Below.refl w4.heap.size w4)
    cases hle : decide (a0 ≤ a1)
    · skip
      go_wp2
      go_loopw [10] (fun t wr => t = iv a0 ∧ Below w4.heap.size w4 wr) (fun _ _ => 0)
      case atStart => exact ⟨rfl, Below.refl _ _⟩
      case round =>
        obtain ⟨rfl, hb⟩ := hrel
        clear x0 x1
        have x0 := (HX4.out.below hb).cell 0 rfl
        have x1 := (HX4.out.below hb).cell 1 rfl
        have HXR := hid hb
        clear hb
        have HBr := hid (below_step HT4.out HXR.out)
        have HVr := hid ((HV.out.below HBr.out (Nat.le_refl _)).mono HBr.out.size)
        go_wp2_with fail
        refine (DrawMakeMandate_any _ HVr.out hn).mono ?_
        rintro e w5 ⟨u5, ms, b0, b1, b2, b3, b4, b5, rfl, h5, hl5, hu5, hb5⟩
        have HY5 := hid (below_step (below_step HXR.out hb5) (below_alloc w5 (.cells #[iv b0, iv b1, iv b2, iv b3, iv b4, iv b5] 135)))
        have HS5 := hid ((hu5.sl h5).step (below_alloc w5 (.cells #[iv b0, iv b1, iv b2, iv b3, iv b4, iv b5] 135)))
        have HQ5 := hid (Blk.new w5 #[iv b0, iv b1, iv b2, iv b3, iv b4, iv b5] 135)
        clear hb5 hu5 h5 hl5 HBr HVr HXR x0 x1
        obtain ⟨A5, c5, rfl, hf1, hf2, -⟩ := id HS5.out
        go_wp2_with fail
        generalize w5.alloc (.cells #[iv b0, iv b1, iv b2, iv b3, iv b4, iv b5] 135) = W5 at HY5 HS5 HQ5 ⊢
        by_cases hno : mandateB b0 b1 b2 b3 b4 b5 = false ∨ findI 0 b4 ms = -1
        · skip
          refine (implMakeMandate_any_no b0 b1 b2 b3 b4 b5 _ HS5.out (Nat.le_refl _) hno).mono ?_
          rintro e w6 ⟨rfl, hb6⟩
          have HY7 := hid ((below_step HY5.out hb6).alloc (Nat.le_trans HY5.out.size hb6.size) (.cells #[iv 0, iv 0, iv 0, iv 0, iv 0, iv 0] 135))
          clear hb6 HS5 HQ5 hno
          have HS : Hid (∀ w' : World, Below (w6.alloc (.cells #[iv 0, iv 0, iv 0, iv 0, iv 0, iv 0] 135)).heap.size (w6.alloc (.cells #[iv 0, iv 0, iv 0, iv 0, iv 0, iv 0] 135)) w' → (w'.cell? ⟨bs, 0, none⟩ = some (iv a0) ∧ w'.cell? ⟨bs, 1, none⟩ = some (iv a1))) := hid fun w' q => ⟨((HX4.out.below HY7.out).below q).cell 0 rfl, ((HX4.out.below HY7.out).below q).cell 1 rfl⟩
          go_wp2_with fail
          generalize w6.alloc (.cells #[iv 0, iv 0, iv 0, iv 0, iv 0, iv 0] 135) = W7 at HY7 HS ⊢
          have hr := Below.refl W7.heap.size W7
          refine wp_region_held_drew (S := fun w' => w'.cell? ⟨bs, 0, none⟩ = some (iv a0) ∧ w'.cell? ⟨bs, 1, none⟩ = some (iv a1)) (by kernel_rfl) (HS.out _ hr.drew) (fun hSx => ?_)
          refine wpAnyH_take (i := 0) (v := .bool false) rfl (by kernel_rfl) (by kernel_rfl) (by kernel_rfl) (fun _ _ _ h => h) (Or.inl ⟨by rfl, fun wq hSw => by go_simp⟩) hSx ?_
          try simp [Act.put]
          refine wpAnyH_take (i := 1) (v := vs) rfl (by kernel_rfl) (by kernel_rfl) (by kernel_rfl) (fun _ _ _ h => h) (Or.inl ⟨by rfl, fun wq hSw => by go_simp⟩) hSx ?_
          try simp [Act.put]
          refine wpAnyH_take (i := 2) (v := .agg #[iv a0, iv a1]) rfl (by kernel_rfl) (by kernel_rfl) (by kernel_rfl) (fun _ _ _ h => h) (Or.inl ⟨by rfl, fun wq hSw => by go_simp⟩) hSx ?_
          try simp [Act.put]
          clear hSx
          refine wpAnyH_ready (rs := [3]) (by kernel_rfl) (by simp) ?_
          refine AllReadyH.cons rfl (fun K hK => ?_) AllReadyH.nil
          go_simp
          go_wp2_with ((go_at_call 87; refine (HCV.out _ (HY7.out.trans (hr.drew.mono HY7.out.size))).mono ?_; rintro e w8 ⟨rfl, hb8⟩; have HZ1 := hid (below_step hr.drew hb8); clear hb8))
          refine hK _ _ (by simpa using HS.out _ HZ1.out) (fun hSx => ?_)
          clear hK K
          try simp [Act.put]
          refine wpAnyH_take (i := 4) (v := .bool true) rfl (by kernel_rfl) (by kernel_rfl) (by kernel_rfl) (fun _ _ _ h => h) (Or.inl ⟨by rfl, fun wq hSw => by go_simp⟩) hSx ?_
          try simp [Act.put]
          refine wpAnyH_take (i := 5) (v := .bool true) rfl (by kernel_rfl) (by kernel_rfl) (by kernel_rfl) (fun _ _ _ h => h) (Or.inl ⟨by rfl, fun wq hSw => by go_simp⟩) hSx ?_
          try simp [Act.put]
          refine wpAnyH_take (i := 6) (v := .bool false) rfl (by kernel_rfl) (by kernel_rfl) (by kernel_rfl) (fun _ _ _ h => h) (Or.inl ⟨by rfl, fun wq hSw => by go_simp⟩) hSx ?_
          try simp [Act.put]
          refine wpAnyH_take (i := 7) (v := .bool true) rfl (by kernel_rfl) (by kernel_rfl) (by kernel_rfl) (fun _ _ _ h => h) (Or.inl ⟨by rfl, fun wq hSw => by go_simp⟩) hSx ?_
          try simp [Act.put]
          refine wpAnyH_take (i := 8) (v := .bool true) rfl (by kernel_rfl) (by kernel_rfl) (by kernel_rfl) (fun _ _ _ h => h) (Or.inl ⟨by rfl, fun wq hSw => by go_simp⟩) hSx ?_
          try simp [Act.put]
          refine wpAnyH_take (i := 9) (v := undef) rfl (by kernel_rfl) (by kernel_rfl) (by kernel_rfl) (fun _ _ _ h => h) (Or.inr ⟨by rfl, rfl⟩) hSx ?_
          try simp [Act.put]
          refine wpAnyH_take (i := 10) (v := undef) rfl (by kernel_rfl) (by kernel_rfl) (by kernel_rfl) (fun _ _ _ h => h) (Or.inr ⟨by rfl, rfl⟩) hSx ?_
          try simp [Act.put]
          refine wpAnyH_take (i := 11) (v := undef) rfl (by kernel_rfl) (by kernel_rfl) (by kernel_rfl) (fun _ _ _ h => h) (Or.inr ⟨by rfl, rfl⟩) hSx ?_
          try simp [Act.put]
          refine wpAnyH_take (i := 12) (v := undef) rfl (by kernel_rfl) (by kernel_rfl) (by kernel_rfl) (fun _ _ _ h => h) (Or.inr ⟨by rfl, rfl⟩) hSx ?_
          try simp [Act.put]
          refine wpAnyH_take (i := 13) (v := undef) rfl (by kernel_rfl) (by kernel_rfl) (by kernel_rfl) (fun _ _ _ h => h) (Or.inr ⟨by rfl, rfl⟩) hSx ?_
          try simp [Act.put]
          refine wpAnyH_take (i := 14) (v := undef) rfl (by kernel_rfl) (by kernel_rfl) (by kernel_rfl) (fun _ _ _ h => h) (Or.inr ⟨by rfl, rfl⟩) hSx ?_
          try simp [Act.put]
          refine wpAnyH_take (i := 15) (v := undef) rfl (by kernel_rfl) (by kernel_rfl) (by kernel_rfl) (fun _ _ _ h => h) (Or.inr ⟨by rfl, rfl⟩) hSx ?_
          try simp [Act.put]
          refine wpAnyH_take (i := 16) (v := undef) rfl (by kernel_rfl) (by kernel_rfl) (by kernel_rfl) (fun _ _ _ h => h) (Or.inr ⟨by rfl, rfl⟩) hSx ?_
          try simp [Act.put]
          refine wpAnyH_take (i := 17) (v := undef) rfl (by kernel_rfl) (by kernel_rfl) (by kernel_rfl) (fun _ _ _ h => h) (Or.inr ⟨by rfl, rfl⟩) hSx ?_
          try simp [Act.put]
          refine wpAnyH_take (i := 18) (v := undef) rfl (by kernel_rfl) (by kernel_rfl) (by kernel_rfl) (fun _ _ _ h => h) (Or.inr ⟨by rfl, rfl⟩) hSx ?_
          try simp [Act.put]
          refine wpAnyH_take (i := 19) (v := undef) rfl (by kernel_rfl) (by kernel_rfl) (by kernel_rfl) (fun _ _ _ h => h) (Or.inr ⟨by rfl, rfl⟩) hSx ?_
          try simp [Act.put]
          refine wpAnyH_take (i := 20) (v := .bool true) rfl (by kernel_rfl) (by kernel_rfl) (by kernel_rfl) (fun _ _ _ h => h) (Or.inl ⟨by rfl, fun wq hSw => by go_simp⟩) hSx ?_
          try simp [Act.put]
          refine wpAnyH_take (i := 21) (v := .bool true) rfl (by kernel_rfl) (by kernel_rfl) (by kernel_rfl) (fun _ _ _ h => h) (Or.inl ⟨by rfl, fun wq hSw => by go_simp⟩) hSx ?_
          try simp [Act.put]
          refine wpAnyH_take (i := 22) (v := .bool true) rfl (by kernel_rfl) (by kernel_rfl) (by kernel_rfl) (fun _ _ _ h => h) (Or.inl ⟨by rfl, fun wq hSw => by go_simp⟩) hSx ?_
          try simp [Act.put]
          refine wpAnyH_done (by kernel_rfl) ?_ _
          have HE := hid (below_step HT4.out (HY7.out.trans (HZ1.out.mono HY7.out.size)))
          go_wp2
          go_ret
          exact ⟨rfl, HE.out⟩
        · skip
          rcases findI_range 0 b4 ms with hf | ⟨k, hk, hf, -⟩
          · exact absurd (.inr hf) hno
          have hx : mandateB b0 b1 b2 b3 b4 b5 = true := by cases hs : mandateB b0 b1 b2 b3 b4 b5 with | false => exact absurd (.inl hs) hno | true => rfl
          clear hno
          obtain ⟨m, hm⟩ : ∃ m, m = markW (fld ms k 2) (fld ms k 4) [105, b0, b1, b2, b3, b4] := ⟨_, rfl⟩
          have HMK : Hid (Calls Try.prog 86 #[.slice A5 ms.length c5, .agg #[iv b0, iv b1, iv b2, iv b3, iv b4, iv b5]] W5 (Ret (.tuple #[.agg #[iv b0, iv b1, iv b2, iv b3, iv b4, iv m], .bool true]) W5)) := hid (by rw [hm]; exact implMakeMandate_any_yes b0 b1 b2 b3 b4 b5 _ HS5.out (Nat.le_refl _) hx k hk hf)
          have hq0 := mand_made (show mandateB b0 b1 b2 b3 b4 m = true from hx) hf hm
          clear hm hf hk hx
          refine HMK.out.mono ?_
          rintro e w6 ⟨rfl, hb6⟩
          have HY7 := hid ((below_step HY5.out hb6).alloc (Nat.le_trans HY5.out.size hb6.size) (.cells #[iv b0, iv b1, iv b2, iv b3, iv b4, iv m] 135))
          have HS7 := hid ((HS5.out.step hb6).step (below_alloc w6 (.cells #[iv b0, iv b1, iv b2, iv b3, iv b4, iv m] 135)))
          have HQ7 := hid (Blk.new w6 #[iv b0, iv b1, iv b2, iv b3, iv b4, iv m] 135)
          clear hb6 HS5 HQ5 HMK
          have HS : Hid (∀ w' : World, Below (w6.alloc (.cells #[iv b0, iv b1, iv b2, iv b3, iv b4, iv m] 135)).heap.size (w6.alloc (.cells #[iv b0, iv b1, iv b2, iv b3, iv b4, iv m] 135)) w' → (w'.cell? ⟨bs, 0, none⟩ = some (iv a0) ∧ w'.cell? ⟨bs, 1, none⟩ = some (iv a1) ∧ w'.cell? ⟨w6.heap.size, 0, none⟩ = some (iv b0) ∧ w'.cell? ⟨w6.heap.size, 1, none⟩ = some (iv b1) ∧ w'.cell? ⟨w6.heap.size, 2, none⟩ = some (iv b2) ∧ w'.cell? ⟨w6.heap.size, 3, none⟩ = some (iv b3) ∧ w'.cell? ⟨w6.heap.size, 4, none⟩ = some (iv b4) ∧ w'.cell? ⟨w6.heap.size, 5, none⟩ = some (iv m))) := hid fun w' q => ⟨((HX4.out.below HY7.out).below q).cell 0 rfl, ((HX4.out.below HY7.out).below q).cell 1 rfl, (HQ7.out.below q).cell 0 rfl, (HQ7.out.below q).cell 1 rfl, (HQ7.out.below q).cell 2 rfl, (HQ7.out.below q).cell 3 rfl, (HQ7.out.below q).cell 4 rfl, (HQ7.out.below q).cell 5 rfl⟩
          go_wp2_with fail
          generalize w6.alloc (.cells #[iv b0, iv b1, iv b2, iv b3, iv b4, iv m] 135) = W7 at HY7 HS HS7 ⊢
          have hr := Below.refl W7.heap.size W7
          have HCM : Hid (∀ W : World, Below W7.heap.size W7 W → Calls Try.prog 84 #[.slice A5 ms.length c5, .agg #[iv b0, iv b1, iv b2, iv b3, iv b4, iv m]] W (Ret (.bool (ownerOf b4 ms == b0)) W)) := hid fun W q => by rw [← hq0]; exact implCheckMandate_any _ _ _ _ _ _ W (HS7.out.below q (Nat.le_refl _)) q.size
          have HOW : Hid (∀ W : World, Below W7.heap.size W7 W → Calls Try.prog 46 #[.slice A5 ms.length c5, iv b4] W (Ret (iv (ownerOf b4 ms)) W)) := hid fun W q => implOwnerOf_any _ W (HS7.out.below q (Nat.le_refl _)) q.size
          clear hq0 HQ7
          generalize ownerOf b4 ms = ow at HCM HOW
          cases hq : (ow == b0)
          · skip
            rw [hq] at HCM
            go_region_held3 (fun w' => w'.cell? ⟨bs, 0, none⟩ = some (iv a0) ∧ w'.cell? ⟨bs, 1, none⟩ = some (iv a1) ∧ w'.cell? ⟨w6.heap.size, 0, none⟩ = some (iv b0) ∧ w'.cell? ⟨w6.heap.size, 1, none⟩ = some (iv b1) ∧ w'.cell? ⟨w6.heap.size, 2, none⟩ = some (iv b2) ∧ w'.cell? ⟨w6.heap.size, 3, none⟩ = some (iv b3) ∧ w'.cell? ⟨w6.heap.size, 4, none⟩ = some (iv b4) ∧ w'.cell? ⟨w6.heap.size, 5, none⟩ = some (iv m)) (first | with_reducible exact HS.out _ hr.drew | with_reducible exact HS.out _ HZ1.out | with_reducible exact HS.out _ HZc.out | with_reducible exact HS.out _ HZo.out | with_reducible exact HS.out _ HZ2.out | go_keep)
              (first | (go_at_call 87; refine (HCV.out _ (HY7.out.trans (hr.drew.mono HY7.out.size))).mono ?_; rintro e w8 ⟨rfl, hb8⟩; have HZ1 := hid (below_step hr.drew hb8); clear hb8) | (go_at_call 84; (first | (refine (HCM.out _ HZo.out).mono ?_; rintro e wc ⟨rfl, hbc⟩; have HZ2 := hid (below_step HZo.out hbc); clear hbc) | (refine (HCM.out _ HZ1.out).mono ?_; rintro e wc ⟨rfl, hbc⟩; have HZc := hid (below_step HZ1.out hbc); clear hbc))) | (go_at_call 46; (first | (refine (HOW.out _ HZc.out).mono ?_; rintro e wo ⟨rfl, hbo⟩; have HZ2 := hid (below_step HZc.out hbo); clear hbo) | (refine (HOW.out _ HZ1.out).mono ?_; rintro e wo ⟨rfl, hbo⟩; have HZo := hid (below_step HZ1.out hbo); clear hbo))))
            all_goals
              have HE := hid (below_step HT4.out (HY7.out.trans (HZ2.out.mono HY7.out.size)))
              go_wp2
              go_ret
              exact ⟨rfl, HE.out⟩
          · skip
            rw [hq] at HCM
            go_region_held3 (fun w' => w'.cell? ⟨bs, 0, none⟩ = some (iv a0) ∧ w'.cell? ⟨bs, 1, none⟩ = some (iv a1) ∧ w'.cell? ⟨w6.heap.size, 0, none⟩ = some (iv b0) ∧ w'.cell? ⟨w6.heap.size, 1, none⟩ = some (iv b1) ∧ w'.cell? ⟨w6.heap.size, 2, none⟩ = some (iv b2) ∧ w'.cell? ⟨w6.heap.size, 3, none⟩ = some (iv b3) ∧ w'.cell? ⟨w6.heap.size, 4, none⟩ = some (iv b4) ∧ w'.cell? ⟨w6.heap.size, 5, none⟩ = some (iv m)) (first | with_reducible exact HS.out _ hr.drew | with_reducible exact HS.out _ HZ1.out | with_reducible exact HS.out _ HZc.out | with_reducible exact HS.out _ HZo.out | with_reducible exact HS.out _ HZ2.out | go_keep)
              (first | (go_at_call 87; refine (HCV.out _ (HY7.out.trans (hr.drew.mono HY7.out.size))).mono ?_; rintro e w8 ⟨rfl, hb8⟩; have HZ1 := hid (below_step hr.drew hb8); clear hb8) | (go_at_call 84; (first | (refine (HCM.out _ HZo.out).mono ?_; rintro e wc ⟨rfl, hbc⟩; have HZ2 := hid (below_step HZo.out hbc); clear hbc) | (refine (HCM.out _ HZ1.out).mono ?_; rintro e wc ⟨rfl, hbc⟩; have HZc := hid (below_step HZ1.out hbc); clear hbc))) | (go_at_call 46; (first | (refine (HOW.out _ HZc.out).mono ?_; rintro e wo ⟨rfl, hbo⟩; have HZ2 := hid (below_step HZc.out hbo); clear hbo) | (refine (HOW.out _ HZ1.out).mono ?_; rintro e wo ⟨rfl, hbo⟩; have HZo := hid (below_step HZ1.out hbo); clear hbo))))
            all_goals
              have HE := hid (below_step HT4.out (HY7.out.trans (HZ2.out.mono HY7.out.size)))
              go_wp2
              go_ret
              exact ⟨rfl, HE.out⟩
    · skip
      go_wp2
      go_loopw [10] (fun t wr => t = iv a0 ∧ Below w4.heap.size w4 wr) (fun _ _ => 0)
      case atStart => exact ⟨rfl, Below.refl _ _⟩
      case round =>
        obtain ⟨rfl, hb⟩ := hrel
        clear x0 x1
        have x0 := (HX4.out.below hb).cell 0 rfl
        have x1 := (HX4.out.below hb).cell 1 rfl
        have HXR := hid hb
        clear hb
        have HBr := hid (below_step HT4.out HXR.out)
        have HVr := hid ((HV.out.below HBr.out (Nat.le_refl _)).mono HBr.out.size)
        go_wp2_with fail
        refine (DrawMakeMandate_any _ HVr.out hn).mono ?_
        rintro e w5 ⟨u5, ms, b0, b1, b2, b3, b4, b5, rfl, h5, hl5, hu5, hb5⟩
        have HY5 := hid (below_step (below_step HXR.out hb5) (below_alloc w5 (.cells #[iv b0, iv b1, iv b2, iv b3, iv b4, iv b5] 135)))
        have HS5 := hid ((hu5.sl h5).step (below_alloc w5 (.cells #[iv b0, iv b1, iv b2, iv b3, iv b4, iv b5] 135)))
        have HQ5 := hid (Blk.new w5 #[iv b0, iv b1, iv b2, iv b3, iv b4, iv b5] 135)
        clear hb5 hu5 h5 hl5 HBr HVr HXR x0 x1
        obtain ⟨A5, c5, rfl, hf1, hf2, -⟩ := id HS5.out
        go_wp2_with fail
        generalize w5.alloc (.cells #[iv b0, iv b1, iv b2, iv b3, iv b4, iv b5] 135) = W5 at HY5 HS5 HQ5 ⊢
        by_cases hno : mandateB b0 b1 b2 b3 b4 b5 = false ∨ findI 0 b4 ms = -1
        · skip
          refine (implMakeMandate_any_no b0 b1 b2 b3 b4 b5 _ HS5.out (Nat.le_refl _) hno).mono ?_
          rintro e w6 ⟨rfl, hb6⟩
          have HY7 := hid ((below_step HY5.out hb6).alloc (Nat.le_trans HY5.out.size hb6.size) (.cells #[iv 0, iv 0, iv 0, iv 0, iv 0, iv 0] 135))
          clear hb6 HS5 HQ5 hno
          have HS : Hid (∀ w' : World, Below (w6.alloc (.cells #[iv 0, iv 0, iv 0, iv 0, iv 0, iv 0] 135)).heap.size (w6.alloc (.cells #[iv 0, iv 0, iv 0, iv 0, iv 0, iv 0] 135)) w' → (w'.cell? ⟨bs, 0, none⟩ = some (iv a0) ∧ w'.cell? ⟨bs, 1, none⟩ = some (iv a1))) := hid fun w' q => ⟨((HX4.out.below HY7.out).below q).cell 0 rfl, ((HX4.out.below HY7.out).below q).cell 1 rfl⟩
          go_wp2_with fail
          generalize w6.alloc (.cells #[iv 0, iv 0, iv 0, iv 0, iv 0, iv 0] 135) = W7 at HY7 HS ⊢
          have hr := Below.refl W7.heap.size W7
          refine wp_region_held_drew (S := fun w' => w'.cell? ⟨bs, 0, none⟩ = some (iv a0) ∧ w'.cell? ⟨bs, 1, none⟩ = some (iv a1)) (by kernel_rfl) (HS.out _ hr.drew) (fun hSx => ?_)
          refine wpAnyH_take (i := 0) (v := .bool false) rfl (by kernel_rfl) (by kernel_rfl) (by kernel_rfl) (fun _ _ _ h => h) (Or.inl ⟨by rfl, fun wq hSw => by go_simp⟩) hSx ?_
          try simp [Act.put]
          refine wpAnyH_take (i := 1) (v := vs) rfl (by kernel_rfl) (by kernel_rfl) (by kernel_rfl) (fun _ _ _ h => h) (Or.inl ⟨by rfl, fun wq hSw => by go_simp⟩) hSx ?_
          try simp [Act.put]
          refine wpAnyH_take (i := 2) (v := .agg #[iv a0, iv a1]) rfl (by kernel_rfl) (by kernel_rfl) (by kernel_rfl) (fun _ _ _ h => h) (Or.inl ⟨by rfl, fun wq hSw => by go_simp⟩) hSx ?_
          try simp [Act.put]
          clear hSx
          refine wpAnyH_ready (rs := [3]) (by kernel_rfl) (by simp) ?_
          refine AllReadyH.cons rfl (fun K hK => ?_) AllReadyH.nil
          go_simp
          go_wp2_with ((go_at_call 87; refine (HCV.out _ (HY7.out.trans (hr.drew.mono HY7.out.size))).mono ?_; rintro e w8 ⟨rfl, hb8⟩; have HZ1 := hid (below_step hr.drew hb8); clear hb8))
          refine hK _ _ (by simpa using HS.out _ HZ1.out) (fun hSx => ?_)
          clear hK K
          try simp [Act.put]
          refine wpAnyH_take (i := 4) (v := .bool true) rfl (by kernel_rfl) (by kernel_rfl) (by kernel_rfl) (fun _ _ _ h => h) (Or.inl ⟨by rfl, fun wq hSw => by go_simp⟩) hSx ?_
          try simp [Act.put]
          refine wpAnyH_take (i := 5) (v := .bool true) rfl (by kernel_rfl) (by kernel_rfl) (by kernel_rfl) (fun _ _ _ h => h) (Or.inl ⟨by rfl, fun wq hSw => by go_simp⟩) hSx ?_
          try simp [Act.put]
          refine wpAnyH_take (i := 6) (v := .bool false) rfl (by kernel_rfl) (by kernel_rfl) (by kernel_rfl) (fun _ _ _ h => h) (Or.inl ⟨by rfl, fun wq hSw => by go_simp⟩) hSx ?_
          try simp [Act.put]
          refine wpAnyH_take (i := 7) (v := .bool true) rfl (by kernel_rfl) (by kernel_rfl) (by kernel_rfl) (fun _ _ _ h => h) (Or.inl ⟨by rfl, fun wq hSw => by go_simp⟩) hSx ?_
          try simp [Act.put]
          refine wpAnyH_take (i := 8) (v := .bool true) rfl (by kernel_rfl) (by kernel_rfl) (by kernel_rfl) (fun _ _ _ h => h) (Or.inl ⟨by rfl, fun wq hSw => by go_simp⟩) hSx ?_
          try simp [Act.put]
          refine wpAnyH_take (i := 9) (v := undef) rfl (by kernel_rfl) (by kernel_rfl) (by kernel_rfl) (fun _ _ _ h => h) (Or.inr ⟨by rfl, rfl⟩) hSx ?_
          try simp [Act.put]
          refine wpAnyH_take (i := 10) (v := undef) rfl (by kernel_rfl) (by kernel_rfl) (by kernel_rfl) (fun _ _ _ h => h) (Or.inr ⟨by rfl, rfl⟩) hSx ?_
          try simp [Act.put]
          refine wpAnyH_take (i := 11) (v := undef) rfl (by kernel_rfl) (by kernel_rfl) (by kernel_rfl) (fun _ _ _ h => h) (Or.inr ⟨by rfl, rfl⟩) hSx ?_
          try simp [Act.put]
          refine wpAnyH_take (i := 12) (v := undef) rfl (by kernel_rfl) (by kernel_rfl) (by kernel_rfl) (fun _ _ _ h => h) (Or.inr ⟨by rfl, rfl⟩) hSx ?_
          try simp [Act.put]
          refine wpAnyH_take (i := 13) (v := undef) rfl (by kernel_rfl) (by kernel_rfl) (by kernel_rfl) (fun _ _ _ h => h) (Or.inr ⟨by rfl, rfl⟩) hSx ?_
          try simp [Act.put]
          refine wpAnyH_take (i := 14) (v := undef) rfl (by kernel_rfl) (by kernel_rfl) (by kernel_rfl) (fun _ _ _ h => h) (Or.inr ⟨by rfl, rfl⟩) hSx ?_
          try simp [Act.put]
          refine wpAnyH_take (i := 15) (v := undef) rfl (by kernel_rfl) (by kernel_rfl) (by kernel_rfl) (fun _ _ _ h => h) (Or.inr ⟨by rfl, rfl⟩) hSx ?_
          try simp [Act.put]
          refine wpAnyH_take (i := 16) (v := undef) rfl (by kernel_rfl) (by kernel_rfl) (by kernel_rfl) (fun _ _ _ h => h) (Or.inr ⟨by rfl, rfl⟩) hSx ?_
          try simp [Act.put]
          refine wpAnyH_take (i := 17) (v := undef) rfl (by kernel_rfl) (by kernel_rfl) (by kernel_rfl) (fun _ _ _ h => h) (Or.inr ⟨by rfl, rfl⟩) hSx ?_
          try simp [Act.put]
          refine wpAnyH_take (i := 18) (v := undef) rfl (by kernel_rfl) (by kernel_rfl) (by kernel_rfl) (fun _ _ _ h => h) (Or.inr ⟨by rfl, rfl⟩) hSx ?_
          try simp [Act.put]
          refine wpAnyH_take (i := 19) (v := undef) rfl (by kernel_rfl) (by kernel_rfl) (by kernel_rfl) (fun _ _ _ h => h) (Or.inr ⟨by rfl, rfl⟩) hSx ?_
          try simp [Act.put]
          refine wpAnyH_take (i := 20) (v := .bool true) rfl (by kernel_rfl) (by kernel_rfl) (by kernel_rfl) (fun _ _ _ h => h) (Or.inl ⟨by rfl, fun wq hSw => by go_simp⟩) hSx ?_
          try simp [Act.put]
          refine wpAnyH_take (i := 21) (v := .bool true) rfl (by kernel_rfl) (by kernel_rfl) (by kernel_rfl) (fun _ _ _ h => h) (Or.inl ⟨by rfl, fun wq hSw => by go_simp⟩) hSx ?_
          try simp [Act.put]
          refine wpAnyH_take (i := 22) (v := .bool true) rfl (by kernel_rfl) (by kernel_rfl) (by kernel_rfl) (fun _ _ _ h => h) (Or.inl ⟨by rfl, fun wq hSw => by go_simp⟩) hSx ?_
          try simp [Act.put]
          refine wpAnyH_done (by kernel_rfl) ?_ _
          have HE := hid (below_step HT4.out (HY7.out.trans (HZ1.out.mono HY7.out.size)))
          go_wp2
          go_ret
          exact ⟨rfl, HE.out⟩
        · skip
          rcases findI_range 0 b4 ms with hf | ⟨k, hk, hf, -⟩
          · exact absurd (.inr hf) hno
          have hx : mandateB b0 b1 b2 b3 b4 b5 = true := by cases hs : mandateB b0 b1 b2 b3 b4 b5 with | false => exact absurd (.inl hs) hno | true => rfl
          clear hno
          obtain ⟨m, hm⟩ : ∃ m, m = markW (fld ms k 2) (fld ms k 4) [105, b0, b1, b2, b3, b4] := ⟨_, rfl⟩
          have HMK : Hid (Calls Try.prog 86 #[.slice A5 ms.length c5, .agg #[iv b0, iv b1, iv b2, iv b3, iv b4, iv b5]] W5 (Ret (.tuple #[.agg #[iv b0, iv b1, iv b2, iv b3, iv b4, iv m], .bool true]) W5)) := hid (by rw [hm]; exact implMakeMandate_any_yes b0 b1 b2 b3 b4 b5 _ HS5.out (Nat.le_refl _) hx k hk hf)
          have hq0 := mand_made (show mandateB b0 b1 b2 b3 b4 m = true from hx) hf hm
          clear hm hf hk hx
          refine HMK.out.mono ?_
          rintro e w6 ⟨rfl, hb6⟩
          have HY7 := hid ((below_step HY5.out hb6).alloc (Nat.le_trans HY5.out.size hb6.size) (.cells #[iv b0, iv b1, iv b2, iv b3, iv b4, iv m] 135))
          have HS7 := hid ((HS5.out.step hb6).step (below_alloc w6 (.cells #[iv b0, iv b1, iv b2, iv b3, iv b4, iv m] 135)))
          have HQ7 := hid (Blk.new w6 #[iv b0, iv b1, iv b2, iv b3, iv b4, iv m] 135)
          clear hb6 HS5 HQ5 HMK
          have HS : Hid (∀ w' : World, Below (w6.alloc (.cells #[iv b0, iv b1, iv b2, iv b3, iv b4, iv m] 135)).heap.size (w6.alloc (.cells #[iv b0, iv b1, iv b2, iv b3, iv b4, iv m] 135)) w' → (w'.cell? ⟨bs, 0, none⟩ = some (iv a0) ∧ w'.cell? ⟨bs, 1, none⟩ = some (iv a1) ∧ w'.cell? ⟨w6.heap.size, 0, none⟩ = some (iv b0) ∧ w'.cell? ⟨w6.heap.size, 1, none⟩ = some (iv b1) ∧ w'.cell? ⟨w6.heap.size, 2, none⟩ = some (iv b2) ∧ w'.cell? ⟨w6.heap.size, 3, none⟩ = some (iv b3) ∧ w'.cell? ⟨w6.heap.size, 4, none⟩ = some (iv b4) ∧ w'.cell? ⟨w6.heap.size, 5, none⟩ = some (iv m))) := hid fun w' q => ⟨((HX4.out.below HY7.out).below q).cell 0 rfl, ((HX4.out.below HY7.out).below q).cell 1 rfl, (HQ7.out.below q).cell 0 rfl, (HQ7.out.below q).cell 1 rfl, (HQ7.out.below q).cell 2 rfl, (HQ7.out.below q).cell 3 rfl, (HQ7.out.below q).cell 4 rfl, (HQ7.out.below q).cell 5 rfl⟩
          go_wp2_with fail
          generalize w6.alloc (.cells #[iv b0, iv b1, iv b2, iv b3, iv b4, iv m] 135) = W7 at HY7 HS HS7 ⊢
          have hr := Below.refl W7.heap.size W7
          have HCM : Hid (∀ W : World, Below W7.heap.size W7 W → Calls Try.prog 84 #[.slice A5 ms.length c5, .agg #[iv b0, iv b1, iv b2, iv b3, iv b4, iv m]] W (Ret (.bool (ownerOf b4 ms == b0)) W)) := hid fun W q => by rw [← hq0]; exact implCheckMandate_any _ _ _ _ _ _ W (HS7.out.below q (Nat.le_refl _)) q.size
          have HOW : Hid (∀ W : World, Below W7.heap.size W7 W → Calls Try.prog 46 #[.slice A5 ms.length c5, iv b4] W (Ret (iv (ownerOf b4 ms)) W)) := hid fun W q => implOwnerOf_any _ W (HS7.out.below q (Nat.le_refl _)) q.size
          clear hq0 HQ7
          generalize ownerOf b4 ms = ow at HCM HOW
          cases hq : (ow == b0)
          · skip
            rw [hq] at HCM
            go_region_held3 (fun w' => w'.cell? ⟨bs, 0, none⟩ = some (iv a0) ∧ w'.cell? ⟨bs, 1, none⟩ = some (iv a1) ∧ w'.cell? ⟨w6.heap.size, 0, none⟩ = some (iv b0) ∧ w'.cell? ⟨w6.heap.size, 1, none⟩ = some (iv b1) ∧ w'.cell? ⟨w6.heap.size, 2, none⟩ = some (iv b2) ∧ w'.cell? ⟨w6.heap.size, 3, none⟩ = some (iv b3) ∧ w'.cell? ⟨w6.heap.size, 4, none⟩ = some (iv b4) ∧ w'.cell? ⟨w6.heap.size, 5, none⟩ = some (iv m)) (first | with_reducible exact HS.out _ hr.drew | with_reducible exact HS.out _ HZ1.out | with_reducible exact HS.out _ HZc.out | with_reducible exact HS.out _ HZo.out | with_reducible exact HS.out _ HZ2.out | go_keep)
              (first | (go_at_call 87; refine (HCV.out _ (HY7.out.trans (hr.drew.mono HY7.out.size))).mono ?_; rintro e w8 ⟨rfl, hb8⟩; have HZ1 := hid (below_step hr.drew hb8); clear hb8) | (go_at_call 84; (first | (refine (HCM.out _ HZo.out).mono ?_; rintro e wc ⟨rfl, hbc⟩; have HZ2 := hid (below_step HZo.out hbc); clear hbc) | (refine (HCM.out _ HZ1.out).mono ?_; rintro e wc ⟨rfl, hbc⟩; have HZc := hid (below_step HZ1.out hbc); clear hbc))) | (go_at_call 46; (first | (refine (HOW.out _ HZc.out).mono ?_; rintro e wo ⟨rfl, hbo⟩; have HZ2 := hid (below_step HZc.out hbo); clear hbo) | (refine (HOW.out _ HZ1.out).mono ?_; rintro e wo ⟨rfl, hbo⟩; have HZo := hid (below_step HZ1.out hbo); clear hbo))))
            all_goals
              have HE := hid (below_step HT4.out (HY7.out.trans (HZ2.out.mono HY7.out.size)))
              go_wp2
              go_ret
              exact ⟨rfl, HE.out⟩
          · skip
            rw [hq] at HCM
            go_region_held3 (fun w' => w'.cell? ⟨bs, 0, none⟩ = some (iv a0) ∧ w'.cell? ⟨bs, 1, none⟩ = some (iv a1) ∧ w'.cell? ⟨w6.heap.size, 0, none⟩ = some (iv b0) ∧ w'.cell? ⟨w6.heap.size, 1, none⟩ = some (iv b1) ∧ w'.cell? ⟨w6.heap.size, 2, none⟩ = some (iv b2) ∧ w'.cell? ⟨w6.heap.size, 3, none⟩ = some (iv b3) ∧ w'.cell? ⟨w6.heap.size, 4, none⟩ = some (iv b4) ∧ w'.cell? ⟨w6.heap.size, 5, none⟩ = some (iv m)) (first | with_reducible exact HS.out _ hr.drew | with_reducible exact HS.out _ HZ1.out | with_reducible exact HS.out _ HZc.out | with_reducible exact HS.out _ HZo.out | with_reducible exact HS.out _ HZ2.out | go_keep)
              (first | (go_at_call 87; refine (HCV.out _ (HY7.out.trans (hr.drew.mono HY7.out.size))).mono ?_; rintro e w8 ⟨rfl, hb8⟩; have HZ1 := hid (below_step hr.drew hb8); clear hb8) | (go_at_call 84; (first | (refine (HCM.out _ HZo.out).mono ?_; rintro e wc ⟨rfl, hbc⟩; have HZ2 := hid (below_step HZo.out hbc); clear hbc) | (refine (HCM.out _ HZ1.out).mono ?_; rintro e wc ⟨rfl, hbc⟩; have HZc := hid (below_step HZ1.out hbc); clear hbc))) | (go_at_call 46; (first | (refine (HOW.out _ HZc.out).mono ?_; rintro e wo ⟨rfl, hbo⟩; have HZ2 := hid (below_step HZc.out hbo); clear hbo) | (refine (HOW.out _ HZ1.out).mono ?_; rintro e wo ⟨rfl, hbo⟩; have HZo := hid (below_step HZ1.out hbo); clear hbo))))
            all_goals
              have HE := hid (below_step HT4.out (HY7.out.trans (HZ2.out.mono HY7.out.size)))
              go_wp2
              go_ret
              exact ⟨rfl, HE.out⟩
  · skip
    have HI : Hid (∀ W : World, Below W1.heap.size W1 W → Calls Try.prog 81 #[.slice A1 ks.length c1, .slice A2 ls.length c2, iv o, iv p, .agg #[iv a0, iv a1]] W (Ret (.bool true) W)) := hid fun W q => ret_cast (by rw [hmay]) (implMaySignFor_any _ p a0 a1 W (HS1.out.below q (Nat.le_refl _)) (HL1.out.below q (Nat.le_refl _)) q.size (by omega))
    have HP : Hid (∀ W : World, Below W1.heap.size W1 W → Calls Try.prog 82 #[.slice A1 ks.length c1, .slice A2 ls.length c2, iv o, iv p, .agg #[iv a0, iv a1]] W (Ret (.bool true) W)) := hid fun W q => ret_cast (by rw [hmay]) (specMaySignFor_any _ p a0 a1 W (HS1.out.below q (Nat.le_refl _)) (HL1.out.below q (Nat.le_refl _)) q.size (by omega))
    refine (HI.out W1 (Below.refl _ _)).mono ?_
    rintro e w2 ⟨rfl, hb2⟩
    have HX2 := hid (HX1.out.below hb2)
    have HB2 := hid hb2
    have x0 := HX2.out.cell 0 rfl
    have x1 := HX2.out.cell 1 rfl
    clear hb2
    go_wp2_with fail
    refine (HP.out w2 HB2.out).mono ?_
    rintro e w3 ⟨rfl, hb3⟩
    have HX3 := hid (HX2.out.below hb3)
    have HB3 := hid (below_step HB2.out hb3)
    clear hb3 x0 x1 HI HP HX2 HB2
    have x0 := HX3.out.cell 0 rfl
    have x1 := HX3.out.cell 1 rfl
    go_wp2_with fail
    refine (implMandateSpans_any _ _ _ (HS1.out.below HB3.out (Nat.le_refl _)) (HL1.out.below HB3.out (Nat.le_refl _)) HB3.out.size (by omega)).mono ?_
    rintro e w4 ⟨vs, rfl, hos, hb4⟩
    have HX4 := hid (HX3.out.below hb4)
    have HB4 := hid (below_step HB3.out hb4)
    have HSS := hid (hos.sl (manS_facts ks ls o p).1)
    have hls := (manS_facts ks ls o p).2
    have HCV : Hid (∀ W : World, Below w4.heap.size w4 W → Calls Try.prog 87 #[vs, .agg #[iv a0, iv a1]] W (Ret (.bool true) W)) := hid fun W q => ret_cast (by rw [may_other ho, hmay]) (implCoversSpan_any _ _ W (HSS.out.below q (Nat.le_refl _)) q.size (by omega))
    clear hos hb4 HSS hls x0 x1 HX3 HB3
    have HT4 := hid (below_step HB1.out HB4.out)
    have x0 := HX4.out.cell 0 rfl
    have x1 := HX4.out.cell 1 rfl
    have hxl := HX4.out.lt
    obtain ⟨hsp, hin⟩ := may_in ho hmay
    have HIN := hid hin
    obtain ⟨hs1, hs2, hs3⟩ := spanB_iff.1 hsp
    clear hmay hin hsp
    have HCM : Hid (∀ (W : World) (b0 b1 b2 b3 b4 b5 : Int), Below w4.heap.size w4 W → Calls Try.prog 84 #[.slice A1 ks.length c1, .agg #[iv b0, iv b1, iv b2, iv b3, iv b4, iv b5]] W (Ret (.bool (checkMandateB ks b0 b1 b2 b3 b4 b5)) W)) := hid fun W b0 b1 b2 b3 b4 b5 q => implCheckMandate_any _ _ _ _ _ _ W ((HS1.out.below HB4.out (Nat.le_refl _)).below q HB4.out.size) (Nat.le_trans HB4.out.size q.size)
    have HL4 := hid (HL1.out.below HB4.out (Nat.le_refl _))
    have hz4 := HB4.out.size
    go_wp2
    go_loopw [10] (fun t wr => ∃ z : Int, a0 ≤ z ∧ z ≤ a1 + 1 ∧ t = .int .i64 z ∧ Below w4.heap.size w4 wr) (fun t _ => (a1 + 1 - intOf t).toNat)
    case atStart => exact ⟨a0, Int.le_refl _, by omega, rfl, Below.refl _ _⟩
    case round =>
      obtain ⟨z, hz1, hz2, rfl, hb⟩ := hrel
      clear x0 x1
      have x0 := (HX4.out.below hb).cell 0 rfl
      have x1 := (HX4.out.below hb).cell 1 rfl
      have HXR := hid hb
      clear hb
      by_cases hlt : z ≤ a1
      rotate_left
      · have hlt2 : decide (z ≤ a1) = false := by simpa using hlt
        clear HCM HIN HL4
        have HBr := hid (below_step HT4.out HXR.out)
        have HVr := hid ((HV.out.below HBr.out (Nat.le_refl _)).mono HBr.out.size)
        go_wp2_with fail
        refine (DrawMakeMandate_any _ HVr.out hn).mono ?_
        rintro e w5 ⟨u5, ms, b0, b1, b2, b3, b4, b5, rfl, h5, hl5, hu5, hb5⟩
        have HY5 := hid (below_step (below_step HXR.out hb5) (below_alloc w5 (.cells #[iv b0, iv b1, iv b2, iv b3, iv b4, iv b5] 135)))
        have HS5 := hid ((hu5.sl h5).step (below_alloc w5 (.cells #[iv b0, iv b1, iv b2, iv b3, iv b4, iv b5] 135)))
        have HQ5 := hid (Blk.new w5 #[iv b0, iv b1, iv b2, iv b3, iv b4, iv b5] 135)
        clear hb5 hu5 h5 hl5 HBr HVr HXR x0 x1
        obtain ⟨A5, c5, rfl, hf1, hf2, -⟩ := id HS5.out
        go_wp2_with fail
        generalize w5.alloc (.cells #[iv b0, iv b1, iv b2, iv b3, iv b4, iv b5] 135) = W5 at HY5 HS5 HQ5 ⊢
        by_cases hno : mandateB b0 b1 b2 b3 b4 b5 = false ∨ findI 0 b4 ms = -1
        · skip
          refine (implMakeMandate_any_no b0 b1 b2 b3 b4 b5 _ HS5.out (Nat.le_refl _) hno).mono ?_
          rintro e w6 ⟨rfl, hb6⟩
          have HY7 := hid ((below_step HY5.out hb6).alloc (Nat.le_trans HY5.out.size hb6.size) (.cells #[iv 0, iv 0, iv 0, iv 0, iv 0, iv 0] 135))
          clear hb6 HS5 HQ5 hno
          have HS : Hid (∀ w' : World, Below (w6.alloc (.cells #[iv 0, iv 0, iv 0, iv 0, iv 0, iv 0] 135)).heap.size (w6.alloc (.cells #[iv 0, iv 0, iv 0, iv 0, iv 0, iv 0] 135)) w' → (w'.cell? ⟨bs, 0, none⟩ = some (iv a0) ∧ w'.cell? ⟨bs, 1, none⟩ = some (iv a1))) := hid fun w' q => ⟨((HX4.out.below HY7.out).below q).cell 0 rfl, ((HX4.out.below HY7.out).below q).cell 1 rfl⟩
          go_wp2_with fail
          generalize w6.alloc (.cells #[iv 0, iv 0, iv 0, iv 0, iv 0, iv 0] 135) = W7 at HY7 HS ⊢
          have hr := Below.refl W7.heap.size W7
          refine wp_region_held_drew (S := fun w' => w'.cell? ⟨bs, 0, none⟩ = some (iv a0) ∧ w'.cell? ⟨bs, 1, none⟩ = some (iv a1)) (by kernel_rfl) (HS.out _ hr.drew) (fun hSx => ?_)
          refine wpAnyH_take (i := 0) (v := .bool true) rfl (by kernel_rfl) (by kernel_rfl) (by kernel_rfl) (fun _ _ _ h => h) (Or.inl ⟨by rfl, fun wq hSw => by go_simp⟩) hSx ?_
          try simp [Act.put]
          refine wpAnyH_take (i := 1) (v := vs) rfl (by kernel_rfl) (by kernel_rfl) (by kernel_rfl) (fun _ _ _ h => h) (Or.inl ⟨by rfl, fun wq hSw => by go_simp⟩) hSx ?_
          try simp [Act.put]
          refine wpAnyH_take (i := 2) (v := .agg #[iv a0, iv a1]) rfl (by kernel_rfl) (by kernel_rfl) (by kernel_rfl) (fun _ _ _ h => h) (Or.inl ⟨by rfl, fun wq hSw => by go_simp⟩) hSx ?_
          try simp [Act.put]
          clear hSx
          refine wpAnyH_ready (rs := [3]) (by kernel_rfl) (by simp) ?_
          refine AllReadyH.cons rfl (fun K hK => ?_) AllReadyH.nil
          go_simp
          go_wp2_with ((go_at_call 87; refine (HCV.out _ (HY7.out.trans (hr.drew.mono HY7.out.size))).mono ?_; rintro e w8 ⟨rfl, hb8⟩; have HZ1 := hid (below_step hr.drew hb8); clear hb8))
          refine hK _ _ (by simpa using HS.out _ HZ1.out) (fun hSx => ?_)
          clear hK K
          try simp [Act.put]
          refine wpAnyH_take (i := 4) (v := .bool true) rfl (by kernel_rfl) (by kernel_rfl) (by kernel_rfl) (fun _ _ _ h => h) (Or.inl ⟨by rfl, fun wq hSw => by go_simp⟩) hSx ?_
          try simp [Act.put]
          refine wpAnyH_take (i := 5) (v := .bool true) rfl (by kernel_rfl) (by kernel_rfl) (by kernel_rfl) (fun _ _ _ h => h) (Or.inl ⟨by rfl, fun wq hSw => by go_simp⟩) hSx ?_
          try simp [Act.put]
          refine wpAnyH_take (i := 6) (v := .bool false) rfl (by kernel_rfl) (by kernel_rfl) (by kernel_rfl) (fun _ _ _ h => h) (Or.inl ⟨by rfl, fun wq hSw => by go_simp⟩) hSx ?_
          try simp [Act.put]
          refine wpAnyH_take (i := 7) (v := .bool true) rfl (by kernel_rfl) (by kernel_rfl) (by kernel_rfl) (fun _ _ _ h => h) (Or.inl ⟨by rfl, fun wq hSw => by go_simp⟩) hSx ?_
          try simp [Act.put]
          refine wpAnyH_take (i := 8) (v := .bool true) rfl (by kernel_rfl) (by kernel_rfl) (by kernel_rfl) (fun _ _ _ h => h) (Or.inl ⟨by rfl, fun wq hSw => by go_simp⟩) hSx ?_
          try simp [Act.put]
          refine wpAnyH_take (i := 9) (v := undef) rfl (by kernel_rfl) (by kernel_rfl) (by kernel_rfl) (fun _ _ _ h => h) (Or.inr ⟨by rfl, rfl⟩) hSx ?_
          try simp [Act.put]
          refine wpAnyH_take (i := 10) (v := undef) rfl (by kernel_rfl) (by kernel_rfl) (by kernel_rfl) (fun _ _ _ h => h) (Or.inr ⟨by rfl, rfl⟩) hSx ?_
          try simp [Act.put]
          refine wpAnyH_take (i := 11) (v := undef) rfl (by kernel_rfl) (by kernel_rfl) (by kernel_rfl) (fun _ _ _ h => h) (Or.inr ⟨by rfl, rfl⟩) hSx ?_
          try simp [Act.put]
          refine wpAnyH_take (i := 12) (v := undef) rfl (by kernel_rfl) (by kernel_rfl) (by kernel_rfl) (fun _ _ _ h => h) (Or.inr ⟨by rfl, rfl⟩) hSx ?_
          try simp [Act.put]
          refine wpAnyH_take (i := 13) (v := undef) rfl (by kernel_rfl) (by kernel_rfl) (by kernel_rfl) (fun _ _ _ h => h) (Or.inr ⟨by rfl, rfl⟩) hSx ?_
          try simp [Act.put]
          refine wpAnyH_take (i := 14) (v := undef) rfl (by kernel_rfl) (by kernel_rfl) (by kernel_rfl) (fun _ _ _ h => h) (Or.inr ⟨by rfl, rfl⟩) hSx ?_
          try simp [Act.put]
          refine wpAnyH_take (i := 15) (v := undef) rfl (by kernel_rfl) (by kernel_rfl) (by kernel_rfl) (fun _ _ _ h => h) (Or.inr ⟨by rfl, rfl⟩) hSx ?_
          try simp [Act.put]
          refine wpAnyH_take (i := 16) (v := undef) rfl (by kernel_rfl) (by kernel_rfl) (by kernel_rfl) (fun _ _ _ h => h) (Or.inr ⟨by rfl, rfl⟩) hSx ?_
          try simp [Act.put]
          refine wpAnyH_take (i := 17) (v := undef) rfl (by kernel_rfl) (by kernel_rfl) (by kernel_rfl) (fun _ _ _ h => h) (Or.inr ⟨by rfl, rfl⟩) hSx ?_
          try simp [Act.put]
          refine wpAnyH_take (i := 18) (v := undef) rfl (by kernel_rfl) (by kernel_rfl) (by kernel_rfl) (fun _ _ _ h => h) (Or.inr ⟨by rfl, rfl⟩) hSx ?_
          try simp [Act.put]
          refine wpAnyH_take (i := 19) (v := undef) rfl (by kernel_rfl) (by kernel_rfl) (by kernel_rfl) (fun _ _ _ h => h) (Or.inr ⟨by rfl, rfl⟩) hSx ?_
          try simp [Act.put]
          refine wpAnyH_take (i := 20) (v := .bool true) rfl (by kernel_rfl) (by kernel_rfl) (by kernel_rfl) (fun _ _ _ h => h) (Or.inl ⟨by rfl, fun wq hSw => by go_simp⟩) hSx ?_
          try simp [Act.put]
          refine wpAnyH_take (i := 21) (v := .bool true) rfl (by kernel_rfl) (by kernel_rfl) (by kernel_rfl) (fun _ _ _ h => h) (Or.inl ⟨by rfl, fun wq hSw => by go_simp⟩) hSx ?_
          try simp [Act.put]
          refine wpAnyH_take (i := 22) (v := .bool true) rfl (by kernel_rfl) (by kernel_rfl) (by kernel_rfl) (fun _ _ _ h => h) (Or.inl ⟨by rfl, fun wq hSw => by go_simp⟩) hSx ?_
          try simp [Act.put]
          refine wpAnyH_done (by kernel_rfl) ?_ _
          have HE := hid (below_step HT4.out (HY7.out.trans (HZ1.out.mono HY7.out.size)))
          go_wp2
          go_ret
          exact ⟨rfl, HE.out⟩
        · skip
          rcases findI_range 0 b4 ms with hf | ⟨k, hk, hf, -⟩
          · exact absurd (.inr hf) hno
          have hx : mandateB b0 b1 b2 b3 b4 b5 = true := by cases hs : mandateB b0 b1 b2 b3 b4 b5 with | false => exact absurd (.inl hs) hno | true => rfl
          clear hno
          obtain ⟨m, hm⟩ : ∃ m, m = markW (fld ms k 2) (fld ms k 4) [105, b0, b1, b2, b3, b4] := ⟨_, rfl⟩
          have HMK : Hid (Calls Try.prog 86 #[.slice A5 ms.length c5, .agg #[iv b0, iv b1, iv b2, iv b3, iv b4, iv b5]] W5 (Ret (.tuple #[.agg #[iv b0, iv b1, iv b2, iv b3, iv b4, iv m], .bool true]) W5)) := hid (by rw [hm]; exact implMakeMandate_any_yes b0 b1 b2 b3 b4 b5 _ HS5.out (Nat.le_refl _) hx k hk hf)
          have hq0 := mand_made (show mandateB b0 b1 b2 b3 b4 m = true from hx) hf hm
          clear hm hf hk hx
          refine HMK.out.mono ?_
          rintro e w6 ⟨rfl, hb6⟩
          have HY7 := hid ((below_step HY5.out hb6).alloc (Nat.le_trans HY5.out.size hb6.size) (.cells #[iv b0, iv b1, iv b2, iv b3, iv b4, iv m] 135))
          have HS7 := hid ((HS5.out.step hb6).step (below_alloc w6 (.cells #[iv b0, iv b1, iv b2, iv b3, iv b4, iv m] 135)))
          have HQ7 := hid (Blk.new w6 #[iv b0, iv b1, iv b2, iv b3, iv b4, iv m] 135)
          clear hb6 HS5 HQ5 HMK
          have HS : Hid (∀ w' : World, Below (w6.alloc (.cells #[iv b0, iv b1, iv b2, iv b3, iv b4, iv m] 135)).heap.size (w6.alloc (.cells #[iv b0, iv b1, iv b2, iv b3, iv b4, iv m] 135)) w' → (w'.cell? ⟨bs, 0, none⟩ = some (iv a0) ∧ w'.cell? ⟨bs, 1, none⟩ = some (iv a1) ∧ w'.cell? ⟨w6.heap.size, 0, none⟩ = some (iv b0) ∧ w'.cell? ⟨w6.heap.size, 1, none⟩ = some (iv b1) ∧ w'.cell? ⟨w6.heap.size, 2, none⟩ = some (iv b2) ∧ w'.cell? ⟨w6.heap.size, 3, none⟩ = some (iv b3) ∧ w'.cell? ⟨w6.heap.size, 4, none⟩ = some (iv b4) ∧ w'.cell? ⟨w6.heap.size, 5, none⟩ = some (iv m))) := hid fun w' q => ⟨((HX4.out.below HY7.out).below q).cell 0 rfl, ((HX4.out.below HY7.out).below q).cell 1 rfl, (HQ7.out.below q).cell 0 rfl, (HQ7.out.below q).cell 1 rfl, (HQ7.out.below q).cell 2 rfl, (HQ7.out.below q).cell 3 rfl, (HQ7.out.below q).cell 4 rfl, (HQ7.out.below q).cell 5 rfl⟩
          go_wp2_with fail
          generalize w6.alloc (.cells #[iv b0, iv b1, iv b2, iv b3, iv b4, iv m] 135) = W7 at HY7 HS HS7 ⊢
          have hr := Below.refl W7.heap.size W7
          have HCM : Hid (∀ W : World, Below W7.heap.size W7 W → Calls Try.prog 84 #[.slice A5 ms.length c5, .agg #[iv b0, iv b1, iv b2, iv b3, iv b4, iv m]] W (Ret (.bool (ownerOf b4 ms == b0)) W)) := hid fun W q => by rw [← hq0]; exact implCheckMandate_any _ _ _ _ _ _ W (HS7.out.below q (Nat.le_refl _)) q.size
          have HOW : Hid (∀ W : World, Below W7.heap.size W7 W → Calls Try.prog 46 #[.slice A5 ms.length c5, iv b4] W (Ret (iv (ownerOf b4 ms)) W)) := hid fun W q => implOwnerOf_any _ W (HS7.out.below q (Nat.le_refl _)) q.size
          clear hq0 HQ7
          generalize ownerOf b4 ms = ow at HCM HOW
          cases hq : (ow == b0)
          · skip
            rw [hq] at HCM
            go_region_held3 (fun w' => w'.cell? ⟨bs, 0, none⟩ = some (iv a0) ∧ w'.cell? ⟨bs, 1, none⟩ = some (iv a1) ∧ w'.cell? ⟨w6.heap.size, 0, none⟩ = some (iv b0) ∧ w'.cell? ⟨w6.heap.size, 1, none⟩ = some (iv b1) ∧ w'.cell? ⟨w6.heap.size, 2, none⟩ = some (iv b2) ∧ w'.cell? ⟨w6.heap.size, 3, none⟩ = some (iv b3) ∧ w'.cell? ⟨w6.heap.size, 4, none⟩ = some (iv b4) ∧ w'.cell? ⟨w6.heap.size, 5, none⟩ = some (iv m)) (first | with_reducible exact HS.out _ hr.drew | with_reducible exact HS.out _ HZ1.out | with_reducible exact HS.out _ HZc.out | with_reducible exact HS.out _ HZo.out | with_reducible exact HS.out _ HZ2.out | go_keep)
              (first | (go_at_call 87; refine (HCV.out _ (HY7.out.trans (hr.drew.mono HY7.out.size))).mono ?_; rintro e w8 ⟨rfl, hb8⟩; have HZ1 := hid (below_step hr.drew hb8); clear hb8) | (go_at_call 84; (first | (refine (HCM.out _ HZo.out).mono ?_; rintro e wc ⟨rfl, hbc⟩; have HZ2 := hid (below_step HZo.out hbc); clear hbc) | (refine (HCM.out _ HZ1.out).mono ?_; rintro e wc ⟨rfl, hbc⟩; have HZc := hid (below_step HZ1.out hbc); clear hbc))) | (go_at_call 46; (first | (refine (HOW.out _ HZc.out).mono ?_; rintro e wo ⟨rfl, hbo⟩; have HZ2 := hid (below_step HZc.out hbo); clear hbo) | (refine (HOW.out _ HZ1.out).mono ?_; rintro e wo ⟨rfl, hbo⟩; have HZo := hid (below_step HZ1.out hbo); clear hbo))))
            all_goals
              have HE := hid (below_step HT4.out (HY7.out.trans (HZ2.out.mono HY7.out.size)))
              go_wp2
              go_ret
              exact ⟨rfl, HE.out⟩
          · skip
            rw [hq] at HCM
            go_region_held3 (fun w' => w'.cell? ⟨bs, 0, none⟩ = some (iv a0) ∧ w'.cell? ⟨bs, 1, none⟩ = some (iv a1) ∧ w'.cell? ⟨w6.heap.size, 0, none⟩ = some (iv b0) ∧ w'.cell? ⟨w6.heap.size, 1, none⟩ = some (iv b1) ∧ w'.cell? ⟨w6.heap.size, 2, none⟩ = some (iv b2) ∧ w'.cell? ⟨w6.heap.size, 3, none⟩ = some (iv b3) ∧ w'.cell? ⟨w6.heap.size, 4, none⟩ = some (iv b4) ∧ w'.cell? ⟨w6.heap.size, 5, none⟩ = some (iv m)) (first | with_reducible exact HS.out _ hr.drew | with_reducible exact HS.out _ HZ1.out | with_reducible exact HS.out _ HZc.out | with_reducible exact HS.out _ HZo.out | with_reducible exact HS.out _ HZ2.out | go_keep)
              (first | (go_at_call 87; refine (HCV.out _ (HY7.out.trans (hr.drew.mono HY7.out.size))).mono ?_; rintro e w8 ⟨rfl, hb8⟩; have HZ1 := hid (below_step hr.drew hb8); clear hb8) | (go_at_call 84; (first | (refine (HCM.out _ HZo.out).mono ?_; rintro e wc ⟨rfl, hbc⟩; have HZ2 := hid (below_step HZo.out hbc); clear hbc) | (refine (HCM.out _ HZ1.out).mono ?_; rintro e wc ⟨rfl, hbc⟩; have HZc := hid (below_step HZ1.out hbc); clear hbc))) | (go_at_call 46; (first | (refine (HOW.out _ HZc.out).mono ?_; rintro e wo ⟨rfl, hbo⟩; have HZ2 := hid (below_step HZc.out hbo); clear hbo) | (refine (HOW.out _ HZ1.out).mono ?_; rintro e wo ⟨rfl, hbo⟩; have HZo := hid (below_step HZ1.out hbo); clear hbo))))
            all_goals
              have HE := hid (below_step HT4.out (HY7.out.trans (HZ2.out.mono HY7.out.size)))
              go_wp2
              go_ret
              exact ⟨rfl, HE.out⟩
      have hin := HIN.out z hz1 hlt
      have HI2 := hid hin
      clear hin
      go_wp2
      go_loopw [11, 12] (fun b i wr => ∃ (c : Bool) (j : Nat), j ≤ ls.length ∧ b = .bool c ∧ i = .int .i64 j ∧ (c = false → ∀ k, k < j → satB ks ls o p z k = false) ∧ Below w4.heap.size w4 wr) (fun _ i _ => ls.length - (intOf i).toNat)
      case atStart => exact ⟨false, 0, Nat.zero_le _, rfl, rfl, fun _ k hk => absurd hk (by omega), HXR.out⟩
      case round =>
        obtain ⟨c, j, hj, rfl, rfl, hall, hb⟩ := hrel
        have HXQ := hid hb
        have HALL := hid hall
        clear hb hall
        by_cases hjl : j < ls.length
        rotate_left
        · cases c
          · exfalso
            obtain ⟨k, hk, hs⟩ := HI2.out
            rw [HALL.out rfl k (by omega)] at hs
            cases hs
          · go_wp2
            go_roundw
            case rel => exact ⟨z + 1, by omega, by omega, by go_num, HXQ.out⟩
            case measure => simp [intOf]; omega
        cases c
        rotate_left
        · go_wp2
          go_roundw
          case rel => exact ⟨true, j + 1, by omega, rfl, by go_num, fun h => (by cases h), HXQ.out⟩
          case measure => simp [intOf]; omega
        have HALF := hid (HALL.out rfl)
        clear HALL
        obtain ⟨A, c, hv6, -, -, -, hcell⟩ := id HL4.out
        simp only [Value.slice.injEq] at hv6
        obtain ⟨rfl, -, rfl⟩ := hv6
        obtain ⟨b, off, rfl, hbB, hcc⟩ := hcell (by omega)
        have hi0 : (0 : Int) ≤ (j : Int) := Int.natCast_nonneg _
        have hi1 : (j : Int) < (ls.length : Int) := by omega
        have c0 := cell_at HXQ.out hbB hz4 (hcc j 0 hjl (by omega))
        have c1 := cell_at HXQ.out hbB hz4 (hcc j 1 hjl (by omega))
        have c2 := cell_at HXQ.out hbB hz4 (hcc j 2 hjl (by omega))
        have c3 := cell_at HXQ.out hbB hz4 (hcc j 3 hjl (by omega))
        have c4 := cell_at HXQ.out hbB hz4 (hcc j 4 hjl (by omega))
        have c5 := cell_at HXQ.out hbB hz4 (hcc j 5 hjl (by omega))
        rw [Nat.add_zero] at c0
        have HH := hid (HCM.out wr (fld ls j 0) (fld ls j 1) (fld ls j 2) (fld ls j 3) (fld ls j 4) (fld ls j 5) HXQ.out)
        obtain ⟨cb, hcb⟩ : ∃ cb, cb = checkMandateB ks (fld ls j 0) (fld ls j 1) (fld ls j 2) (fld ls j 3) (fld ls j 4) (fld ls j 5) := ⟨_, rfl⟩
        rw [← hcb] at HH
        have HCB := hid hcb
        clear hcb x0 x1
        cases cb
        · skip
          go_wp2_with fail
          refine HH.out.mono ?_
          rintro e w8 ⟨rfl, hb8⟩
          have HX8 := hid (below_step HXQ.out hb8)
          clear hb8 c0 c1 c2 c3 c4 c5 HH
          clear hcc
          go_wp2
          go_roundw
          case rel => exact ⟨false, j + 1, by omega, rfl, by go_num, fun _ k hk => (Nat.lt_succ_iff_lt_or_eq.1 hk).elim (fun h => HALF.out k h) (fun h => by subst h; have := HCB.out; simp [satB, ← this]), HX8.out⟩
          case measure => simp [intOf]; omega
        · skip
          go_wp2_with fail
          refine HH.out.mono ?_
          rintro e w8 ⟨rfl, hb8⟩
          have HX8 := hid (below_step HXQ.out hb8)
          clear hb8 c0 c1 c2 c3 c4 c5 HH
          have c0 := cell_at HX8.out hbB hz4 (hcc j 0 hjl (by omega))
          have c1 := cell_at HX8.out hbB hz4 (hcc j 1 hjl (by omega))
          have c2 := cell_at HX8.out hbB hz4 (hcc j 2 hjl (by omega))
          have c3 := cell_at HX8.out hbB hz4 (hcc j 3 hjl (by omega))
          rw [Nat.add_zero] at c0
          clear hcc
          cases h0 : (fld ls j 0 == o)
          · skip
            go_wp2
            go_roundw
            case rel => exact ⟨false, j + 1, by omega, rfl, by go_num, fun _ k hk => (Nat.lt_succ_iff_lt_or_eq.1 hk).elim (fun h => HALF.out k h) (fun h => by subst h; have := HCB.out; simp [satB, ← this, h0]), HX8.out⟩
            case measure => simp [intOf]; omega
          · skip
            cases h1 : (fld ls j 1 == p)
            · skip
              go_wp2
              go_roundw
              case rel => exact ⟨false, j + 1, by omega, rfl, by go_num, fun _ k hk => (Nat.lt_succ_iff_lt_or_eq.1 hk).elim (fun h => HALF.out k h) (fun h => by subst h; have := HCB.out; simp [satB, ← this, h1]), HX8.out⟩
              case measure => simp [intOf]; omega
            · skip
              cases h2 : decide (fld ls j 2 ≤ z)
              · skip
                go_wp2
                go_roundw
                case rel => exact ⟨false, j + 1, by omega, rfl, by go_num, fun _ k hk => (Nat.lt_succ_iff_lt_or_eq.1 hk).elim (fun h => HALF.out k h) (fun h => by subst h; have := HCB.out; simp [satB, ← this, h2]), HX8.out⟩
                case measure => simp [intOf]; omega
              · skip
                cases h3 : decide (z ≤ fld ls j 3)
                · skip
                  go_wp2
                  go_roundw
                  case rel => exact ⟨false, j + 1, by omega, rfl, by go_num, fun _ k hk => (Nat.lt_succ_iff_lt_or_eq.1 hk).elim (fun h => HALF.out k h) (fun h => by subst h; have := HCB.out; simp [satB, ← this, h3]), HX8.out⟩
                  case measure => simp [intOf]; omega
                · skip
                  go_wp2
                  go_roundw
                  case rel => exact ⟨true, j + 1, by omega, rfl, by go_num, fun h => (by cases h), HX8.out⟩
                  case measure => simp [intOf]; omega

set_option maxRecDepth 100000 in
theorem lawMandates_lifted (os : Os) (started : os.Started) (H : Type) (enc : TypeId × Value → H) :
    ReturnsInHanded {} Try.checked os 12 .any (Rows.fnMandatesSpec.pre6 enc Try.prog Try.f12 Rows.fnMandatesRow.domain false) (Rows.fnMandatesSpec.post enc Try.prog Try.f12 false true false false) := by
  refine returnsInHanded_of_change (C := Try.checked) Try.own started (by kernel_rfl) Try.func12
    (ChangeSpec.witness6 (enc := enc) (C := Try.checked) false ⟨#[], #[.slice none 0 0], []⟩ 8 (by kernel_rfl) (by kernel_rfl) (by kernel_rfl) (by kernel_rfl)) ?_
  intro W base args ds gs before hval0 hW hcnd _
  have hval : ∀ (j : Nat) t v, Try.f12.params[j]? = some t → args[j]? = some v → Value.okWide Try.prog W .any base t v := hval0
  have hW' := hW
  obtain ⟨p, q, hA0, hV, rfl, hfz, hnd⟩ := hW
  have hA : DataW.TrodAll enc Try.prog W 0 (fun _ => true) true Try.f12.params.toList args.toList ds p := hA0
  rw [Try.params12] at hA hval
  obtain ⟨v0, d0, rfl, rfl, h0⟩ := trodAll_one hA
  obtain ⟨rfl, rfl⟩ := trodVars_none hV
  obtain ⟨n, hB0⟩ := open_bytes Try.underlying41 Try.underlying5 (by kernel_rfl) (hval 0 41 v0 rfl rfl) h0
  refine (lawMandates_any W hB0).mono fun e W' ⟨he, hb⟩ => ?_
  subst he
  exact ⟨_, rfl, post_true hW' rfl Try.laidOut (by kernel_rfl) rfl Try.underlying4 rfl hb⟩

theorem lawMandates_holds : Rows.FnMandatesSaid :=
  OpenClaim.holds_of_wide 12 Try.f12 rfl rfl rfl rfl rfl rfl rfl ⟨rfl, rfl, rfl, rfl, rfl⟩ rfl rfl rfl rfl rfl (by kernel_rfl) Try.func12 (by kernel_rfl)
    (of_decide_eq_true (by kernel_rfl)) (by unfold Func.isWrapper; first | (rw [if_pos (by decide +kernel)]; kernel_rfl) | (rw [if_neg (by decide +kernel)]; exact ⟨rfl, rfl⟩))
    (fun os started H enc _ => lawMandates_lifted os started H enc)end Go.Proofs.Ytkdpfbodmfjkkaa
