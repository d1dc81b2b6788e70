/- The law FnCertificates is true of every input. No condition. -/
import Derived.Test.YtkdpfbodmfjkkaaRows
import Derived.Test.YtkdpfbodmfjkkaaBase
import Derived.Test.YtkdpfbodmfjkkaaOpen
import Derived.Test.YtkdpfbodmfjkkaaPlain
import Derived.Test.YtkdpfbodmfjkkaaHashNe
import Derived.Test.YtkdpfbodmfjkkaaAppend
import Derived.Test.YtkdpfbodmfjkkaaApart
import Derived.Test.YtkdpfbodmfjkkaaBlk
import Derived.Test.YtkdpfbodmfjkkaaMark
import Derived.Test.YtkdpfbodmfjkkaaFindKey
import Derived.Test.YtkdpfbodmfjkkaaFindCert
import Derived.Test.YtkdpfbodmfjkkaaChkCert
import Derived.Test.YtkdpfbodmfjkkaaMakeCert
import Derived.Test.YtkdpfbodmfjkkaaCheckCert
import Derived.Test.YtkdpfbodmfjkkaaDrawCert
import Derived.Test.YtkdpfbodmfjkkaaBig
import Derived.Test.YtkdpfbodmfjkkaaBox
import Derived.Deep.DeepCutAuto
namespace Go.Proofs.Ytkdpfbodmfjkkaa
open Go.ChangeShapes Go.WideShapes Go.ChangeAt Go.RowKit Go.Deep

theorem cert_to {ks : List (List Int)} {a0 a1 a2 a3 a4 a5 m : Int} {k : Nat} (hf : findI 0 a5 ks = (k : Int)) (hm : m = markW (fld ks k 2) (fld ks k 4) [101, a0, a1, a2, a3, a4, a5]) : checkCertB ks a0 a1 a2 a3 (a4 + 1) a5 m = false := by
  have h : (markW (fld ks k 2) (fld ks k 4) [101, a0, a1, a2, a3, a4 + 1, a5] == m) = false := by
    rw [beq_eq_false_iff_ne, hm]
    exact mark_ne (a := [101, a0, a1, a2, a3]) (b := [a5]) (modP_up' a4)
  rw [checkMarkB_some hf] at h
  rw [← checkCertB_mid h]
theorem cert_serial {ks : List (List Int)} {a0 a1 a2 a3 a4 a5 m : Int} {k : Nat} (hf : findI 0 a5 ks = (k : Int)) (hm : m = markW (fld ks k 2) (fld ks k 4) [101, a0, a1, a2, a3, a4, a5]) : checkCertB ks (a0 + 1) a1 a2 a3 a4 a5 m = false := by
  have h : (markW (fld ks k 2) (fld ks k 4) [101, a0 + 1, a1, a2, a3, a4, a5] == m) = false := by
    rw [beq_eq_false_iff_ne, hm]
    exact mark_ne (a := [101]) (b := [a1, a2, a3, a4, a5]) (modP_up' a0)
  rw [checkMarkB_some hf] at h
  rw [← checkCertB_mid h]
theorem cert_made {ks : List (List Int)} {a0 a1 a2 a3 a4 a5 m : Int} {k : Nat} (hx : certB a0 a1 a2 a3 a4 a5 m = true) (hf : findI 0 a5 ks = (k : Int)) (hm : m = markW (fld ks k 2) (fld ks k 4) [101, a0, a1, a2, a3, a4, a5]) : checkCertB ks a0 a1 a2 a3 a4 a5 m = (ownerOf a1 ks == a2) := by
  have h : (markW (fld ks k 2) (fld ks k 4) [101, a0, a1, a2, a3, a4, a5] == m) = true := by rw [beq_iff_eq, hm]
  rw [checkMarkB_some hf] at h
  rw [← checkCertB_yes hx h, beqc]
set_option maxRecDepth 90000 in
set_option maxHeartbeats 40000000 in
theorem lawCertificates_any {n : Nat} {v : Value} (w : World) (hv : Bytes w.heap.size w v n) :
    Calls Try.prog 6 #[v] w (Ret (.bool true) w) := by
  have HV := hid hv
  obtain ⟨A, c, rfl, hc1, hc2, -⟩ := hv
  by_cases hn : n ≤ 1048576
  rotate_left
  · go_enter Try.func6, Try.ntmps6
    go_wp2_with fail
    refine (big_yes _ hn (by omega)).mono ?_
    rintro e w1 ⟨rfl, rfl⟩
    go_wp2
    go_ret
    exact ⟨rfl, Below.refl _ _⟩
  go_enter Try.func6, Try.ntmps6
  go_wp2_with fail
  refine (big_no _ hn).mono ?_
  rintro e w1 ⟨rfl, rfl⟩
  go_wp2_with fail
  refine (DrawIssueCert_any _ HV.out hn).mono ?_
  rintro e w1 ⟨u, ks, a0, a1, a2, a3, a4, a5, a6, rfl, h2, hl, hu, hb1⟩
  have HB1 := hid (below_step hb1 (below_alloc w1 (.cells #[iv a0, iv a1, iv a2, iv a3, iv a4, iv a5, iv a6] 74)))
  have HS1 := hid ((hu.sl h2).step (below_alloc w1 (.cells #[iv a0, iv a1, iv a2, iv a3, iv a4, iv a5, iv a6] 74)))
  have HX1 := hid (Blk.new w1 #[iv a0, iv a1, iv a2, iv a3, iv a4, iv a5, iv a6] 74)
  have hl9 : ks.length ≤ 10 := by omega
  clear hb1 hu h2 hl
  obtain ⟨A1, c1, rfl, hd1, hd2, -⟩ := id HS1.out
  by_cases hno : certB a0 a1 a2 a3 a4 a5 a6 = false ∨ findI 0 a5 ks = -1 ∨ findI 0 a1 ks = -1
  · skip
    have HI : Hid (∀ W : World, Below (w1.alloc (.cells #[iv a0, iv a1, iv a2, iv a3, iv a4, iv a5, iv a6] 74)).heap.size (w1.alloc (.cells #[iv a0, iv a1, iv a2, iv a3, iv a4, iv a5, iv a6] 74)) W → Calls Try.prog 48 #[.slice A1 ks.length c1, .agg #[iv a0, iv a1, iv a2, iv a3, iv a4, iv a5, iv a6]] W (Ret (.tuple #[.agg #[iv 0, iv 0, iv 0, iv 0, iv 0, iv 0, iv 0], .bool false]) W)) := hid fun W q => implIssueCert_any_no a0 a1 a2 a3 a4 a5 a6 W (HS1.out.below q (Nat.le_refl _)) q.size hno
    have HP : Hid (∀ W : World, Below (w1.alloc (.cells #[iv a0, iv a1, iv a2, iv a3, iv a4, iv a5, iv a6] 74)).heap.size (w1.alloc (.cells #[iv a0, iv a1, iv a2, iv a3, iv a4, iv a5, iv a6] 74)) W → Calls Try.prog 49 #[.slice A1 ks.length c1, .agg #[iv a0, iv a1, iv a2, iv a3, iv a4, iv a5, iv a6]] W (Ret (.tuple #[.agg #[iv 0, iv 0, iv 0, iv 0, iv 0, iv 0, iv 0], .bool false]) W)) := hid fun W q => specIssueCert_any_no a0 a1 a2 a3 a4 a5 a6 W (HS1.out.below q (Nat.le_refl _)) q.size hno
    clear hno
    go_wp2_with fail
    generalize w1.alloc (.cells #[iv a0, iv a1, iv a2, iv a3, iv a4, iv a5, iv a6] 74) = W1 at HB1 HS1 HX1 HI HP ⊢
    refine (HI.out W1 (Below.refl _ _)).mono ?_
    rintro e w2 ⟨rfl, hb2⟩
    have HX2 := hid (HX1.out.below hb2)
    have x0 := HX2.out.cell 0 rfl
    have x1 := HX2.out.cell 1 rfl
    have x2 := HX2.out.cell 2 rfl
    have x3 := HX2.out.cell 3 rfl
    have x4 := HX2.out.cell 4 rfl
    have x5 := HX2.out.cell 5 rfl
    have x6 := HX2.out.cell 6 rfl
    have hx2 := HX2.out.lt
    have HB2 := hid ((Below.refl W1.heap.size W1).trans (hb2.alloc hb2.size (.cells #[iv 0, iv 0, iv 0, iv 0, iv 0, iv 0, iv 0] 74)))
    have HY2 := hid (Blk.new w2 #[iv 0, iv 0, iv 0, iv 0, iv 0, iv 0, iv 0] 74)
    clear hb2
    go_wp2_with fail
    generalize w2.alloc (.cells #[iv 0, iv 0, iv 0, iv 0, iv 0, iv 0, iv 0] 74) = W2 at HB2 HY2 ⊢
    refine (HP.out W2 HB2.out).mono ?_
    rintro e w3 ⟨rfl, hb3⟩
    have HY3 := hid (HY2.out.below hb3)
    have HB3 := hid (below_step HB2.out hb3)
    clear hb3 HX2 HX1 HY2 HI HP x0 x1 x2 x3 x4 x5 x6 hx2
    have y0 := HY3.out.cell 0 rfl
    have y1 := HY3.out.cell 1 rfl
    have y2 := HY3.out.cell 2 rfl
    have y3 := HY3.out.cell 3 rfl
    have y4 := HY3.out.cell 4 rfl
    have y5 := HY3.out.cell 5 rfl
    have y6 := HY3.out.cell 6 rfl
    have hy3 := HY3.out.lt
    have HE := hid (below_step HB1.out (HB3.out.alloc HB3.out.size (.cells #[iv 0, iv 0, iv 0, iv 0, iv 0, iv 0, iv 0] 74)))
    go_wp2
    go_ret
    exact ⟨rfl, HE.out⟩
  · skip
    rcases findI_range 0 a5 ks with hf | ⟨k, hk, hf, -⟩
    · exact absurd (.inr (.inl hf)) hno
    rcases findI_range 0 a1 ks with hf2 | ⟨j, hj, hf2, -⟩
    · exact absurd (.inr (.inr hf2)) hno
    have hx : certB a0 a1 a2 a3 a4 a5 a6 = true := by cases hs : certB a0 a1 a2 a3 a4 a5 a6 with | false => exact absurd (.inl hs) hno | true => rfl
    clear hno
    obtain ⟨m, hm⟩ : ∃ m, m = markW (fld ks k 2) (fld ks k 4) [101, a0, a1, a2, a3, a4, a5] := ⟨_, rfl⟩
    have HI : Hid (∀ W : World, Below (w1.alloc (.cells #[iv a0, iv a1, iv a2, iv a3, iv a4, iv a5, iv a6] 74)).heap.size (w1.alloc (.cells #[iv a0, iv a1, iv a2, iv a3, iv a4, iv a5, iv a6] 74)) W → Calls Try.prog 48 #[.slice A1 ks.length c1, .agg #[iv a0, iv a1, iv a2, iv a3, iv a4, iv a5, iv a6]] W (Ret (.tuple #[.agg #[iv a0, iv a1, iv a2, iv a3, iv a4, iv a5, iv m], .bool true]) W)) := hid fun W q => by rw [hm]; exact implIssueCert_any_yes a0 a1 a2 a3 a4 a5 a6 W (HS1.out.below q (Nat.le_refl _)) q.size hx k hk hf j hf2
    have HP : Hid (∀ W : World, Below (w1.alloc (.cells #[iv a0, iv a1, iv a2, iv a3, iv a4, iv a5, iv a6] 74)).heap.size (w1.alloc (.cells #[iv a0, iv a1, iv a2, iv a3, iv a4, iv a5, iv a6] 74)) W → Calls Try.prog 49 #[.slice A1 ks.length c1, .agg #[iv a0, iv a1, iv a2, iv a3, iv a4, iv a5, iv a6]] W (Ret (.tuple #[.agg #[iv a0, iv a1, iv a2, iv a3, iv a4, iv a5, iv m], .bool true]) W)) := hid fun W q => by rw [hm]; exact specIssueCert_any_yes a0 a1 a2 a3 a4 a5 a6 W (HS1.out.below q (Nat.le_refl _)) q.size hx k hk hf j hf2
    have hq1 := cert_to hf hm
    have hq2 := cert_serial hf hm
    have hq0 := cert_made (show certB a0 a1 a2 a3 a4 a5 m = true from hx) hf hm
    obtain ⟨hr0, -, -, -, -, hr3, hr4, hr5⟩ := certB_iff.1 hx
    have hxm : certB a0 a1 a2 a3 a4 a5 m = true := hx
    clear hm hf hf2 hk hj hx
    go_wp2_with fail
    generalize w1.alloc (.cells #[iv a0, iv a1, iv a2, iv a3, iv a4, iv a5, iv a6] 74) = W1 at HB1 HS1 HX1 HI HP ⊢
    refine (HI.out W1 (Below.refl _ _)).mono ?_
    rintro e w2 ⟨rfl, hb2⟩
    have HX2 := hid (HX1.out.below hb2)
    have x0 := HX2.out.cell 0 rfl
    have x1 := HX2.out.cell 1 rfl
    have x2 := HX2.out.cell 2 rfl
    have x3 := HX2.out.cell 3 rfl
    have x4 := HX2.out.cell 4 rfl
    have x5 := HX2.out.cell 5 rfl
    have x6 := HX2.out.cell 6 rfl
    have hx2 := HX2.out.lt
    have HB2 := hid ((Below.refl W1.heap.size W1).trans (hb2.alloc hb2.size (.cells #[iv a0, iv a1, iv a2, iv a3, iv a4, iv a5, iv m] 74)))
    have HY2 := hid (Blk.new w2 #[iv a0, iv a1, iv a2, iv a3, iv a4, iv a5, iv m] 74)
    clear hb2
    go_wp2_with fail
    generalize w2.alloc (.cells #[iv a0, iv a1, iv a2, iv a3, iv a4, iv a5, iv m] 74) = W2 at HB2 HY2 ⊢
    refine (HP.out W2 HB2.out).mono ?_
    rintro e w3 ⟨rfl, hb3⟩
    have HY3 := hid (HY2.out.below hb3)
    have HB3 := hid (below_step HB2.out hb3)
    clear hb3 HX2 HX1 HY2 HI HP x0 x1 x2 x3 x4 x5 x6 hx2
    obtain ⟨hr1, hr2⟩ := hr0
    have HB4 := hid (HB3.out.alloc HB3.out.size (.cells #[iv a0, iv a1, iv a2, iv a3, iv a4, iv a5, iv m] 74))
    have HY4 := hid (HY3.out.alloc (.cells #[iv a0, iv a1, iv a2, iv a3, iv a4, iv a5, iv m] 74))
    have HS4 := hid (HS1.out.below HB4.out (Nat.le_refl _))
    have HT4 := hid (below_step HB1.out HB4.out)
    have y0 := HY3.out.cell 0 rfl
    have y1 := HY3.out.cell 1 rfl
    have y2 := HY3.out.cell 2 rfl
    have y3 := HY3.out.cell 3 rfl
    have y4 := HY3.out.cell 4 rfl
    have y5 := HY3.out.cell 5 rfl
    have y6 := HY3.out.cell 6 rfl
    have hy3 := HY3.out.lt
    go_wp2_with fail
    generalize w3.alloc (.cells #[iv a0, iv a1, iv a2, iv a3, iv a4, iv a5, iv m] 74) = W4 at HB4 HY4 HS4 HT4 ⊢
    clear y0 y1 y2 y3 y4 y5 y6 hy3 HY3 HB3
    obtain ⟨by1, hby⟩ : ∃ b, b = w2.heap.size := ⟨_, rfl⟩
    rw [← hby] at HY4 ⊢
    clear hby
    have hy4 := HY4.out.lt
    have hS4 : Sl W4.heap.size W4 5 (.slice A1 ks.length c1) ks := HS4.out.mono HB4.out.size
    have HOW : Hid (∀ W : World, Below W4.heap.size W4 W → Calls Try.prog 46 #[.slice A1 ks.length c1, iv a1] W (Ret (iv (ownerOf a1 ks)) W)) := hid fun W q => implOwnerOf_any _ W (hS4.below q (Nat.le_refl _)) q.size
    have HCC : Hid (∀ W : World, Below W4.heap.size W4 W → Calls Try.prog 50 #[.slice A1 ks.length c1, .agg #[iv a0, iv a1, iv a2, iv a3, iv a4, iv a5, iv m]] W (Ret (.bool (ownerOf a1 ks == a2)) W)) := hid fun W q => by rw [← hq0]; exact implCheckCert_any _ _ _ _ _ _ _ W (hS4.below q (Nat.le_refl _)) q.size
    have HCZ : Hid (∀ W : World, Below W4.heap.size W4 W → Calls Try.prog 50 #[.slice A1 ks.length c1, .agg #[iv a0, iv a1, iv a2, iv a3, iv (a4 + 1), iv a5, iv m]] W (Ret (.bool false) W)) := hid fun W q => by rw [← hq1]; exact implCheckCert_any _ _ _ _ _ _ _ W (hS4.below q (Nat.le_refl _)) q.size
    have HCW : Hid (∀ W : World, Below W4.heap.size W4 W → Calls Try.prog 50 #[.slice A1 ks.length c1, .agg #[iv (a0 + 1), iv a1, iv a2, iv a3, iv a4, iv a5, iv m]] W (Ret (.bool false) W)) := hid fun W q => by rw [← hq2]; exact implCheckCert_any _ _ _ _ _ _ _ W (hS4.below q (Nat.le_refl _)) q.size
    have HIS : Hid (∀ W : World, Calls Try.prog 51 #[.agg #[iv a0, iv a1, iv a2, iv a3, iv a4, iv a5, iv m]] W (Ret (.bool true) W)) := hid fun W => by rw [← hxm]; exact implIsCert_any _ _ _ _ _ _ _ W
    have HS : Hid (∀ w' : World, Below W4.heap.size W4 w' → (w'.cell? ⟨by1, 0, none⟩ = some (iv a0) ∧ w'.cell? ⟨by1, 1, none⟩ = some (iv a1) ∧ w'.cell? ⟨by1, 2, none⟩ = some (iv a2) ∧ w'.cell? ⟨by1, 3, none⟩ = some (iv a3) ∧ w'.cell? ⟨by1, 4, none⟩ = some (iv a4) ∧ w'.cell? ⟨by1, 5, none⟩ = some (iv a5) ∧ w'.cell? ⟨by1, 6, none⟩ = some (iv m))) := hid fun w' q => ⟨(HY4.out.below q).cell 0 rfl, (HY4.out.below q).cell 1 rfl, (HY4.out.below q).cell 2 rfl, (HY4.out.below q).cell 3 rfl, (HY4.out.below q).cell 4 rfl, (HY4.out.below q).cell 5 rfl, (HY4.out.below q).cell 6 rfl⟩
    clear hq0 hq1 hq2 hxm hS4 HS4 HB4
    have hr := Below.refl W4.heap.size W4
    generalize ownerOf a1 ks = ow at HOW HCC
    have hfc : findI 0 a0 [[a0, a1, a2, a3, a4, a5, m]] = ((0 : Nat) : Int) := findI_hit (NF_zero _ _ _) (by simp) (by simp [fld])
    have HFC := hid hfc
    clear hfc
    have hfd : ∀ W : World, (Instr.field 47 (.agg #[iv a3, iv a4]) 0).run Try.prog W = .ok (iv a3) W := fun _ => by kernel_rfl
    cases hq : (ow == a2)
    · skip
      rw [hq] at HCC
      go_region_held3 (fun w' => w'.cell? ⟨by1, 0, none⟩ = some (iv a0) ∧ w'.cell? ⟨by1, 1, none⟩ = some (iv a1) ∧ w'.cell? ⟨by1, 2, none⟩ = some (iv a2) ∧ w'.cell? ⟨by1, 3, none⟩ = some (iv a3) ∧ w'.cell? ⟨by1, 4, none⟩ = some (iv a4) ∧ w'.cell? ⟨by1, 5, none⟩ = some (iv a5) ∧ w'.cell? ⟨by1, 6, none⟩ = some (iv m)) (first | with_reducible exact HS.out _ hr.drew | with_reducible exact HS.out _ HZc.out | with_reducible exact HS.out _ HZo.out | with_reducible exact HS.out _ HZ2.out | with_reducible exact HS.out _ HZ3.out | with_reducible exact HS.out _ HZ4.out | go_keep)
        (first | (go_at_call 50; (first | (refine (HCC.out _ HZo.out).mono ?_; rintro e wc ⟨rfl, hbc⟩; have HZ2 := hid (below_step HZo.out hbc); clear hbc) | (refine (HCC.out _ hr.drew).mono ?_; rintro e wc ⟨rfl, hbc⟩; have HZc := hid (below_step hr.drew hbc); clear hbc))) | (go_at_call 46; (first | (refine (HOW.out _ HZc.out).mono ?_; rintro e wo ⟨rfl, hbo⟩; have HZ2 := hid (below_step HZc.out hbo); clear hbo) | (refine (HOW.out _ hr.drew).mono ?_; rintro e wo ⟨rfl, hbo⟩; have HZo := hid (below_step hr.drew hbo); clear hbo))) | (go_at_call 51; refine (HIS.out _).mono ?_; rintro e wi ⟨rfl, hbi⟩; have HZ3 := hid (below_step HZ2.out hbi); clear hbi) | (go_at_call 52; refine (implCertSpan_any _ _ _ _ _ _ _ _).mono ?_; rintro e ws ⟨rfl, hbs⟩; have HZ4 := hid (below_step HZ3.out hbs); clear hbs))
      all_goals
        obtain ⟨y0, y1, y2, y3, y4, y5, y6⟩ := HS.out _ HZ4.out
        have hyz : by1 < ws.heap.size := Nat.lt_of_lt_of_le hy4 HZ4.out.size
        have hzz : W4.heap.size ≤ ws.heap.size := HZ4.out.size
        have HB8 := hid ((HZ4.out.alloc HZ4.out.size (.cells #[iv a0, iv a1, iv a2, iv a3, iv (a4 + 1), iv a5, iv m] 74)).alloc (by simp; omega) (.cells #[iv (a0 + 1), iv a1, iv a2, iv a3, iv a4, iv a5, iv m] 74))
        have HY8 := hid (((HY4.out.below HZ4.out).alloc (.cells #[iv a0, iv a1, iv a2, iv a3, iv (a4 + 1), iv a5, iv m] 74)).alloc (.cells #[iv (a0 + 1), iv a1, iv a2, iv a3, iv a4, iv a5, iv m] 74))
        have HT8 := hid (Blk.new (ws.alloc (.cells #[iv a0, iv a1, iv a2, iv a3, iv (a4 + 1), iv a5, iv m] 74)) #[iv (a0 + 1), iv a1, iv a2, iv a3, iv a4, iv a5, iv m] 74)
        rw [show (ws.alloc (.cells #[iv a0, iv a1, iv a2, iv a3, iv (a4 + 1), iv a5, iv m] 74)).heap.size = ws.heap.size + 1 by simp] at HT8
        go_wp2_with fail
        generalize (ws.alloc (.cells #[iv a0, iv a1, iv a2, iv a3, iv (a4 + 1), iv a5, iv m] 74)).alloc (.cells #[iv (a0 + 1), iv a1, iv a2, iv a3, iv a4, iv a5, iv m] 74) = W8 at HB8 HY8 HT8 ⊢
        clear y0 y1 y2 y3 y4 y5 y6 hyz hzz
        refine (HCZ.out _ HB8.out).mono ?_
        rintro e w9 ⟨rfl, hb9⟩
        have HB9 := hid (below_step HB8.out hb9)
        have HY9 := hid (HY8.out.below hb9)
        have HT9 := hid (HT8.out.below hb9)
        have y0 := HT9.out.cell 0 rfl
        have y1 := HT9.out.cell 1 rfl
        have y2 := HT9.out.cell 2 rfl
        have y3 := HT9.out.cell 3 rfl
        have y4 := HT9.out.cell 4 rfl
        have y5 := HT9.out.cell 5 rfl
        have y6 := HT9.out.cell 6 rfl
        clear hb9
        go_wp2_with fail
        refine (HCW.out _ HB9.out).mono ?_
        rintro e w10 ⟨rfl, hb10⟩
        have HB10 := hid (below_step HB9.out hb10)
        have HY10 := hid (HY9.out.below hb10)
        clear y0 y1 y2 y3 y4 y5 y6 hb10
        have y0 := HY10.out.cell 0 rfl
        have y1 := HY10.out.cell 1 rfl
        have y2 := HY10.out.cell 2 rfl
        have y3 := HY10.out.cell 3 rfl
        have y4 := HY10.out.cell 4 rfl
        have y5 := HY10.out.cell 5 rfl
        have y6 := HY10.out.cell 6 rfl
        have hy10 := HY10.out.lt
        have HL := hid ((Own.of (World.ownsRow_lit (base := w10.heap.size) (e := 74) (size := 7) w10 #[iv a0, iv a1, iv a2, iv a3, iv a4, iv a5, iv m] 1 (Nat.le_refl _) (by decide) rfl)).sl (ks := [[a0, a1, a2, a3, a4, a5, m]]) (by simp))
        have HFF : Hid (Calls Try.prog 53 #[.slice (some ⟨w10.heap.size, 0, none⟩) 1 1, iv a0] (w10.alloc (.cells #[iv a0, iv a1, iv a2, iv a3, iv a4, iv a5, iv m] 74)) (Ret (iv 0) (w10.alloc (.cells #[iv a0, iv a1, iv a2, iv a3, iv a4, iv a5, iv m] 74)))) := hid (ret_cast (by rw [HFC.out]; rfl) (implFindCert_any _ _ HL.out (Nat.le_refl _)))
        go_wp2_with fail
        refine HFF.out.mono ?_
        rintro e w11 ⟨rfl, hb11⟩
        have HB11 := hid ((HB10.out.alloc HB10.out.size (.cells #[iv a0, iv a1, iv a2, iv a3, iv a4, iv a5, iv m] 74)).trans (hb11.mono (Nat.le_trans HB10.out.size (by simp))))
        clear hb11
        go_wp2
        go_ret
        exact ⟨rfl, below_step HT4.out HB11.out⟩
    · skip
      rw [hq] at HCC
      go_region_held3 (fun w' => w'.cell? ⟨by1, 0, none⟩ = some (iv a0) ∧ w'.cell? ⟨by1, 1, none⟩ = some (iv a1) ∧ w'.cell? ⟨by1, 2, none⟩ = some (iv a2) ∧ w'.cell? ⟨by1, 3, none⟩ = some (iv a3) ∧ w'.cell? ⟨by1, 4, none⟩ = some (iv a4) ∧ w'.cell? ⟨by1, 5, none⟩ = some (iv a5) ∧ w'.cell? ⟨by1, 6, none⟩ = some (iv m)) (first | with_reducible exact HS.out _ hr.drew | with_reducible exact HS.out _ HZc.out | with_reducible exact HS.out _ HZo.out | with_reducible exact HS.out _ HZ2.out | with_reducible exact HS.out _ HZ3.out | with_reducible exact HS.out _ HZ4.out | go_keep)
        (first | (go_at_call 50; (first | (refine (HCC.out _ HZo.out).mono ?_; rintro e wc ⟨rfl, hbc⟩; have HZ2 := hid (below_step HZo.out hbc); clear hbc) | (refine (HCC.out _ hr.drew).mono ?_; rintro e wc ⟨rfl, hbc⟩; have HZc := hid (below_step hr.drew hbc); clear hbc))) | (go_at_call 46; (first | (refine (HOW.out _ HZc.out).mono ?_; rintro e wo ⟨rfl, hbo⟩; have HZ2 := hid (below_step HZc.out hbo); clear hbo) | (refine (HOW.out _ hr.drew).mono ?_; rintro e wo ⟨rfl, hbo⟩; have HZo := hid (below_step hr.drew hbo); clear hbo))) | (go_at_call 51; refine (HIS.out _).mono ?_; rintro e wi ⟨rfl, hbi⟩; have HZ3 := hid (below_step HZ2.out hbi); clear hbi) | (go_at_call 52; refine (implCertSpan_any _ _ _ _ _ _ _ _).mono ?_; rintro e ws ⟨rfl, hbs⟩; have HZ4 := hid (below_step HZ3.out hbs); clear hbs))
      all_goals
        obtain ⟨y0, y1, y2, y3, y4, y5, y6⟩ := HS.out _ HZ4.out
        have hyz : by1 < ws.heap.size := Nat.lt_of_lt_of_le hy4 HZ4.out.size
        have hzz : W4.heap.size ≤ ws.heap.size := HZ4.out.size
        have HB8 := hid ((HZ4.out.alloc HZ4.out.size (.cells #[iv a0, iv a1, iv a2, iv a3, iv (a4 + 1), iv a5, iv m] 74)).alloc (by simp; omega) (.cells #[iv (a0 + 1), iv a1, iv a2, iv a3, iv a4, iv a5, iv m] 74))
        have HY8 := hid (((HY4.out.below HZ4.out).alloc (.cells #[iv a0, iv a1, iv a2, iv a3, iv (a4 + 1), iv a5, iv m] 74)).alloc (.cells #[iv (a0 + 1), iv a1, iv a2, iv a3, iv a4, iv a5, iv m] 74))
        have HT8 := hid (Blk.new (ws.alloc (.cells #[iv a0, iv a1, iv a2, iv a3, iv (a4 + 1), iv a5, iv m] 74)) #[iv (a0 + 1), iv a1, iv a2, iv a3, iv a4, iv a5, iv m] 74)
        rw [show (ws.alloc (.cells #[iv a0, iv a1, iv a2, iv a3, iv (a4 + 1), iv a5, iv m] 74)).heap.size = ws.heap.size + 1 by simp] at HT8
        go_wp2_with fail
        generalize (ws.alloc (.cells #[iv a0, iv a1, iv a2, iv a3, iv (a4 + 1), iv a5, iv m] 74)).alloc (.cells #[iv (a0 + 1), iv a1, iv a2, iv a3, iv a4, iv a5, iv m] 74) = W8 at HB8 HY8 HT8 ⊢
        clear y0 y1 y2 y3 y4 y5 y6 hyz hzz
        refine (HCZ.out _ HB8.out).mono ?_
        rintro e w9 ⟨rfl, hb9⟩
        have HB9 := hid (below_step HB8.out hb9)
        have HY9 := hid (HY8.out.below hb9)
        have HT9 := hid (HT8.out.below hb9)
        have y0 := HT9.out.cell 0 rfl
        have y1 := HT9.out.cell 1 rfl
        have y2 := HT9.out.cell 2 rfl
        have y3 := HT9.out.cell 3 rfl
        have y4 := HT9.out.cell 4 rfl
        have y5 := HT9.out.cell 5 rfl
        have y6 := HT9.out.cell 6 rfl
        clear hb9
        go_wp2_with fail
        refine (HCW.out _ HB9.out).mono ?_
        rintro e w10 ⟨rfl, hb10⟩
        have HB10 := hid (below_step HB9.out hb10)
        have HY10 := hid (HY9.out.below hb10)
        clear y0 y1 y2 y3 y4 y5 y6 hb10
        have y0 := HY10.out.cell 0 rfl
        have y1 := HY10.out.cell 1 rfl
        have y2 := HY10.out.cell 2 rfl
        have y3 := HY10.out.cell 3 rfl
        have y4 := HY10.out.cell 4 rfl
        have y5 := HY10.out.cell 5 rfl
        have y6 := HY10.out.cell 6 rfl
        have hy10 := HY10.out.lt
        have HL := hid ((Own.of (World.ownsRow_lit (base := w10.heap.size) (e := 74) (size := 7) w10 #[iv a0, iv a1, iv a2, iv a3, iv a4, iv a5, iv m] 1 (Nat.le_refl _) (by decide) rfl)).sl (ks := [[a0, a1, a2, a3, a4, a5, m]]) (by simp))
        have HFF : Hid (Calls Try.prog 53 #[.slice (some ⟨w10.heap.size, 0, none⟩) 1 1, iv a0] (w10.alloc (.cells #[iv a0, iv a1, iv a2, iv a3, iv a4, iv a5, iv m] 74)) (Ret (iv 0) (w10.alloc (.cells #[iv a0, iv a1, iv a2, iv a3, iv a4, iv a5, iv m] 74)))) := hid (ret_cast (by rw [HFC.out]; rfl) (implFindCert_any _ _ HL.out (Nat.le_refl _)))
        go_wp2_with fail
        refine HFF.out.mono ?_
        rintro e w11 ⟨rfl, hb11⟩
        have HB11 := hid ((HB10.out.alloc HB10.out.size (.cells #[iv a0, iv a1, iv a2, iv a3, iv a4, iv a5, iv m] 74)).trans (hb11.mono (Nat.le_trans HB10.out.size (by simp))))
        clear hb11
        go_wp2
        go_ret
        exact ⟨rfl, below_step HT4.out HB11.out⟩

set_option maxRecDepth 100000 in
theorem lawCertificates_lifted (os : Os) (started : os.Started) (H : Type) (enc : TypeId × Value → H) :
    ReturnsInHanded {} Try.checked os 6 .any (Rows.fnCertificatesSpec.pre6 enc Try.prog Try.f6 Rows.fnCertificatesRow.domain false) (Rows.fnCertificatesSpec.post enc Try.prog Try.f6 false true false false) := by
  refine returnsInHanded_of_change (C := Try.checked) Try.own started (by kernel_rfl) Try.func6
    (ChangeSpec.witness6 (enc := enc) (C := Try.checked) false ⟨#[], #[.slice none 0 0], []⟩ 8 (by kernel_rfl) (by kernel_rfl) (by kernel_rfl) (by kernel_rfl)) ?_
  intro W base args ds gs before hval0 hW hcnd _
  have hval : ∀ (j : Nat) t v, Try.f6.params[j]? = some t → args[j]? = some v → Value.okWide Try.prog W .any base t v := hval0
  have hW' := hW
  obtain ⟨p, q, hA0, hV, rfl, hfz, hnd⟩ := hW
  have hA : DataW.TrodAll enc Try.prog W 0 (fun _ => true) true Try.f6.params.toList args.toList ds p := hA0
  rw [Try.params6] at hA hval
  obtain ⟨v0, d0, rfl, rfl, h0⟩ := trodAll_one hA
  obtain ⟨rfl, rfl⟩ := trodVars_none hV
  obtain ⟨n, hB0⟩ := open_bytes Try.underlying41 Try.underlying5 (by kernel_rfl) (hval 0 41 v0 rfl rfl) h0
  refine (lawCertificates_any W hB0).mono fun e W' ⟨he, hb⟩ => ?_
  subst he
  exact ⟨_, rfl, post_true hW' rfl Try.laidOut (by kernel_rfl) rfl Try.underlying4 rfl hb⟩

theorem lawCertificates_holds : Rows.FnCertificatesSaid :=
  OpenClaim.holds_of_wide 6 Try.f6 rfl rfl rfl rfl rfl rfl rfl ⟨rfl, rfl, rfl, rfl, rfl⟩ rfl rfl rfl rfl rfl (by kernel_rfl) Try.func6 (by kernel_rfl)
    (of_decide_eq_true (by kernel_rfl)) (by unfold Func.isWrapper; first | (rw [if_pos (by decide +kernel)]; kernel_rfl) | (rw [if_neg (by decide +kernel)]; exact ⟨rfl, rfl⟩))
    (fun os started H enc _ => lawCertificates_lifted os started H enc)end Go.Proofs.Ytkdpfbodmfjkkaa
