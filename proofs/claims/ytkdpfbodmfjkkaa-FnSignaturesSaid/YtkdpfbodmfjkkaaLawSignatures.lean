/- The law FnSignatures is true of every input. No condition. -/
import Derived.Test.YtkdpfbodmfjkkaaRows
import Derived.Test.YtkdpfbodmfjkkaaBase
import Derived.Test.YtkdpfbodmfjkkaaOpen
import Derived.Test.YtkdpfbodmfjkkaaPlain
import Derived.Test.YtkdpfbodmfjkkaaAppend
import Derived.Test.YtkdpfbodmfjkkaaApart
import Derived.Test.YtkdpfbodmfjkkaaBlk
import Derived.Test.YtkdpfbodmfjkkaaHashNe
import Derived.Test.YtkdpfbodmfjkkaaDoc
import Derived.Test.YtkdpfbodmfjkkaaSignDoc
import Derived.Test.YtkdpfbodmfjkkaaSigDigest
import Derived.Test.YtkdpfbodmfjkkaaStampsDigest
import Derived.Test.YtkdpfbodmfjkkaaCheckSignature
import Derived.Test.YtkdpfbodmfjkkaaPlainSigs
import Derived.Test.YtkdpfbodmfjkkaaDrawSigs
import Derived.Test.YtkdpfbodmfjkkaaBig
import Derived.Test.YtkdpfbodmfjkkaaBox
import Derived.Deep.DeepCutAuto
namespace Go.Proofs.Ytkdpfbodmfjkkaa
open Go.ChangeShapes Go.WideShapes Go.ChangeAt Go.RowKit Go.Deep

set_option maxRecDepth 90000 in
set_option maxHeartbeats 40000000 in
theorem lawSignatures_any {n : Nat} {v : Value} (w : World) (hv : Bytes w.heap.size w v n) :
    Calls Try.prog 10 #[v] w (Ret (.bool true) w) := by
  have HV := hid hv
  obtain ⟨A0, c0, rfl, hc1, hc2, -⟩ := hv
  by_cases hn : n ≤ 1048576
  rotate_left
  · go_enter Try.func10, Try.ntmps10
    go_wp2_with fail
    refine (big_yes _ hn (by omega)).mono ?_
    rintro e w1 ⟨rfl, rfl⟩
    go_wp2
    go_ret
    exact ⟨rfl, Below.refl _ _⟩
  go_enter Try.func10, Try.ntmps10
  go_wp2_with fail
  refine (big_no _ hn).mono ?_
  rintro e w1 ⟨rfl, rfl⟩
  go_wp2_with fail
  refine (DrawSignDocument_any _ HV.out hn).mono ?_
  rintro e w1 ⟨u, ks, k, s, m, t, cm, ps, zs, P, S, rfl, h2, hl, hu, hp, hs, hb1⟩
  obtain ⟨GU, qu, rfl⟩ := ownsRow_form hu.1
  obtain ⟨GP, qp, rfl⟩ := ownsRow_form hp.1
  obtain ⟨GS, qs, rfl⟩ := ownsRow_form hs.1
  have HB1 := hid (below_step hb1 (below_alloc w1 (.cells #[iv t, .slice GP ps.length qp, .slice GS zs.length qs] 113)))
  have HS1 := hid ((Own.sl hu h2).step (below_alloc w1 (.cells #[iv t, .slice GP ps.length qp, .slice GS zs.length qs] 113)))
  have HP1 := hid ((Own.ss hp).step (below_alloc w1 (.cells #[iv t, .slice GP ps.length qp, .slice GS zs.length qs] 113)))
  have HZ1 := hid ((Own.si hs).step (below_alloc w1 (.cells #[iv t, .slice GP ps.length qp, .slice GS zs.length qs] 113)))
  have HD1 := hid (Blk.new w1 #[iv t, .slice GP ps.length qp, .slice GS zs.length qs] 113)
  have hl9 : ks.length ≤ 10 := by omega
  clear hb1 hu hp hs h2 hl
  go_wp2_with fail
  generalize w1.alloc (.cells #[iv t, .slice GP ps.length qp, .slice GS zs.length qs] 113) = W1 at HB1 HS1 HP1 HZ1 HD1 ⊢
  by_cases hno : signatureB k s m (docI m t ps zs) cm 0 0 0 0 = false ∨ findI 0 k ks = -1
  · refine (implSignDocument_any k s m t cm 0 0 0 0 0 0 0 0 0 false W1 HS1.out HP1.out HZ1.out (Nat.le_refl _) (implSigns_no hno)).mono ?_
    rintro e w2 ⟨rfl, hb2⟩
    have HE := hid (below_step HB1.out (below_step hb2 (below_alloc w2 (.cells #[iv 0, iv 0, iv 0, iv 0, iv 0, iv 0, iv 0, iv 0, iv 0] 117))))
    clear hb2 HB1 HS1 HP1 HZ1 HD1 hno
    go_wp2_with fail
    generalize w2.alloc (.cells #[iv 0, iv 0, iv 0, iv 0, iv 0, iv 0, iv 0, iv 0, iv 0] 117) = W2 at HE ⊢
    have HVr := hid ((HV.out.below HE.out (Nat.le_refl _)).mono HE.out.size)
    refine (DrawStampsDigest_any _ HVr.out hn).mono ?_
    rintro e z1 ⟨y, ls, m9, rfl, h3, hl3, hy, hb1⟩
    obtain ⟨GY, qy, rfl⟩ := ownsRow_form hy.1
    have HSY := hid (Own.sl hy h3)
    have HBY := hid (below_step HE.out hb1)
    clear hb1 hy h3
    go_wp2_with fail
    refine (implStampsDigest_any m9 z1 HSY.out (Nat.le_refl _) (by omega)).mono ?_
    rintro e z2 ⟨rfl, hb2⟩
    have HBZ := hid (below_step HBY.out hb2)
    have hst := stamps_zero (m := m9) (ls := ls)
    generalize stampsI m9 ls = sv at hst ⊢
    clear hb2
    cases hzz : ((ls.length : Int) == 0)
    · rw [hzz] at hst
      go_wp2
      go_ret
      exact ⟨rfl, HBZ.out⟩
    · rw [hzz] at hst
      go_wp2
      go_ret
      exact ⟨rfl, HBZ.out⟩
  · rcases findI_range 0 k ks with hf | ⟨j, hj, hf, -⟩
    · exact absurd (.inr hf) hno
    obtain ⟨dg, hdg⟩ : ∃ d, d = docI m t ps zs := ⟨_, rfl⟩
    rw [← hdg] at hno
    have hx : signatureB k s m dg cm 0 0 0 0 = true := by cases h : signatureB k s m dg cm 0 0 0 0 with | false => exact absurd (.inl h) hno | true => rfl
    obtain ⟨mk, hm⟩ : ∃ q, q = markW (fld ks j 2) (fld ks j 4) [104, k, s, m, dg, cm, 0, 0, 0] := ⟨_, rfl⟩
    have HSG : Hid (implSigns ks k s m (docI m t ps zs) cm 0 0 0 0 k s m dg cm 0 0 0 mk true) := hid (by rw [← hdg, hm]; exact implSigns_yes hx hj hf)
    have hbd := signatureB_iff.1 hx
    have hcm : modP (nextC cm) ≠ modP cm := nextC_ne (by omega) (by omega)
    have hd0 : 0 ≤ dg := by omega
    have hd1 : dg ≤ 1000000000000 := by omega
    have hc0 : 1 ≤ cm := by omega
    have hc3 : cm ≤ 3 := by omega
    have HCX : Hid (∀ W : World, Below W1.heap.size W1 W → Calls Try.prog 73 #[.slice GU ks.length qu, .agg #[iv k, iv s, iv m, iv dg, iv cm, iv 0, iv 0, iv 0, iv mk]] W (Ret (.bool true) W)) := hid fun W q => by rw [← sig_yes (show signatureB k s m dg cm 0 0 0 mk = true from hx) hf hm]; exact implCheckSignature_any _ _ _ _ _ _ _ _ _ W (HS1.out.below q (Nat.le_refl _)) q.size
    have HCY : Hid (∀ W : World, Below W1.heap.size W1 W → Calls Try.prog 73 #[.slice GU ks.length qu, .agg #[iv k, iv s, iv m, iv dg, iv (cm % 3 + 1), iv 0, iv 0, iv 0, iv mk]] W (Ret (.bool false) W)) := hid fun W q => by rw [← sig_commit hcm hf hm]; exact implCheckSignature_any _ _ _ _ _ _ _ _ _ W (HS1.out.below q (Nat.le_refl _)) q.size
    have HCZ : Hid (∀ W : World, Below W1.heap.size W1 W → Calls Try.prog 73 #[.slice GU ks.length qu, .agg #[iv k, iv s, iv m, iv (dg + 1), iv cm, iv 0, iv 0, iv 0, iv mk]] W (Ret (.bool false) W)) := hid fun W q => by rw [← sig_digest hf hm]; exact implCheckSignature_any _ _ _ _ _ _ _ _ _ W (HS1.out.below q (Nat.le_refl _)) q.size
    have HDD : Hid (∀ W : World, Below W1.heap.size W1 W → Calls Try.prog 74 #[iv m, .agg #[iv t, .slice GP ps.length qp, .slice GS zs.length qs]] W (Ret (iv dg) W)) := hid fun W q => by rw [hdg]; exact implDocDigest_any m t W (HP1.out.below q (Nat.le_refl _)) (HZ1.out.below q (Nat.le_refl _)) q.size
    obtain ⟨g1, hg1⟩ : ∃ g, g = digestI 1 ([104, k, s, m, dg, cm, 0, 0, 0] ++ [mk]) := ⟨_, rfl⟩
    obtain ⟨g2, hg2⟩ : ∃ g, g = digestI 1 ([104, k, s, m, dg, nextC cm, 0, 0, 0] ++ [mk]) := ⟨_, rfl⟩
    have hgg : (g1 == g2) = false := by rw [beq_eq_false_iff_ne, hg1, hg2]; exact dig_ne hcm
    have HG1 : Hid (∀ W : World, Calls Try.prog 75 #[iv 1, .agg #[iv k, iv s, iv m, iv dg, iv cm, iv 0, iv 0, iv 0, iv mk]] W (Ret (iv g1) W)) := hid fun W => by rw [hg1]; exact implSignatureDigest_any 1 _ _ _ _ _ _ _ _ _ W
    have HG2 : Hid (∀ W : World, Calls Try.prog 75 #[iv 1, .agg #[iv k, iv s, iv m, iv dg, iv (cm % 3 + 1), iv 0, iv 0, iv 0, iv mk]] W (Ret (iv g2) W)) := hid fun W => by rw [hg2]; exact implSignatureDigest_any 1 _ _ _ _ _ _ _ _ _ W
    refine (implSignDocument_any k s m t cm k s m dg cm 0 0 0 mk true W1 HS1.out HP1.out HZ1.out (Nat.le_refl _) HSG.out).mono ?_
    rintro e w2 ⟨rfl, hb2⟩
    have hz2 := hb2.size
    have hb8 := ((hb2.alloc hb2.size (.cells #[iv k, iv s, iv m, iv dg, iv cm, iv 0, iv 0, iv 0, iv mk] 117)).alloc (by simp; omega) (.cells #[iv k, iv s, iv m, iv dg, iv (cm % 3 + 1), iv 0, iv 0, iv 0, iv mk] 117)).alloc (by simp; omega) (.cells #[iv k, iv s, iv m, iv (dg + 1), iv cm, iv 0, iv 0, iv 0, iv mk] 117)
    have HB8 := hid hb8
    have HD8 := hid (HD1.out.below hb8)
    have HX8 := hid (((Blk.new w2 #[iv k, iv s, iv m, iv dg, iv cm, iv 0, iv 0, iv 0, iv mk] 117).alloc (.cells #[iv k, iv s, iv m, iv dg, iv (cm % 3 + 1), iv 0, iv 0, iv 0, iv mk] 117)).alloc (.cells #[iv k, iv s, iv m, iv (dg + 1), iv cm, iv 0, iv 0, iv 0, iv mk] 117))
    have HY8 := hid ((Blk.new (w2.alloc (.cells #[iv k, iv s, iv m, iv dg, iv cm, iv 0, iv 0, iv 0, iv mk] 117)) #[iv k, iv s, iv m, iv dg, iv (cm % 3 + 1), iv 0, iv 0, iv 0, iv mk] 117).alloc (.cells #[iv k, iv s, iv m, iv (dg + 1), iv cm, iv 0, iv 0, iv 0, iv mk] 117))
    have HZ8 := hid (Blk.new ((w2.alloc (.cells #[iv k, iv s, iv m, iv dg, iv cm, iv 0, iv 0, iv 0, iv mk] 117)).alloc (.cells #[iv k, iv s, iv m, iv dg, iv (cm % 3 + 1), iv 0, iv 0, iv 0, iv mk] 117)) #[iv k, iv s, iv m, iv (dg + 1), iv cm, iv 0, iv 0, iv 0, iv mk] 117)
    rw [show (w2.alloc (.cells #[iv k, iv s, iv m, iv dg, iv cm, iv 0, iv 0, iv 0, iv mk] 117)).heap.size = w2.heap.size + 1 by simp] at HY8
    rw [show ((w2.alloc (.cells #[iv k, iv s, iv m, iv dg, iv cm, iv 0, iv 0, iv 0, iv mk] 117)).alloc (.cells #[iv k, iv s, iv m, iv dg, iv (cm % 3 + 1), iv 0, iv 0, iv 0, iv mk] 117)).heap.size = w2.heap.size + 2 by simp] at HZ8
    clear hb2 hb8 HSG HS1 HP1 HZ1 HD1 hno hf hm hdg hg1 hg2 hbd hcm hx hj
    go_wp2_with fail
    generalize ((w2.alloc (.cells #[iv k, iv s, iv m, iv dg, iv cm, iv 0, iv 0, iv 0, iv mk] 117)).alloc (.cells #[iv k, iv s, iv m, iv dg, iv (cm % 3 + 1), iv 0, iv 0, iv 0, iv mk] 117)).alloc (.cells #[iv k, iv s, iv m, iv (dg + 1), iv cm, iv 0, iv 0, iv 0, iv mk] 117) = W8 at HB8 HD8 HX8 HY8 HZ8 ⊢
    generalize cm % 3 + 1 = c4 at HY8 HCY HG2 ⊢
    generalize dg + 1 = d1 at HZ8 HCZ ⊢
    have HR : Hid (∀ w' : World, Below W8.heap.size W8 w' → (w'.cell? ⟨w2.heap.size, 0, none⟩ = some (iv k) ∧ w'.cell? ⟨w2.heap.size, 1, none⟩ = some (iv s) ∧ w'.cell? ⟨w2.heap.size, 2, none⟩ = some (iv m) ∧ w'.cell? ⟨w2.heap.size, 3, none⟩ = some (iv dg) ∧ w'.cell? ⟨w2.heap.size, 4, none⟩ = some (iv cm) ∧ w'.cell? ⟨w2.heap.size, 5, none⟩ = some (iv 0) ∧ w'.cell? ⟨w2.heap.size, 6, none⟩ = some (iv 0) ∧ w'.cell? ⟨w2.heap.size, 7, none⟩ = some (iv 0) ∧ w'.cell? ⟨w2.heap.size, 8, none⟩ = some (iv mk) ∧ w'.cell? ⟨w2.heap.size + 1, 0, none⟩ = some (iv k) ∧ w'.cell? ⟨w2.heap.size + 1, 1, none⟩ = some (iv s) ∧ w'.cell? ⟨w2.heap.size + 1, 2, none⟩ = some (iv m) ∧ w'.cell? ⟨w2.heap.size + 1, 3, none⟩ = some (iv dg) ∧ w'.cell? ⟨w2.heap.size + 1, 4, none⟩ = some (iv c4) ∧ w'.cell? ⟨w2.heap.size + 1, 5, none⟩ = some (iv 0) ∧ w'.cell? ⟨w2.heap.size + 1, 6, none⟩ = some (iv 0) ∧ w'.cell? ⟨w2.heap.size + 1, 7, none⟩ = some (iv 0) ∧ w'.cell? ⟨w2.heap.size + 1, 8, none⟩ = some (iv mk) ∧ w'.cell? ⟨w2.heap.size + 2, 0, none⟩ = some (iv k) ∧ w'.cell? ⟨w2.heap.size + 2, 1, none⟩ = some (iv s) ∧ w'.cell? ⟨w2.heap.size + 2, 2, none⟩ = some (iv m) ∧ w'.cell? ⟨w2.heap.size + 2, 3, none⟩ = some (iv d1) ∧ w'.cell? ⟨w2.heap.size + 2, 4, none⟩ = some (iv cm) ∧ w'.cell? ⟨w2.heap.size + 2, 5, none⟩ = some (iv 0) ∧ w'.cell? ⟨w2.heap.size + 2, 6, none⟩ = some (iv 0) ∧ w'.cell? ⟨w2.heap.size + 2, 7, none⟩ = some (iv 0) ∧ w'.cell? ⟨w2.heap.size + 2, 8, none⟩ = some (iv mk) ∧ w'.cell? ⟨w1.heap.size, 0, none⟩ = some (iv t) ∧ w'.cell? ⟨w1.heap.size, 1, none⟩ = some (.slice GP ps.length qp) ∧ w'.cell? ⟨w1.heap.size, 2, none⟩ = some (.slice GS zs.length qs) ∧ Below W8.heap.size W8 w')) := hid fun w' hx => ⟨(HX8.out.below hx).cell 0 rfl, (HX8.out.below hx).cell 1 rfl, (HX8.out.below hx).cell 2 rfl, (HX8.out.below hx).cell 3 rfl, (HX8.out.below hx).cell 4 rfl, (HX8.out.below hx).cell 5 rfl, (HX8.out.below hx).cell 6 rfl, (HX8.out.below hx).cell 7 rfl, (HX8.out.below hx).cell 8 rfl, (HY8.out.below hx).cell 0 rfl, (HY8.out.below hx).cell 1 rfl, (HY8.out.below hx).cell 2 rfl, (HY8.out.below hx).cell 3 rfl, (HY8.out.below hx).cell 4 rfl, (HY8.out.below hx).cell 5 rfl, (HY8.out.below hx).cell 6 rfl, (HY8.out.below hx).cell 7 rfl, (HY8.out.below hx).cell 8 rfl, (HZ8.out.below hx).cell 0 rfl, (HZ8.out.below hx).cell 1 rfl, (HZ8.out.below hx).cell 2 rfl, (HZ8.out.below hx).cell 3 rfl, (HZ8.out.below hx).cell 4 rfl, (HZ8.out.below hx).cell 5 rfl, (HZ8.out.below hx).cell 6 rfl, (HZ8.out.below hx).cell 7 rfl, (HZ8.out.below hx).cell 8 rfl, (HD8.out.below hx).cell 0 rfl, (HD8.out.below hx).cell 1 rfl, (HD8.out.below hx).cell 2 rfl, hx⟩
    have HL0 := hid (Below.refl W8.heap.size W8).drew
    refine wp_region_held_drew (S := fun w' => w'.cell? ⟨w2.heap.size, 0, none⟩ = some (iv k) ∧ w'.cell? ⟨w2.heap.size, 1, none⟩ = some (iv s) ∧ w'.cell? ⟨w2.heap.size, 2, none⟩ = some (iv m) ∧ w'.cell? ⟨w2.heap.size, 3, none⟩ = some (iv dg) ∧ w'.cell? ⟨w2.heap.size, 4, none⟩ = some (iv cm) ∧ w'.cell? ⟨w2.heap.size, 5, none⟩ = some (iv 0) ∧ w'.cell? ⟨w2.heap.size, 6, none⟩ = some (iv 0) ∧ w'.cell? ⟨w2.heap.size, 7, none⟩ = some (iv 0) ∧ w'.cell? ⟨w2.heap.size, 8, none⟩ = some (iv mk) ∧ w'.cell? ⟨w2.heap.size + 1, 0, none⟩ = some (iv k) ∧ w'.cell? ⟨w2.heap.size + 1, 1, none⟩ = some (iv s) ∧ w'.cell? ⟨w2.heap.size + 1, 2, none⟩ = some (iv m) ∧ w'.cell? ⟨w2.heap.size + 1, 3, none⟩ = some (iv dg) ∧ w'.cell? ⟨w2.heap.size + 1, 4, none⟩ = some (iv c4) ∧ w'.cell? ⟨w2.heap.size + 1, 5, none⟩ = some (iv 0) ∧ w'.cell? ⟨w2.heap.size + 1, 6, none⟩ = some (iv 0) ∧ w'.cell? ⟨w2.heap.size + 1, 7, none⟩ = some (iv 0) ∧ w'.cell? ⟨w2.heap.size + 1, 8, none⟩ = some (iv mk) ∧ w'.cell? ⟨w2.heap.size + 2, 0, none⟩ = some (iv k) ∧ w'.cell? ⟨w2.heap.size + 2, 1, none⟩ = some (iv s) ∧ w'.cell? ⟨w2.heap.size + 2, 2, none⟩ = some (iv m) ∧ w'.cell? ⟨w2.heap.size + 2, 3, none⟩ = some (iv d1) ∧ w'.cell? ⟨w2.heap.size + 2, 4, none⟩ = some (iv cm) ∧ w'.cell? ⟨w2.heap.size + 2, 5, none⟩ = some (iv 0) ∧ w'.cell? ⟨w2.heap.size + 2, 6, none⟩ = some (iv 0) ∧ w'.cell? ⟨w2.heap.size + 2, 7, none⟩ = some (iv 0) ∧ w'.cell? ⟨w2.heap.size + 2, 8, none⟩ = some (iv mk) ∧ w'.cell? ⟨w1.heap.size, 0, none⟩ = some (iv t) ∧ w'.cell? ⟨w1.heap.size, 1, none⟩ = some (.slice GP ps.length qp) ∧ w'.cell? ⟨w1.heap.size, 2, none⟩ = some (.slice GS zs.length qs) ∧ Below W8.heap.size W8 w') (by kernel_rfl) ((HR.out _ HL0.out)) (fun hSx => ?_)
    refine wpAnyH_take (i := 0) (v := .slice GU ks.length qu) rfl (by kernel_rfl) (by kernel_rfl) (by kernel_rfl) (fun _ _ _ h => h) (Or.inl ⟨by rfl, fun wq hSw => by go_simp⟩) hSx ?_
    try simp [Act.put]
    refine wpAnyH_take (i := 1) (v := .agg #[iv k, iv s, iv m, iv dg, iv cm, iv 0, iv 0, iv 0, iv mk]) rfl (by kernel_rfl) (by kernel_rfl) (by kernel_rfl) (fun _ _ _ h => h) (Or.inl ⟨by rfl, fun wq hSw => by go_simp⟩) hSx ?_
    try simp [Act.put]
    clear hSx
    refine wpAnyH_ready (rs := [2]) (by kernel_rfl) (by simp) ?_
    refine AllReadyH.cons rfl (fun K hK => ?_) AllReadyH.nil
    go_simp
    go_wp2_with (refine (HCX.out _ (below_step HB8.out HL0.out)).mono ?_; rintro e a1 ⟨rfl, hb1⟩; have HE1 := hid (below_step HL0.out hb1); clear hb1)
    refine hK _ _ (by simpa using (HR.out _ HE1.out)) (fun hSx => ?_)
    clear hK K
    try simp [Act.put]
    refine wpAnyH_take (i := 3) (v := .bool false) rfl (by kernel_rfl) (by kernel_rfl) (by kernel_rfl) (fun _ _ _ h => h) (Or.inl ⟨by rfl, fun wq hSw => by go_simp⟩) hSx ?_
    try simp [Act.put]
    refine wpAnyH_take (i := 4) (v := .bool false) rfl (by kernel_rfl) (by kernel_rfl) (by kernel_rfl) (fun _ _ _ h => h) (Or.inl ⟨by rfl, fun wq hSw => by go_simp⟩) hSx ?_
    try simp [Act.put]
    refine wpAnyH_take (i := 5) (v := .slice GU ks.length qu) rfl (by kernel_rfl) (by kernel_rfl) (by kernel_rfl) (fun _ _ _ h => h) (Or.inl ⟨by rfl, fun wq hSw => by go_simp⟩) hSx ?_
    try simp [Act.put]
    refine wpAnyH_take (i := 6) (v := .agg #[iv k, iv s, iv m, iv dg, iv c4, iv 0, iv 0, iv 0, iv mk]) rfl (by kernel_rfl) (by kernel_rfl) (by kernel_rfl) (fun _ _ _ h => h) (Or.inl ⟨by rfl, fun wq hSw => by go_simp⟩) hSx ?_
    try simp [Act.put]
    clear hSx
    refine wpAnyH_ready (rs := [7]) (by kernel_rfl) (by simp) ?_
    refine AllReadyH.cons rfl (fun K hK => ?_) AllReadyH.nil
    go_simp
    go_wp2_with (refine (HCY.out _ (below_step HB8.out HE1.out)).mono ?_; rintro e a2 ⟨rfl, hb2⟩; have HE2 := hid (below_step HE1.out hb2); clear hb2)
    refine hK _ _ (by simpa using (HR.out _ HE2.out)) (fun hSx => ?_)
    clear hK K
    try simp [Act.put]
    refine wpAnyH_take (i := 8) (v := .bool false) rfl (by kernel_rfl) (by kernel_rfl) (by kernel_rfl) (fun _ _ _ h => h) (Or.inl ⟨by rfl, fun wq hSw => by go_simp⟩) hSx ?_
    try simp [Act.put]
    refine wpAnyH_take (i := 9) (v := .bool false) rfl (by kernel_rfl) (by kernel_rfl) (by kernel_rfl) (fun _ _ _ h => h) (Or.inl ⟨by rfl, fun wq hSw => by go_simp⟩) hSx ?_
    try simp [Act.put]
    refine wpAnyH_take (i := 10) (v := .slice GU ks.length qu) rfl (by kernel_rfl) (by kernel_rfl) (by kernel_rfl) (fun _ _ _ h => h) (Or.inl ⟨by rfl, fun wq hSw => by go_simp⟩) hSx ?_
    try simp [Act.put]
    refine wpAnyH_take (i := 11) (v := .agg #[iv k, iv s, iv m, iv d1, iv cm, iv 0, iv 0, iv 0, iv mk]) rfl (by kernel_rfl) (by kernel_rfl) (by kernel_rfl) (fun _ _ _ h => h) (Or.inl ⟨by rfl, fun wq hSw => by go_simp⟩) hSx ?_
    try simp [Act.put]
    clear hSx
    refine wpAnyH_ready (rs := [12]) (by kernel_rfl) (by simp) ?_
    refine AllReadyH.cons rfl (fun K hK => ?_) AllReadyH.nil
    go_simp
    go_wp2_with (refine (HCZ.out _ (below_step HB8.out HE2.out)).mono ?_; rintro e a3 ⟨rfl, hb3⟩; have HE3 := hid (below_step HE2.out hb3); clear hb3)
    refine hK _ _ (by simpa using (HR.out _ HE3.out)) (fun hSx => ?_)
    clear hK K
    try simp [Act.put]
    refine wpAnyH_take (i := 13) (v := .bool false) rfl (by kernel_rfl) (by kernel_rfl) (by kernel_rfl) (fun _ _ _ h => h) (Or.inl ⟨by rfl, fun wq hSw => by go_simp⟩) hSx ?_
    try simp [Act.put]
    refine wpAnyH_take (i := 14) (v := .bool false) rfl (by kernel_rfl) (by kernel_rfl) (by kernel_rfl) (fun _ _ _ h => h) (Or.inl ⟨by rfl, fun wq hSw => by go_simp⟩) hSx ?_
    try simp [Act.put]
    refine wpAnyH_take (i := 15) (v := .pointer (some ⟨w2.heap.size, 3, none⟩)) rfl (by kernel_rfl) (by kernel_rfl) (by kernel_rfl) (fun _ _ _ h => h) (Or.inl ⟨by rfl, fun wq hSw => by go_simp⟩) hSx ?_
    try simp [Act.put]
    refine wpAnyH_take (i := 16) (v := iv dg) rfl (by kernel_rfl) (by kernel_rfl) (by kernel_rfl) (fun _ _ _ h => h) (Or.inl ⟨by rfl, fun wq hSw => by go_simp⟩) hSx ?_
    try simp [Act.put]
    refine wpAnyH_take (i := 17) (v := iv m) rfl (by kernel_rfl) (by kernel_rfl) (by kernel_rfl) (fun _ _ _ h => h) (Or.inl ⟨by rfl, fun wq hSw => by go_simp⟩) hSx ?_
    try simp [Act.put]
    refine wpAnyH_take (i := 18) (v := .agg #[iv t, .slice GP ps.length qp, .slice GS zs.length qs]) rfl (by kernel_rfl) (by kernel_rfl) (by kernel_rfl) (fun _ _ _ h => h) (Or.inl ⟨by rfl, fun wq hSw => by go_simp⟩) hSx ?_
    try simp [Act.put]
    clear hSx
    refine wpAnyH_ready (rs := [19]) (by kernel_rfl) (by simp) ?_
    refine AllReadyH.cons rfl (fun K hK => ?_) AllReadyH.nil
    go_simp
    go_wp2_with (refine (HDD.out _ (below_step HB8.out HE3.out)).mono ?_; rintro e a4 ⟨rfl, hb4⟩; have HE4 := hid (below_step HE3.out hb4); clear hb4)
    refine hK _ _ (by simpa using (HR.out _ HE4.out)) (fun hSx => ?_)
    clear hK K
    try simp [Act.put]
    refine wpAnyH_take (i := 20) (v := .bool false) rfl (by kernel_rfl) (by kernel_rfl) (by kernel_rfl) (fun _ _ _ h => h) (Or.inl ⟨by rfl, fun wq hSw => by go_simp⟩) hSx ?_
    try simp [Act.put]
    refine wpAnyH_take (i := 21) (v := .bool false) rfl (by kernel_rfl) (by kernel_rfl) (by kernel_rfl) (fun _ _ _ h => h) (Or.inl ⟨by rfl, fun wq hSw => by go_simp⟩) hSx ?_
    try simp [Act.put]
    refine wpAnyH_take (i := 22) (v := .bool false) rfl (by kernel_rfl) (by kernel_rfl) (by kernel_rfl) (fun _ _ _ h => h) (Or.inl ⟨by rfl, fun wq hSw => by go_simp⟩) hSx ?_
    try simp [Act.put]
    refine wpAnyH_take (i := 23) (v := .agg #[iv k, iv s, iv m, iv dg, iv cm, iv 0, iv 0, iv 0, iv mk]) rfl (by kernel_rfl) (by kernel_rfl) (by kernel_rfl) (fun _ _ _ h => h) (Or.inl ⟨by rfl, fun wq hSw => by go_simp⟩) hSx ?_
    try simp [Act.put]
    refine wpAnyH_take (i := 25) (v := .agg #[iv k, iv s, iv m, iv dg, iv c4, iv 0, iv 0, iv 0, iv mk]) rfl (by kernel_rfl) (by kernel_rfl) (by kernel_rfl) (fun _ _ _ h => h) (Or.inl ⟨by rfl, fun wq hSw => by go_simp⟩) hSx ?_
    try simp [Act.put]
    clear hSx
    refine wpAnyH_ready (rs := [24]) (by kernel_rfl) (by simp) ?_
    refine AllReadyH.cons rfl (fun K hK => ?_) AllReadyH.nil
    go_simp
    go_wp2_with (refine (HG1.out _).mono ?_; rintro e a5 ⟨rfl, hb5⟩; have HE5 := hid (below_step HE4.out hb5); clear hb5)
    refine hK _ _ (by simpa using (HR.out _ HE5.out)) (fun hSx => ?_)
    clear hK K
    try simp [Act.put]
    clear hSx
    refine wpAnyH_ready (rs := [26]) (by kernel_rfl) (by simp) ?_
    refine AllReadyH.cons rfl (fun K hK => ?_) AllReadyH.nil
    go_simp
    go_wp2_with (refine (HG2.out _).mono ?_; rintro e a6 ⟨rfl, hb6⟩; have HE6 := hid (below_step HE5.out hb6); clear hb6)
    refine hK _ _ (by simpa using (HR.out _ HE6.out)) (fun hSx => ?_)
    clear hK K
    try simp [Act.put]
    refine wpAnyH_take (i := 27) (v := .bool false) rfl (by kernel_rfl) (by kernel_rfl) (by kernel_rfl) (fun _ _ _ h => h) (Or.inl ⟨by rfl, fun wq hSw => by go_simp⟩) hSx ?_
    try simp [Act.put]
    refine wpAnyH_take (i := 28) (v := .bool false) rfl (by kernel_rfl) (by kernel_rfl) (by kernel_rfl) (fun _ _ _ h => h) (Or.inl ⟨by rfl, fun wq hSw => by go_simp⟩) hSx ?_
    try simp [Act.put]
    refine wpAnyH_done (by kernel_rfl) ?_ _
    have HEE := hid (below_step HB1.out (below_step HB8.out HE6.out))
    clear HR HL0 HE1 HE2 HE3 HE4 HE5 HE6 HB1 HB8 HD8 HX8 HY8 HZ8 HCX HCY HCZ HDD HG1 HG2
    go_wp2_with fail
    have HVr := hid ((HV.out.below HEE.out (Nat.le_refl _)).mono HEE.out.size)
    refine (DrawStampsDigest_any _ HVr.out hn).mono ?_
    rintro e z1 ⟨y, ls, m9, rfl, h3, hl3, hy, hb1⟩
    obtain ⟨GY, qy, rfl⟩ := ownsRow_form hy.1
    have HSY := hid (Own.sl hy h3)
    have HBY := hid (below_step HEE.out hb1)
    clear hb1 hy h3
    go_wp2_with fail
    refine (implStampsDigest_any m9 z1 HSY.out (Nat.le_refl _) (by omega)).mono ?_
    rintro e z2 ⟨rfl, hb2⟩
    have HBZ := hid (below_step HBY.out hb2)
    have hst := stamps_zero (m := m9) (ls := ls)
    generalize stampsI m9 ls = sv at hst ⊢
    clear hb2
    cases hzz : ((ls.length : Int) == 0)
    · rw [hzz] at hst
      go_wp2
      go_ret
      exact ⟨rfl, HBZ.out⟩
    · rw [hzz] at hst
      go_wp2
      go_ret
      exact ⟨rfl, HBZ.out⟩

set_option maxRecDepth 100000 in
theorem lawSignatures_lifted (os : Os) (started : os.Started) (H : Type) (enc : TypeId × Value → H) :
    ReturnsInHanded {} Try.checked os 10 .any (Rows.fnSignaturesSpec.pre6 enc Try.prog Try.f10 Rows.fnSignaturesRow.domain false) (Rows.fnSignaturesSpec.post enc Try.prog Try.f10 false true false false) := by
  refine returnsInHanded_of_change (C := Try.checked) Try.own started (by kernel_rfl) Try.func10
    (ChangeSpec.witness6 (enc := enc) (C := Try.checked) false ⟨#[], #[.slice none 0 0], []⟩ 8 (by kernel_rfl) (by kernel_rfl) (by kernel_rfl) (by kernel_rfl)) ?_
  intro W base args ds gs before hval0 hW hcnd _
  have hval : ∀ (j : Nat) t v, Try.f10.params[j]? = some t → args[j]? = some v → Value.okWide Try.prog W .any base t v := hval0
  have hW' := hW
  obtain ⟨p, q, hA0, hV, rfl, hfz, hnd⟩ := hW
  have hA : DataW.TrodAll enc Try.prog W 0 (fun _ => true) true Try.f10.params.toList args.toList ds p := hA0
  rw [Try.params10] at hA hval
  obtain ⟨v0, d0, rfl, rfl, h0⟩ := trodAll_one hA
  obtain ⟨rfl, rfl⟩ := trodVars_none hV
  obtain ⟨n, hB0⟩ := open_bytes Try.underlying41 Try.underlying5 (by kernel_rfl) (hval 0 41 v0 rfl rfl) h0
  refine (lawSignatures_any W hB0).mono fun e W' ⟨he, hb⟩ => ?_
  subst he
  exact ⟨_, rfl, post_true hW' rfl Try.laidOut (by kernel_rfl) rfl Try.underlying4 rfl hb⟩

theorem lawSignatures_holds : Rows.FnSignaturesSaid :=
  OpenClaim.holds_of_wide 10 Try.f10 rfl rfl rfl rfl rfl rfl rfl ⟨rfl, rfl, rfl, rfl, rfl⟩ rfl rfl rfl rfl rfl (by kernel_rfl) Try.func10 (by kernel_rfl)
    (of_decide_eq_true (by kernel_rfl)) (by unfold Func.isWrapper; first | (rw [if_pos (by decide +kernel)]; kernel_rfl) | (rw [if_neg (by decide +kernel)]; exact ⟨rfl, rfl⟩))
    (fun os started H enc _ => lawSignatures_lifted os started H enc)
end Go.Proofs.Ytkdpfbodmfjkkaa
