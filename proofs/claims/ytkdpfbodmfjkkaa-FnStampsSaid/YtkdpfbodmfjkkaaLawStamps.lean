/- The law FnStamps is true of every input. No condition. -/
import Derived.Test.YtkdpfbodmfjkkaaRows
import Derived.Test.YtkdpfbodmfjkkaaBase
import Derived.Test.YtkdpfbodmfjkkaaOpen
import Derived.Test.YtkdpfbodmfjkkaaPlain
import Derived.Test.YtkdpfbodmfjkkaaHashNe
import Derived.Test.YtkdpfbodmfjkkaaAppend
import Derived.Test.YtkdpfbodmfjkkaaApart
import Derived.Test.YtkdpfbodmfjkkaaBlk
import Derived.Test.YtkdpfbodmfjkkaaMark
import Derived.Test.YtkdpfbodmfjkkaaFindKey
import Derived.Test.YtkdpfbodmfjkkaaFindAuthority
import Derived.Test.YtkdpfbodmfjkkaaChkSpan
import Derived.Test.YtkdpfbodmfjkkaaMeet
import Derived.Test.YtkdpfbodmfjkkaaMakeStamp
import Derived.Test.YtkdpfbodmfjkkaaCheckStamp
import Derived.Test.YtkdpfbodmfjkkaaStampSpan
import Derived.Test.YtkdpfbodmfjkkaaDrawStamp
import Derived.Test.YtkdpfbodmfjkkaaBig
import Derived.Test.YtkdpfbodmfjkkaaBox
import Derived.Deep.DeepCutAuto
namespace Go.Proofs.Ytkdpfbodmfjkkaa
open Go.ChangeShapes Go.WideShapes Go.ChangeAt Go.RowKit Go.Deep

theorem stamp_time {a0 a1 a2 a3 m M S : Int} (hm : m = markW M S [103, a0, a1, a2, a3]) : (markW M S [103, a0, a1, a2 + 1, a3] == m) = false := by
  rw [beq_eq_false_iff_ne, hm]
  exact mark_ne (a := [103, a0, a1]) (b := [a3]) (modP_up' a2)
theorem stamp_digest {a0 a1 a2 a3 m M S : Int} (hm : m = markW M S [103, a0, a1, a2, a3]) : (markW M S [103, a0, a1, a2, a3 + 1] == m) = false := by
  rw [beq_eq_false_iff_ne, hm]
  exact mark_ne (a := [103, a0, a1, a2]) (b := []) (modP_up' a3)
theorem stampspan_in {ls : List (List Int)} {a0 a2 : Int} (hl : ls.length = 4) (hf : ∀ k, k < 4 → fld ls k 2 ≤ 9223372036854775807) (h : ssB ls a0 a2 = true) : spanB (ssL ls a0 a2) (ssR ls a0 a2) = true ∧ ssL ls a0 a2 ≤ a2 ∧ a2 ≤ ssR ls a0 a2 := by
  unfold ssB at h
  rw [Bool.and_eq_true] at h
  obtain ⟨h1, h2⟩ := h
  unfold ssL ssR
  rw [if_pos h1, if_pos h1]
  unfold ssOk at h1
  simp only [Bool.and_eq_true, decide_eq_true_eq] at h1
  obtain ⟨⟨h3, h4⟩, h5⟩ := h1
  have h6 : ssE ls a0 ≤ 9223372036854775807 := by
    unfold ssE
    rcases findI_range 0 a0 ls with h7 | ⟨k, hk, h7, -⟩
    · rw [h7] at h3; omega
    · rw [h7, Int.toNat_natCast]
      exact hf k (by omega)
  rw [timeB_iff] at h5
  generalize ssE ls a0 = e at h2 h4 h6 ⊢
  have w1 : IntKind.i64.wrap (a2 - e) = a2 - e := by rw [IntKind.wrap_i64]; omega
  unfold mkL mkR
  rw [if_pos h2, if_pos h2, spanB_iff]
  unfold mkB at h2
  rw [decide_eq_true_eq] at h2
  rw [w1] at h2 ⊢
  have w2 : IntKind.i64.wrap (a2 + e) = a2 + e ∨ IntKind.i64.wrap (a2 + e) < 0 := by rw [IntKind.wrap_i64]; omega
  rcases w2 with w2 | w2
  · rw [w2] at h2 ⊢; omega
  · omega
set_option maxRecDepth 90000 in
set_option maxHeartbeats 40000000 in
theorem lawStamps_any {n : Nat} {v : Value} (w : World) (hv : Bytes w.heap.size w v n) :
    Calls Try.prog 9 #[v] w (Ret (.bool true) w) := by
  have HV := hid hv
  obtain ⟨A, c, rfl, hc1, hc2, -⟩ := hv
  by_cases hn : n ≤ 1048576
  rotate_left
  · go_enter Try.func9, Try.ntmps9
    go_wp2_with fail
    refine (big_yes _ hn (by omega)).mono ?_
    rintro e w1 ⟨rfl, rfl⟩
    go_wp2
    go_ret
    exact ⟨rfl, Below.refl _ _⟩
  go_enter Try.func9, Try.ntmps9
  go_wp2_with fail
  refine (big_no _ hn).mono ?_
  rintro e w1 ⟨rfl, rfl⟩
  go_wp2_with fail
  refine (DrawMakeStamp_any _ HV.out hn).mono ?_
  rintro e w1 ⟨u, ks, x, ls, a0, a1, a2, a3, a4, rfl, ⟨ha30, ha31⟩, h2, hl, h3, hl3, -, hu, hx, hb1⟩
  have HB1 := hid (below_step hb1 (below_alloc w1 (.cells #[iv a0, iv a1, iv a2, iv a3, iv a4] 101)))
  have HS1 := hid ((hu.sl h2).step (below_alloc w1 (.cells #[iv a0, iv a1, iv a2, iv a3, iv a4] 101)))
  have HL1 := hid ((hx.sl h3).step (below_alloc w1 (.cells #[iv a0, iv a1, iv a2, iv a3, iv a4] 101)))
  have HX1 := hid (Blk.new w1 #[iv a0, iv a1, iv a2, iv a3, iv a4] 101)
  have hl9 : ks.length ≤ 10 := by omega
  have hl8 : ls.length ≤ 4 := by omega
  clear hb1 hu hx h2 hl h3 hl3
  obtain ⟨A1, c1, rfl, hd1, hd2, -⟩ := id HS1.out
  obtain ⟨A2, c2, rfl, hd3, hd4, -⟩ := id HL1.out
  by_cases hno : findI 0 a0 ls = -1 ∨ a1 < 0 ∨ timeB a2 = false ∨ ∃ i : Nat, findI 0 a0 ls = (i : Int) ∧ findI 0 (fld ls i 1) ks = -1
  · skip
    have HI : Hid (∀ W : World, Below (w1.alloc (.cells #[iv a0, iv a1, iv a2, iv a3, iv a4] 101)).heap.size (w1.alloc (.cells #[iv a0, iv a1, iv a2, iv a3, iv a4] 101)) W → Calls Try.prog 65 #[.slice A1 ks.length c1, .slice A2 ls.length c2, .agg #[iv a0, iv a1, iv a2, iv a3, iv a4]] W (Ret (.tuple #[.agg #[iv 0, iv 0, iv 0, iv 0, iv 0], .bool false]) W)) := hid fun W q => implMakeStamp_any_no a0 a1 a2 a3 a4 W (HS1.out.below q (Nat.le_refl _)) (HL1.out.below q (Nat.le_refl _)) q.size hno
    have HP : Hid (∀ W : World, Below (w1.alloc (.cells #[iv a0, iv a1, iv a2, iv a3, iv a4] 101)).heap.size (w1.alloc (.cells #[iv a0, iv a1, iv a2, iv a3, iv a4] 101)) W → Calls Try.prog 66 #[.slice A1 ks.length c1, .slice A2 ls.length c2, .agg #[iv a0, iv a1, iv a2, iv a3, iv a4]] W (Ret (.tuple #[.agg #[iv 0, iv 0, iv 0, iv 0, iv 0], .bool false]) W)) := hid fun W q => specMakeStamp_any_no a0 a1 a2 a3 a4 W (HS1.out.below q (Nat.le_refl _)) (HL1.out.below q (Nat.le_refl _)) q.size hno
    clear hno
    go_wp2_with fail
    generalize w1.alloc (.cells #[iv a0, iv a1, iv a2, iv a3, iv a4] 101) = W1 at HB1 HS1 HL1 HX1 HI HP ⊢
    refine (HI.out W1 (Below.refl _ _)).mono ?_
    rintro e w2 ⟨rfl, hb2⟩
    have HX2 := hid (HX1.out.below hb2)
    have x0 := HX2.out.cell 0 rfl
    have x1 := HX2.out.cell 1 rfl
    have x2 := HX2.out.cell 2 rfl
    have x3 := HX2.out.cell 3 rfl
    have x4 := HX2.out.cell 4 rfl
    have hx2 := HX2.out.lt
    have HB2 := hid ((Below.refl W1.heap.size W1).trans (hb2.alloc hb2.size (.cells #[iv 0, iv 0, iv 0, iv 0, iv 0] 101)))
    have HY2 := hid (Blk.new w2 #[iv 0, iv 0, iv 0, iv 0, iv 0] 101)
    clear hb2
    go_wp2_with fail
    generalize w2.alloc (.cells #[iv 0, iv 0, iv 0, iv 0, iv 0] 101) = W2 at HB2 HY2 ⊢
    refine (HP.out W2 HB2.out).mono ?_
    rintro e w3 ⟨rfl, hb3⟩
    have HY3 := hid (HY2.out.below hb3)
    have HB3 := hid (below_step HB2.out hb3)
    clear hb3 HX2 HX1 HY2 HI HP x0 x1 x2 x3 x4 hx2
    have HE3 := hid (below_step HB1.out (HB3.out.alloc HB3.out.size (.cells #[iv 0, iv 0, iv 0, iv 0, iv 0] 101)))
    clear HY3 HB3 HB1
    have HVr := hid ((HV.out.below HE3.out (Nat.le_refl _)).mono HE3.out.size)
    have HBr := hid HE3.out
    clear HS1 HL1
    go_wp2_with fail
    generalize w3.alloc (.cells #[iv 0, iv 0, iv 0, iv 0, iv 0] 101) = W9 at HE3 HVr HBr ⊢
    refine (DrawStampSpan_any _ HVr.out hn).mono ?_
    rintro e z1 ⟨y, ms, b0, b1, b2, b3, b4, rfl, h3, hl3, hf3, hy, hb1⟩
    have HBs := hid (below_step HBr.out (below_step hb1 (below_alloc z1 (.cells #[iv b0, iv b1, iv b2, iv b3, iv b4] 101))))
    have HSs := hid ((hy.sl h3).step (below_alloc z1 (.cells #[iv b0, iv b1, iv b2, iv b3, iv b4] 101)))
    have HBX := hid (Blk.new z1 #[iv b0, iv b1, iv b2, iv b3, iv b4] 101)
    have hin := stampspan_in (a0 := b0) (a2 := b2) hl3 hf3
    have HIN := hid hin
    clear hb1 hy h3 hl3 hf3 hin HBr
    obtain ⟨A3, c3, rfl, he1, he2, -⟩ := id HSs.out
    go_wp2_with fail
    generalize z1.alloc (.cells #[iv b0, iv b1, iv b2, iv b3, iv b4] 101) = Z1 at HBs HSs HBX ⊢
    refine (implStampSpan_any _ _ _ _ _ _ HSs.out (Nat.le_refl _)).mono ?_
    rintro e z2 ⟨rfl, hb2⟩
    have HBt := hid (below_step HBs.out hb2)
    have HBY := hid (HBX.out.below hb2)
    clear hb2
    have t0 := HBY.out.cell 0 rfl
    have t1 := HBY.out.cell 1 rfl
    have t2 := HBY.out.cell 2 rfl
    have t3 := HBY.out.cell 3 rfl
    have t4 := HBY.out.cell 4 rfl
    have ht9 := HBY.out.lt
    clear HBX HSs
    cases hsb : ssB ms b0 b2
    · generalize ssL ms b0 b2 = L
      generalize ssR ms b0 b2 = R
      have HE := hid (HBt.out.alloc HBt.out.size (.cells #[iv L, iv R] 47))
      go_wp2
      go_ret
      exact ⟨rfl, HE.out⟩
    · obtain ⟨i1, i2, i3⟩ := HIN.out hsb
      generalize ssL ms b0 b2 = L at i1 i2 i3 ⊢
      generalize ssR ms b0 b2 = R at i1 i2 i3 ⊢
      have HE := hid (HBt.out.alloc HBt.out.size (.cells #[iv L, iv R] 47))
      have HIS : Hid (∀ W : World, Calls Try.prog 31 #[.agg #[iv L, iv R]] W (Ret (.bool true) W)) := hid fun W => by rw [← i1]; exact implIsSpan_any _ _ W
      have HQ := hid (Blk.new z2 #[iv L, iv R] 47)
      have HBZ := hid (HBY.out.alloc (.cells #[iv L, iv R] 47))
      go_wp2_with fail
      generalize z2.alloc (.cells #[iv L, iv R] 47) = Z3 at HE HQ HBZ ⊢
      refine (HIS.out _).mono ?_
      rintro e z4 ⟨rfl, hb4⟩
      have HE2 := hid (below_step HE.out hb4)
      have q0 := (HQ.out.below hb4).cell 0 rfl
      have q1 := (HQ.out.below hb4).cell 1 rfl
      have q2 := (HBZ.out.below hb4).cell 2 rfl
      clear hb4
      go_wp2
      go_ret
      exact ⟨rfl, HE2.out⟩
  · skip
    rcases findI_range 0 a0 ls with hf | ⟨i, hi, hf, -⟩
    · exact absurd (.inl hf) hno
    by_cases ht : a1 < 0
    · exact absurd (.inr (.inl ht)) hno
    have ht2 : timeB a2 = true := by cases h : timeB a2 with | false => exact absurd (.inr (.inr (.inl h))) hno | true => rfl
    rcases findI_range 0 (fld ls i 1) ks with hf2 | ⟨k, hk, hf2, -⟩
    · exact absurd (.inr (.inr (.inr ⟨i, hf, hf2⟩))) hno
    clear hno
    have ht1 : 0 ≤ a1 := by omega
    clear ht
    obtain ⟨m, hm⟩ : ∃ m, m = markW (fld ks k 2) (fld ks k 4) [103, a0, a1, a2, a3] := ⟨_, rfl⟩
    have HI : Hid (∀ W : World, Below (w1.alloc (.cells #[iv a0, iv a1, iv a2, iv a3, iv a4] 101)).heap.size (w1.alloc (.cells #[iv a0, iv a1, iv a2, iv a3, iv a4] 101)) W → Calls Try.prog 65 #[.slice A1 ks.length c1, .slice A2 ls.length c2, .agg #[iv a0, iv a1, iv a2, iv a3, iv a4]] W (Ret (.tuple #[.agg #[iv a0, iv a1, iv a2, iv a3, iv m], .bool true]) W)) := hid fun W q => by rw [hm]; exact implMakeStamp_any_yes a0 a1 a2 a3 a4 W (HS1.out.below q (Nat.le_refl _)) (HL1.out.below q (Nat.le_refl _)) q.size i hi hf ht1 ht2 k hk hf2
    have HP : Hid (∀ W : World, Below (w1.alloc (.cells #[iv a0, iv a1, iv a2, iv a3, iv a4] 101)).heap.size (w1.alloc (.cells #[iv a0, iv a1, iv a2, iv a3, iv a4] 101)) W → Calls Try.prog 66 #[.slice A1 ks.length c1, .slice A2 ls.length c2, .agg #[iv a0, iv a1, iv a2, iv a3, iv a4]] W (Ret (.tuple #[.agg #[iv a0, iv a1, iv a2, iv a3, iv m], .bool true]) W)) := hid fun W q => by rw [hm]; exact specMakeStamp_any_yes a0 a1 a2 a3 a4 W (HS1.out.below q (Nat.le_refl _)) (HL1.out.below q (Nat.le_refl _)) q.size i hi hf ht1 ht2 k hk hf2
    have HCX : Hid (∀ W : World, Below (w1.alloc (.cells #[iv a0, iv a1, iv a2, iv a3, iv a4] 101)).heap.size (w1.alloc (.cells #[iv a0, iv a1, iv a2, iv a3, iv a4] 101)) W → Calls Try.prog 67 #[.slice A1 ks.length c1, .slice A2 ls.length c2, .agg #[iv a0, iv a1, iv a2, iv a3, iv m]] W (Ret (.bool true) W)) := hid fun W q => by rw [show true = (markW (fld ks k 2) (fld ks k 4) [103, a0, a1, a2, a3] == m) by rw [hm]; simp]; exact implCheckStamp_any_yes _ _ _ _ _ W (HS1.out.below q (Nat.le_refl _)) (HL1.out.below q (Nat.le_refl _)) q.size i hi hf ht1 ht2 k hk hf2
    have HCY : Hid (∀ W : World, Below (w1.alloc (.cells #[iv a0, iv a1, iv a2, iv a3, iv a4] 101)).heap.size (w1.alloc (.cells #[iv a0, iv a1, iv a2, iv a3, iv a4] 101)) W → Calls Try.prog 67 #[.slice A1 ks.length c1, .slice A2 ls.length c2, .agg #[iv a0, iv a1, iv (a2 + 1), iv a3, iv m]] W (Ret (.bool false) W)) := hid fun W q => by cases ht3 : timeB (a2 + 1) with | true => rw [← stamp_time hm]; exact implCheckStamp_any_yes _ _ _ _ _ W (HS1.out.below q (Nat.le_refl _)) (HL1.out.below q (Nat.le_refl _)) q.size i hi hf ht1 ht3 k hk hf2 | false => exact implCheckStamp_any_no _ _ _ _ _ W (HS1.out.below q (Nat.le_refl _)) (HL1.out.below q (Nat.le_refl _)) q.size (.inr (.inr (.inl ht3)))
    have HCZ : Hid (∀ W : World, Below (w1.alloc (.cells #[iv a0, iv a1, iv a2, iv a3, iv a4] 101)).heap.size (w1.alloc (.cells #[iv a0, iv a1, iv a2, iv a3, iv a4] 101)) W → Calls Try.prog 67 #[.slice A1 ks.length c1, .slice A2 ls.length c2, .agg #[iv a0, iv a1, iv a2, iv (a3 + 1), iv m]] W (Ret (.bool false) W)) := hid fun W q => by rw [← stamp_digest hm]; exact implCheckStamp_any_yes _ _ _ _ _ W (HS1.out.below q (Nat.le_refl _)) (HL1.out.below q (Nat.le_refl _)) q.size i hi hf ht1 ht2 k hk hf2
    have HSK : Hid (∀ W : World, Below (w1.alloc (.cells #[iv a0, iv a1, iv a2, iv a3, iv a4] 101)).heap.size (w1.alloc (.cells #[iv a0, iv a1, iv a2, iv a3, iv a4] 101)) W → Calls Try.prog 68 #[.slice A2 ls.length c2, .agg #[iv a0, iv a1, iv a2, iv a3, iv m]] W (Ret (iv (fld ls i 1)) W)) := hid fun W q => ret_cast (by rw [stampKey_some hf]) (implStampKey_any _ _ _ _ _ W (HL1.out.below q (Nat.le_refl _)) q.size)
    have HFK : Hid (∀ W : World, Below (w1.alloc (.cells #[iv a0, iv a1, iv a2, iv a3, iv a4] 101)).heap.size (w1.alloc (.cells #[iv a0, iv a1, iv a2, iv a3, iv a4] 101)) W → Calls Try.prog 37 #[.slice A1 ks.length c1, iv (fld ls i 1)] W (Ret (iv k) W)) := hid fun W q => ret_cast (by rw [hf2]) (implFindKey_any _ W (HS1.out.below q (Nat.le_refl _)) q.size)
    have hr2 := timeB_iff.1 ht2
    obtain ⟨hr3, hr4⟩ := hr2
    generalize fld ls i 1 = sk at HSK HFK
    have hk0 : (0 : Int) ≤ (k : Int) := Int.natCast_nonneg _
    clear hm hf hf2 hi ht2 hk
    go_wp2_with fail
    generalize w1.alloc (.cells #[iv a0, iv a1, iv a2, iv a3, iv a4] 101) = W1 at HB1 HS1 HL1 HX1 HI HP HCX HCY HCZ HSK HFK ⊢
    refine (HI.out W1 (Below.refl _ _)).mono ?_
    rintro e w2 ⟨rfl, hb2⟩
    have HX2 := hid (HX1.out.below hb2)
    have x0 := HX2.out.cell 0 rfl
    have x1 := HX2.out.cell 1 rfl
    have x2 := HX2.out.cell 2 rfl
    have x3 := HX2.out.cell 3 rfl
    have x4 := HX2.out.cell 4 rfl
    have hx2 := HX2.out.lt
    have HB2 := hid ((Below.refl W1.heap.size W1).trans (hb2.alloc hb2.size (.cells #[iv a0, iv a1, iv a2, iv a3, iv m] 101)))
    have HY2 := hid (Blk.new w2 #[iv a0, iv a1, iv a2, iv a3, iv m] 101)
    clear hb2
    go_wp2_with fail
    generalize w2.alloc (.cells #[iv a0, iv a1, iv a2, iv a3, iv m] 101) = W2 at HB2 HY2 ⊢
    refine (HP.out W2 HB2.out).mono ?_
    rintro e w3 ⟨rfl, hb3⟩
    have HY3 := hid (HY2.out.below hb3)
    have HB3 := hid (below_step HB2.out hb3)
    clear hb3 HX2 HX1 HY2 HI HP x0 x1 x2 x3 x4 hx2
    have HB4 := hid (HB3.out.alloc HB3.out.size (.cells #[iv a0, iv a1, iv a2, iv a3, iv m] 101))
    have HY4 := hid (HY3.out.alloc (.cells #[iv a0, iv a1, iv a2, iv a3, iv m] 101))
    have y0 := HY3.out.cell 0 rfl
    have y1 := HY3.out.cell 1 rfl
    have y2 := HY3.out.cell 2 rfl
    have y3 := HY3.out.cell 3 rfl
    have y4 := HY3.out.cell 4 rfl
    have hy3 := HY3.out.lt
    have hy3a : w2.heap.size < w3.heap.size + 1 := by omega
    have hy3b : w2.heap.size < w3.heap.size + 1 + 1 := by omega
    have HB8 := hid ((HB4.out.alloc HB4.out.size (.cells #[iv a0, iv a1, iv (a2 + 1), iv a3, iv m] 101)).alloc (by have := HB4.out.size; simp at this; simp; omega) (.cells #[iv a0, iv a1, iv a2, iv (a3 + 1), iv m] 101))
    have HY8 := hid ((HY4.out.alloc (.cells #[iv a0, iv a1, iv (a2 + 1), iv a3, iv m] 101)).alloc (.cells #[iv a0, iv a1, iv a2, iv (a3 + 1), iv m] 101))
    have HT8 := hid (Blk.new (w3.alloc (.cells #[iv a0, iv a1, iv a2, iv a3, iv m] 101)) #[iv a0, iv a1, iv (a2 + 1), iv a3, iv m] 101)
    have HT8 := hid (HT8.out.alloc (.cells #[iv a0, iv a1, iv a2, iv (a3 + 1), iv m] 101))
    have HU8 := hid (Blk.new ((w3.alloc (.cells #[iv a0, iv a1, iv a2, iv a3, iv m] 101)).alloc (.cells #[iv a0, iv a1, iv (a2 + 1), iv a3, iv m] 101)) #[iv a0, iv a1, iv a2, iv (a3 + 1), iv m] 101)
    rw [show (w3.alloc (.cells #[iv a0, iv a1, iv a2, iv a3, iv m] 101)).heap.size = w3.heap.size + 1 by simp] at HT8
    rw [show ((w3.alloc (.cells #[iv a0, iv a1, iv a2, iv a3, iv m] 101)).alloc (.cells #[iv a0, iv a1, iv (a2 + 1), iv a3, iv m] 101)).heap.size = w3.heap.size + 1 + 1 by simp] at HU8
    clear HB4 HY4
    go_wp2_with fail
    generalize ((w3.alloc (.cells #[iv a0, iv a1, iv a2, iv a3, iv m] 101)).alloc (.cells #[iv a0, iv a1, iv (a2 + 1), iv a3, iv m] 101)).alloc (.cells #[iv a0, iv a1, iv a2, iv (a3 + 1), iv m] 101) = W8 at HB8 HY8 HT8 HU8 ⊢
    clear y0 y1 y2 y3 y4 hy3 hy3a hy3b HY3 HB3
    refine (HCX.out _ HB8.out).mono ?_
    rintro e w9 ⟨rfl, hb9⟩
    have HB9 := hid (below_step HB8.out hb9)
    have HY9 := hid (HY8.out.below hb9)
    have HT9 := hid (HT8.out.below hb9)
    have HU9 := hid (HU8.out.below hb9)
    have y0 := HT9.out.cell 0 rfl
    have y1 := HT9.out.cell 1 rfl
    have y2 := HT9.out.cell 2 rfl
    have y3 := HT9.out.cell 3 rfl
    have y4 := HT9.out.cell 4 rfl
    clear hb9
    go_wp2_with fail
    refine (HCY.out _ HB9.out).mono ?_
    rintro e w10 ⟨rfl, hb10⟩
    have HB10 := hid (below_step HB9.out hb10)
    have HY10 := hid (HY9.out.below hb10)
    have HU10 := hid (HU9.out.below hb10)
    clear y0 y1 y2 y3 y4 hb10
    have y0 := HU10.out.cell 0 rfl
    have y1 := HU10.out.cell 1 rfl
    have y2 := HU10.out.cell 2 rfl
    have y3 := HU10.out.cell 3 rfl
    have y4 := HU10.out.cell 4 rfl
    go_wp2_with fail
    refine (HCZ.out _ HB10.out).mono ?_
    rintro e w11 ⟨rfl, hb11⟩
    have HB11 := hid (below_step HB10.out hb11)
    have HY11 := hid (HY10.out.below hb11)
    clear y0 y1 y2 y3 y4 hb11
    have y0 := HY11.out.cell 0 rfl
    have y1 := HY11.out.cell 1 rfl
    have y2 := HY11.out.cell 2 rfl
    have y3 := HY11.out.cell 3 rfl
    have y4 := HY11.out.cell 4 rfl
    go_wp2_with fail
    refine (HSK.out _ HB11.out).mono ?_
    rintro e w12 ⟨rfl, hb12⟩
    have HB12 := hid (below_step HB11.out hb12)
    clear hb12
    go_wp2_with fail
    refine (HFK.out _ HB12.out).mono ?_
    rintro e w13 ⟨rfl, hb13⟩
    have HE3 := hid (below_step HB1.out (below_step HB12.out hb13))
    clear hb13 y0 y1 y2 y3 y4 HY8 HT8 HU8 HY9 HT9 HU9 HY10 HU10 HY11 HB8 HB9 HB10 HB11 HB12 HCX HCY HCZ HSK HFK HB1
    have HVr := hid ((HV.out.below HE3.out (Nat.le_refl _)).mono HE3.out.size)
    have HBr := hid HE3.out
    clear HS1 HL1
    go_wp2_with fail
    refine (DrawStampSpan_any _ HVr.out hn).mono ?_
    rintro e z1 ⟨y, ms, b0, b1, b2, b3, b4, rfl, h3, hl3, hf3, hy, hb1⟩
    have HBs := hid (below_step HBr.out (below_step hb1 (below_alloc z1 (.cells #[iv b0, iv b1, iv b2, iv b3, iv b4] 101))))
    have HSs := hid ((hy.sl h3).step (below_alloc z1 (.cells #[iv b0, iv b1, iv b2, iv b3, iv b4] 101)))
    have HBX := hid (Blk.new z1 #[iv b0, iv b1, iv b2, iv b3, iv b4] 101)
    have hin := stampspan_in (a0 := b0) (a2 := b2) hl3 hf3
    have HIN := hid hin
    clear hb1 hy h3 hl3 hf3 hin HBr
    obtain ⟨A3, c3, rfl, he1, he2, -⟩ := id HSs.out
    go_wp2_with fail
    generalize z1.alloc (.cells #[iv b0, iv b1, iv b2, iv b3, iv b4] 101) = Z1 at HBs HSs HBX ⊢
    refine (implStampSpan_any _ _ _ _ _ _ HSs.out (Nat.le_refl _)).mono ?_
    rintro e z2 ⟨rfl, hb2⟩
    have HBt := hid (below_step HBs.out hb2)
    have HBY := hid (HBX.out.below hb2)
    clear hb2
    have t0 := HBY.out.cell 0 rfl
    have t1 := HBY.out.cell 1 rfl
    have t2 := HBY.out.cell 2 rfl
    have t3 := HBY.out.cell 3 rfl
    have t4 := HBY.out.cell 4 rfl
    have ht9 := HBY.out.lt
    clear HBX HSs
    cases hsb : ssB ms b0 b2
    · generalize ssL ms b0 b2 = L
      generalize ssR ms b0 b2 = R
      have HE := hid (HBt.out.alloc HBt.out.size (.cells #[iv L, iv R] 47))
      go_wp2
      go_ret
      exact ⟨rfl, HE.out⟩
    · obtain ⟨i1, i2, i3⟩ := HIN.out hsb
      generalize ssL ms b0 b2 = L at i1 i2 i3 ⊢
      generalize ssR ms b0 b2 = R at i1 i2 i3 ⊢
      have HE := hid (HBt.out.alloc HBt.out.size (.cells #[iv L, iv R] 47))
      have HIS : Hid (∀ W : World, Calls Try.prog 31 #[.agg #[iv L, iv R]] W (Ret (.bool true) W)) := hid fun W => by rw [← i1]; exact implIsSpan_any _ _ W
      have HQ := hid (Blk.new z2 #[iv L, iv R] 47)
      have HBZ := hid (HBY.out.alloc (.cells #[iv L, iv R] 47))
      go_wp2_with fail
      generalize z2.alloc (.cells #[iv L, iv R] 47) = Z3 at HE HQ HBZ ⊢
      refine (HIS.out _).mono ?_
      rintro e z4 ⟨rfl, hb4⟩
      have HE2 := hid (below_step HE.out hb4)
      have q0 := (HQ.out.below hb4).cell 0 rfl
      have q1 := (HQ.out.below hb4).cell 1 rfl
      have q2 := (HBZ.out.below hb4).cell 2 rfl
      clear hb4
      go_wp2
      go_ret
      exact ⟨rfl, HE2.out⟩

set_option maxRecDepth 100000 in
theorem lawStamps_lifted (os : Os) (started : os.Started) (H : Type) (enc : TypeId × Value → H) :
    ReturnsInHanded {} Try.checked os 9 .any (Rows.fnStampsSpec.pre6 enc Try.prog Try.f9 Rows.fnStampsRow.domain false) (Rows.fnStampsSpec.post enc Try.prog Try.f9 false true false false) := by
  refine returnsInHanded_of_change (C := Try.checked) Try.own started (by kernel_rfl) Try.func9
    (ChangeSpec.witness6 (enc := enc) (C := Try.checked) false ⟨#[], #[.slice none 0 0], []⟩ 8 (by kernel_rfl) (by kernel_rfl) (by kernel_rfl) (by kernel_rfl)) ?_
  intro W base args ds gs before hval0 hW hcnd _
  have hval : ∀ (j : Nat) t v, Try.f9.params[j]? = some t → args[j]? = some v → Value.okWide Try.prog W .any base t v := hval0
  have hW' := hW
  obtain ⟨p, q, hA0, hV, rfl, hfz, hnd⟩ := hW
  have hA : DataW.TrodAll enc Try.prog W 0 (fun _ => true) true Try.f9.params.toList args.toList ds p := hA0
  rw [Try.params9] at hA hval
  obtain ⟨v0, d0, rfl, rfl, h0⟩ := trodAll_one hA
  obtain ⟨rfl, rfl⟩ := trodVars_none hV
  obtain ⟨n, hB0⟩ := open_bytes Try.underlying41 Try.underlying5 (by kernel_rfl) (hval 0 41 v0 rfl rfl) h0
  refine (lawStamps_any W hB0).mono fun e W' ⟨he, hb⟩ => ?_
  subst he
  exact ⟨_, rfl, post_true hW' rfl Try.laidOut (by kernel_rfl) rfl Try.underlying4 rfl hb⟩

theorem lawStamps_holds : Rows.FnStampsSaid :=
  OpenClaim.holds_of_wide 9 Try.f9 rfl rfl rfl rfl rfl rfl rfl ⟨rfl, rfl, rfl, rfl, rfl⟩ rfl rfl rfl rfl rfl (by kernel_rfl) Try.func9 (by kernel_rfl)
    (of_decide_eq_true (by kernel_rfl)) (by unfold Func.isWrapper; first | (rw [if_pos (by decide +kernel)]; kernel_rfl) | (rw [if_neg (by decide +kernel)]; exact ⟨rfl, rfl⟩))
    (fun os started H enc _ => lawStamps_lifted os started H enc)end Go.Proofs.Ytkdpfbodmfjkkaa
