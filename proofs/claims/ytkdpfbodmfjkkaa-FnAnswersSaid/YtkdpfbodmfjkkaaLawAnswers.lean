/- The law FnAnswers is true of every input. No condition. -/
import Derived.Test.YtkdpfbodmfjkkaaRows
import Derived.Test.YtkdpfbodmfjkkaaBase
import Derived.Test.YtkdpfbodmfjkkaaOpen
import Derived.Test.YtkdpfbodmfjkkaaPlain
import Derived.Test.YtkdpfbodmfjkkaaPlainAnswers
import Derived.Test.YtkdpfbodmfjkkaaAnswers
import Derived.Test.YtkdpfbodmfjkkaaMakeStatus
import Derived.Test.YtkdpfbodmfjkkaaCheckStatus
import Derived.Test.YtkdpfbodmfjkkaaDrawAnswers
import Derived.Test.YtkdpfbodmfjkkaaBig
import Derived.Test.YtkdpfbodmfjkkaaBox
import Derived.Deep.DeepCutAuto
namespace Go.Proofs.Ytkdpfbodmfjkkaa
open Go.ChangeShapes Go.WideShapes Go.ChangeAt Go.RowKit Go.Deep

theorem sizeStatus (W : World) : (sizeOf (Try.prog.elem 84)).run Try.prog W = .ok 5 W := by kernel_rfl
theorem elemStatus : Try.prog.underlying 84 = some (.slice (Try.prog.elem 84)) := by kernel_rfl
theorem ansOk_of {ks : List (List Int)} (h : ∀ r ∈ ks, StRow r) : AnsOk ks ks.length := by
  intro k hk
  obtain ⟨a0, a1, a2, a3, a4, he, h1, h2⟩ := h ks[k] (List.getElem_mem hk)
  have e1 : fld ks k 1 = a1 := by simp [fld, List.getD, List.getElem?_eq_getElem hk, he]
  have e2 : fld ks k 2 = a2 := by simp [fld, List.getD, List.getElem?_eq_getElem hk, he]
  rw [e1, e2]
  exact ⟨h1, h2⟩
theorem strow_len {ks : List (List Int)} (h : ∀ r ∈ ks, StRow r) : ∀ r ∈ ks, r.length = 5 := by
  intro r hr
  obtain ⟨_, _, _, _, _, rfl, -⟩ := h r hr
  rfl
set_option maxRecDepth 16000 in
set_option maxHeartbeats 40000000 in
theorem lawAnswers_any {n : Nat} {v : Value} (w : World) (hv : Bytes w.heap.size w v n) :
    Calls Try.prog 7 #[v] w (Ret (.bool true) w) := by
  have HV := hid hv
  obtain ⟨A, c, rfl, hc1, hc2, -⟩ := hv
  by_cases hn : n ≤ 1048576
  rotate_left
  · go_enter Try.func7, Try.ntmps7
    go_wp2_with fail
    refine (big_yes _ hn (by omega)).mono ?_
    rintro e w1 ⟨rfl, rfl⟩
    go_wp2
    go_ret
    exact ⟨rfl, Below.refl _ _⟩
  go_enter Try.func7, Try.ntmps7
  go_wp2_with fail
  refine (big_no _ hn).mono ?_
  rintro e w1 ⟨rfl, rfl⟩
  go_wp2_with fail
  refine (DrawIsAgreed_any _ HV.out hn).mono ?_
  rintro e w1 ⟨u, ks, s, rfl, h2, hl4, ho1, hb1⟩
  have HSl := hid (ho1.sl (strow_len h2))
  have HB1 := hid hb1
  have HLAW := hid (answers_law (s := s) (ansOk_of h2))
  clear ho1 hb1 h2
  obtain ⟨A1, c1, rfl, hd1, hd2, -⟩ := id HSl.out
  go_wp2_with fail
  refine (implGoodUntil_any _ _ HSl.out (Nat.le_refl _)).mono ?_
  rintro e w2 ⟨rfl, hb2⟩
  have HB2 := hid hb2
  clear hb2
  go_wp2_with fail
  refine (implBadFrom_any _ _ (HSl.out.below HB2.out (Nat.le_refl _)) HB2.out.size).mono ?_
  rintro e w3 ⟨rfl, hb3⟩
  have HB3 := hid (below_step HB2.out hb3)
  clear hb3 HB2
  obtain ⟨⟨g1, g2, g3⟩, -⟩ := HLAW.out
  generalize hgU : goodUntil ks s = gU at g1 ⊢
  generalize hbF : badFrom ks s = bF at g1 g2 g3 ⊢
  have HT3 := hid (below_step HB1.out HB3.out)
  go_wp2_with fail
  refine (DrawMakeStatus_any _ ((HV.out.below HT3.out (Nat.le_refl _)).mono HT3.out.size) hn).mono ?_
  rintro e w4 ⟨u4, ms, a0, a1, a2, a3, a4, rfl, hm2, hml, hom, hb4⟩
  have HT4 := hid (below_step HT3.out hb4)
  have HB4 := hid hb4
  have HM4 := hid ((hom.sl hm2).below (below_alloc w4 (.cells #[iv a0, iv a1, iv a2, iv a3, iv a4] 89)) (Nat.le_refl _))
  have HTA := hid (below_step HT4.out (below_alloc w4 (.cells #[iv a0, iv a1, iv a2, iv a3, iv a4] 89)))
  have hzA : w4.heap.size ≤ (w4.alloc (.cells #[iv a0, iv a1, iv a2, iv a3, iv a4] 89)).heap.size := (below_alloc w4 (.cells #[iv a0, iv a1, iv a2, iv a3, iv a4] 89)).size
  clear hb4 hom hm2
  by_cases hno : statusB a0 a1 a2 a3 a4 = false ∨ findI 0 a3 ms = -1
  · skip
    go_wp2_with fail
    refine (implMakeStatus_any_no a0 a1 a2 a3 a4 _ HM4.out hzA hno).mono ?_
    rintro e w5 ⟨rfl, hb5⟩
    have HX5 := hid (below_step (below_step (below_step HB3.out HB4.out) (below_alloc w4 (.cells #[iv a0, iv a1, iv a2, iv a3, iv a4] 89))) (hb5.alloc hb5.size (.cells #[iv 0, iv 0, iv 0, iv 0, iv 0] 89)))
    clear hb5
    have HS5 := hid (HSl.out.below (HX5.out) (Nat.le_refl _))
    cases hag : agreedB ks s
    · skip
      have HA : Hid (∀ W : World, Sl w1.heap.size W 5 (.slice A1 ks.length c1) ks → w1.heap.size ≤ W.heap.size → Calls Try.prog 61 #[.slice A1 ks.length c1, iv s] W (Ret (.bool false) W)) := hid fun W q1 q2 => by rw [← hag]; exact implIsAgreed_any _ W q1 q2
      go_wp2_with fail
      refine (HA.out _ HS5.out HX5.out.size).mono ?_
      rintro e w6 ⟨rfl, hb6⟩
      have HX6 := hid (below_step HX5.out hb6)
      clear hb6 HA
      go_wp2
      go_ret
      exact ⟨rfl, below_step HB1.out HX6.out⟩
    · skip
      have HA : Hid (∀ W : World, Sl w1.heap.size W 5 (.slice A1 ks.length c1) ks → w1.heap.size ≤ W.heap.size → Calls Try.prog 61 #[.slice A1 ks.length c1, iv s] W (Ret (.bool true) W)) := hid fun W q1 q2 => by rw [← hag]; exact implIsAgreed_any _ W q1 q2
      have HPART := hid (HLAW.out.2 hag)
      go_wp2_with fail
      refine (HA.out _ HS5.out HX5.out.size).mono ?_
      rintro e w6 ⟨rfl, hb6⟩
      have HX6 := hid (below_step HX5.out hb6)
      clear hb6 HA
      go_wp2
      go_loopw [11] (fun t wr => ∃ k : Nat, k ≤ ks.length ∧ t = .int .i64 k ∧ Below w1.heap.size w1 wr) (fun t _ => ks.length - (intOf t).toNat)
      case atStart => exact ⟨0, Nat.zero_le _, rfl, HX6.out⟩
      case round =>
        obtain ⟨k, hk, rfl, hb⟩ := hrel
        have HXR := hid hb
        clear hb
        by_cases hlt : k < ks.length
        rotate_left
        · go_wp2
          go_ret
          exact ⟨rfl, below_step HB1.out HXR.out⟩
        obtain ⟨X, hr1, hs1⟩ := slice_head (P := Try.prog) (t := 84) elemStatus sizeStatus HSl.out hk
        obtain ⟨p1, p2, p3⟩ := HPART.out k hk
        have hi1 : (k : Int) < (ks.length : Int) := by omega
        have HI : Hid (∀ W : World, Below w1.heap.size w1 W → Calls Try.prog 61 #[X, iv s] W (Ret (.bool true) W)) := hid fun W q1 => by rw [← p1]; exact implIsAgreed_any _ W (hs1.below q1 (Nat.le_refl _)) q1.size
        have HG : Hid (∀ W : World, Below w1.heap.size w1 W → Calls Try.prog 55 #[X, iv s] W (Ret (iv (goodUntil (ks.take k) s)) W)) := hid fun W q1 => implGoodUntil_any _ W (hs1.below q1 (Nat.le_refl _)) q1.size
        have HF : Hid (∀ W : World, Below w1.heap.size w1 W → Calls Try.prog 56 #[X, iv s] W (Ret (iv (badFrom (ks.take k) s)) W)) := hid fun W q1 => implBadFrom_any _ W (hs1.below q1 (Nat.le_refl _)) q1.size
        rw [hgU] at p2
        rw [hbF] at p3
        generalize goodUntil (ks.take k) s = gk at p2 HG
        generalize badFrom (ks.take k) s = bk at p3 HF
        clear hs1 p1
        go_wp2_with fail
        refine (HI.out _ HXR.out).mono ?_
        rintro e w7 ⟨rfl, hb7⟩
        have HX7 := hid (below_step HXR.out hb7)
        clear hb7
        go_wp2_with fail
        refine (HG.out _ HX7.out).mono ?_
        rintro e w8 ⟨rfl, hb8⟩
        have HX8 := hid (below_step HX7.out hb8)
        clear hb8
        go_wp2_with fail
        refine (HF.out _ HX8.out).mono ?_
        rintro e w9 ⟨rfl, hb9⟩
        have HX9 := hid (below_step HX8.out hb9)
        clear hb9
        go_wp2
        go_roundw
        case rel => exact ⟨k + 1, by omega, by go_num, HX9.out⟩
        case measure => simp [intOf]; omega
  · skip
    rcases findI_range 0 a3 ms with hf | ⟨k, hk, hf, -⟩
    · exact absurd (.inr hf) hno
    have hst : statusB a0 a1 a2 a3 a4 = true := by cases hs : statusB a0 a1 a2 a3 a4 with | false => exact absurd (.inl hs) hno | true => rfl
    have hck : checkStatusB ms a0 a1 a2 a3 (markW (fld ms k 2) (fld ms k 4) [102, a0, a1, a2, a3]) = true := by
      unfold checkStatusB
      rw [show statusB a0 a1 a2 a3 (markW (fld ms k 2) (fld ms k 4) [102, a0, a1, a2, a3]) = true from hst, ← checkMarkB_some hf]
      simp
    have HMK : Hid (∀ W : World, Sl w4.heap.size W 5 u4 ms → w4.heap.size ≤ W.heap.size → Calls Try.prog 58 #[u4, .agg #[iv a0, iv a1, iv a2, iv a3, iv a4]] W (Ret (.tuple #[.agg #[iv a0, iv a1, iv a2, iv a3, iv (markW (fld ms k 2) (fld ms k 4) [102, a0, a1, a2, a3])], .bool true]) W)) := hid fun W q1 q2 => implMakeStatus_any_yes a0 a1 a2 a3 a4 W q1 q2 hst k hk hf
    generalize markW (fld ms k 2) (fld ms k 4) [102, a0, a1, a2, a3] = m at hck HMK
    have HCK : Hid (∀ W : World, Sl w4.heap.size W 5 u4 ms → w4.heap.size ≤ W.heap.size → Calls Try.prog 59 #[u4, .agg #[iv a0, iv a1, iv a2, iv a3, iv m]] W (Ret (.bool true) W)) := hid fun W q1 q2 => by rw [← hck]; exact implCheckStatus_any _ _ _ _ _ W q1 q2
    have HIS : Hid (∀ W : World, Calls Try.prog 60 #[.agg #[iv a0, iv a1, iv a2, iv a3, iv m]] W (Ret (.bool true) W)) := hid fun W => by rw [← (show statusB a0 a1 a2 a3 m = true from hst)]; exact implIsStatus_any _ _ _ _ _ W
    clear hck hst hf hk hno
    go_wp2_with fail
    refine (HMK.out _ HM4.out hzA).mono ?_
    rintro e w5 ⟨rfl, hb5⟩
    have HM5 := hid ((HM4.out.below hb5 hzA).below (below_alloc w5 (.cells #[iv a0, iv a1, iv a2, iv a3, iv m] 89)) (Nat.le_trans hzA hb5.size))
    have hz5 : w4.heap.size ≤ (w5.alloc (.cells #[iv a0, iv a1, iv a2, iv a3, iv m] 89)).heap.size := Nat.le_trans (Nat.le_trans hzA hb5.size) (below_alloc w5 (.cells #[iv a0, iv a1, iv a2, iv a3, iv m] 89)).size
    have HY5 := hid (hb5.alloc hb5.size (.cells #[iv a0, iv a1, iv a2, iv a3, iv m] 89))
    clear hb5
    go_wp2_with fail
    refine (HCK.out _ HM5.out hz5).mono ?_
    rintro e w6 ⟨rfl, hb6⟩
    obtain ⟨hc6, hf6⟩ := bcell hb6
    have q0 : w5.heap.size < (w5.alloc (.cells #[iv a0, iv a1, iv a2, iv a3, iv m] 89)).heap.size := by simp
    have HY6 := hid (below_step HY5.out hb6)
    have c0 : w6.cell? ⟨w5.heap.size, 0, none⟩ = some (iv a0) := (hc6 _ _ q0).trans (by simp [go_sem])
    have c1 : w6.cell? ⟨w5.heap.size, 1, none⟩ = some (iv a1) := (hc6 _ _ q0).trans (by simp [go_sem])
    have c2 : w6.cell? ⟨w5.heap.size, 2, none⟩ = some (iv a2) := (hc6 _ _ q0).trans (by simp [go_sem])
    have c3 : w6.cell? ⟨w5.heap.size, 3, none⟩ = some (iv a3) := (hc6 _ _ q0).trans (by simp [go_sem])
    have c4 : w6.cell? ⟨w5.heap.size, 4, none⟩ = some (iv m) := (hc6 _ _ q0).trans (by simp [go_sem])
    clear hb6 hc6 hf6
    go_wp2_with fail
    refine (HIS.out _).mono ?_
    rintro e w7 ⟨rfl, hb7⟩
    have HX5 := hid (below_step (below_step (below_step HB3.out HB4.out) (below_alloc w4 (.cells #[iv a0, iv a1, iv a2, iv a3, iv a4] 89))) (below_step HY6.out hb7))
    clear hb7 c0 c1 c2 c3 c4
    have HS5 := hid (HSl.out.below (HX5.out) (Nat.le_refl _))
    cases hag : agreedB ks s
    · skip
      have HA : Hid (∀ W : World, Sl w1.heap.size W 5 (.slice A1 ks.length c1) ks → w1.heap.size ≤ W.heap.size → Calls Try.prog 61 #[.slice A1 ks.length c1, iv s] W (Ret (.bool false) W)) := hid fun W q1 q2 => by rw [← hag]; exact implIsAgreed_any _ W q1 q2
      go_wp2_with fail
      refine (HA.out _ HS5.out HX5.out.size).mono ?_
      rintro e w6 ⟨rfl, hb6⟩
      have HX6 := hid (below_step HX5.out hb6)
      clear hb6 HA
      go_wp2
      go_ret
      exact ⟨rfl, below_step HB1.out HX6.out⟩
    · skip
      have HA : Hid (∀ W : World, Sl w1.heap.size W 5 (.slice A1 ks.length c1) ks → w1.heap.size ≤ W.heap.size → Calls Try.prog 61 #[.slice A1 ks.length c1, iv s] W (Ret (.bool true) W)) := hid fun W q1 q2 => by rw [← hag]; exact implIsAgreed_any _ W q1 q2
      have HPART := hid (HLAW.out.2 hag)
      go_wp2_with fail
      refine (HA.out _ HS5.out HX5.out.size).mono ?_
      rintro e w6 ⟨rfl, hb6⟩
      have HX6 := hid (below_step HX5.out hb6)
      clear hb6 HA
      go_wp2
      go_loopw [11] (fun t wr => ∃ k : Nat, k ≤ ks.length ∧ t = .int .i64 k ∧ Below w1.heap.size w1 wr) (fun t _ => ks.length - (intOf t).toNat)
      case atStart => exact ⟨0, Nat.zero_le _, rfl, HX6.out⟩
      case round =>
        obtain ⟨k, hk, rfl, hb⟩ := hrel
        have HXR := hid hb
        clear hb
        by_cases hlt : k < ks.length
        rotate_left
        · go_wp2
          go_ret
          exact ⟨rfl, below_step HB1.out HXR.out⟩
        obtain ⟨X, hr1, hs1⟩ := slice_head (P := Try.prog) (t := 84) elemStatus sizeStatus HSl.out hk
        obtain ⟨p1, p2, p3⟩ := HPART.out k hk
        have hi1 : (k : Int) < (ks.length : Int) := by omega
        have HI : Hid (∀ W : World, Below w1.heap.size w1 W → Calls Try.prog 61 #[X, iv s] W (Ret (.bool true) W)) := hid fun W q1 => by rw [← p1]; exact implIsAgreed_any _ W (hs1.below q1 (Nat.le_refl _)) q1.size
        have HG : Hid (∀ W : World, Below w1.heap.size w1 W → Calls Try.prog 55 #[X, iv s] W (Ret (iv (goodUntil (ks.take k) s)) W)) := hid fun W q1 => implGoodUntil_any _ W (hs1.below q1 (Nat.le_refl _)) q1.size
        have HF : Hid (∀ W : World, Below w1.heap.size w1 W → Calls Try.prog 56 #[X, iv s] W (Ret (iv (badFrom (ks.take k) s)) W)) := hid fun W q1 => implBadFrom_any _ W (hs1.below q1 (Nat.le_refl _)) q1.size
        rw [hgU] at p2
        rw [hbF] at p3
        generalize goodUntil (ks.take k) s = gk at p2 HG
        generalize badFrom (ks.take k) s = bk at p3 HF
        clear hs1 p1
        go_wp2_with fail
        refine (HI.out _ HXR.out).mono ?_
        rintro e w7 ⟨rfl, hb7⟩
        have HX7 := hid (below_step HXR.out hb7)
        clear hb7
        go_wp2_with fail
        refine (HG.out _ HX7.out).mono ?_
        rintro e w8 ⟨rfl, hb8⟩
        have HX8 := hid (below_step HX7.out hb8)
        clear hb8
        go_wp2_with fail
        refine (HF.out _ HX8.out).mono ?_
        rintro e w9 ⟨rfl, hb9⟩
        have HX9 := hid (below_step HX8.out hb9)
        clear hb9
        go_wp2
        go_roundw
        case rel => exact ⟨k + 1, by omega, by go_num, HX9.out⟩
        case measure => simp [intOf]; omega

set_option maxRecDepth 100000 in
theorem lawAnswers_lifted (os : Os) (started : os.Started) (H : Type) (enc : TypeId × Value → H) :
    ReturnsInHanded {} Try.checked os 7 .any (Rows.fnAnswersSpec.pre6 enc Try.prog Try.f7 Rows.fnAnswersRow.domain false) (Rows.fnAnswersSpec.post enc Try.prog Try.f7 false true false false) := by
  refine returnsInHanded_of_change (C := Try.checked) Try.own started (by kernel_rfl) Try.func7
    (ChangeSpec.witness6 (enc := enc) (C := Try.checked) false ⟨#[], #[.slice none 0 0], []⟩ 8 (by kernel_rfl) (by kernel_rfl) (by kernel_rfl) (by kernel_rfl)) ?_
  intro W base args ds gs before hval0 hW hcnd _
  have hval : ∀ (j : Nat) t v, Try.f7.params[j]? = some t → args[j]? = some v → Value.okWide Try.prog W .any base t v := hval0
  have hW' := hW
  obtain ⟨p, q, hA0, hV, rfl, hfz, hnd⟩ := hW
  have hA : DataW.TrodAll enc Try.prog W 0 (fun _ => true) true Try.f7.params.toList args.toList ds p := hA0
  rw [Try.params7] at hA hval
  obtain ⟨v0, d0, rfl, rfl, h0⟩ := trodAll_one hA
  obtain ⟨rfl, rfl⟩ := trodVars_none hV
  obtain ⟨n, hB0⟩ := open_bytes Try.underlying41 Try.underlying5 (by kernel_rfl) (hval 0 41 v0 rfl rfl) h0
  refine (lawAnswers_any W hB0).mono fun e W' ⟨he, hb⟩ => ?_
  subst he
  exact ⟨_, rfl, post_true hW' rfl Try.laidOut (by kernel_rfl) rfl Try.underlying4 rfl hb⟩

theorem lawAnswers_holds : Rows.FnAnswersSaid :=
  OpenClaim.holds_of_wide 7 Try.f7 rfl rfl rfl rfl rfl rfl rfl ⟨rfl, rfl, rfl, rfl, rfl⟩ rfl rfl rfl rfl rfl (by kernel_rfl) Try.func7 (by kernel_rfl)
    (of_decide_eq_true (by kernel_rfl)) (by unfold Func.isWrapper; first | (rw [if_pos (by decide +kernel)]; kernel_rfl) | (rw [if_neg (by decide +kernel)]; exact ⟨rfl, rfl⟩))
    (fun os started H enc _ => lawAnswers_lifted os started H enc)end Go.Proofs.Ytkdpfbodmfjkkaa
