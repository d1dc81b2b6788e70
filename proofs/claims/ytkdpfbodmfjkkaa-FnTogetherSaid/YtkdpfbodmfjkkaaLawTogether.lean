/- The law FnTogether is true of every input. No condition. -/
import Derived.Test.YtkdpfbodmfjkkaaRows
import Derived.Test.YtkdpfbodmfjkkaaBase
import Derived.Test.YtkdpfbodmfjkkaaOpen
import Derived.Test.YtkdpfbodmfjkkaaPlain
import Derived.Test.YtkdpfbodmfjkkaaAppend
import Derived.Test.YtkdpfbodmfjkkaaApart
import Derived.Test.YtkdpfbodmfjkkaaBlk
import Derived.Test.YtkdpfbodmfjkkaaHas
import Derived.Test.YtkdpfbodmfjkkaaIsSignRule
import Derived.Test.YtkdpfbodmfjkkaaCheckSignature
import Derived.Test.YtkdpfbodmfjkkaaSignatureOf
import Derived.Test.YtkdpfbodmfjkkaaMissing
import Derived.Test.YtkdpfbodmfjkkaaMeetsRule
import Derived.Test.YtkdpfbodmfjkkaaBeforeFor
import Derived.Test.YtkdpfbodmfjkkaaPlainTogether
import Derived.Test.YtkdpfbodmfjkkaaDrawCase
import Derived.Test.YtkdpfbodmfjkkaaBig
import Derived.Test.YtkdpfbodmfjkkaaBox
import Derived.Deep.DeepCutAuto
namespace Go.Proofs.Ytkdpfbodmfjkkaa
open Go.ChangeShapes Go.WideShapes Go.ChangeAt Go.RowKit Go.Deep

/-- All that the law asks of the owners that are missing, of the next one and of the rule. -/
def Asked (ks ls : List (List Int)) (os ms : List Int) (q : Bool) (d nx bf : Int) (mt rb : Bool) : Prop :=
  (ms.length = 0 → nx = -1) ∧ (0 < ms.length → 0 ≤ nx ∧ nth ms 0 = nx ∧ mt = false) ∧ (mt = true → rb = true) ∧ (ms.length = 0 → q = false → mt = rb) ∧ (∀ i, i < os.length → hasB (nth os i) ms = decide (sigOf ks ls (nth os i) d < 0)) ∧ (nx < 0 → bf = 0)
theorem asked (ks ls : List (List Int)) (os : List Int) (q : Bool) (d : Int) (ho : ∀ o ∈ os, 0 ≤ o) : Asked ks ls os (missI ks ls os d os.length) q d (nextOw ks ls os d) (beforeI ks ls os q d 3) (meetsB ks ls os q d) (ruleB os) := by
  refine ⟨fun h => (nextOw_none h).symm, fun h => ⟨next_pos ho h, nextOw_some h, (miss_some h).symm⟩, fun h => ?_, fun h hq => ?_, fun i hi => has_miss hi, fun h => (bef_no 3 (.inr (.inl h))).symm⟩
  · cases hr : ruleB os with
    | true => rfl
    | false => rw [← meets_rule hr] at h; cases h
  · subst hq; exact meets_free h
set_option maxRecDepth 90000 in
set_option maxHeartbeats 40000000 in
theorem lawTogether_any {n : Nat} {v : Value} (w : World) (hv : Bytes w.heap.size w v n) :
    Calls Try.prog 14 #[v] w (Ret (.bool true) w) := by
  have HV := hid hv
  obtain ⟨A0, c0, rfl, hc1, hc2, -⟩ := hv
  by_cases hn : n ≤ 1048576
  rotate_left
  · go_enter Try.func14, Try.ntmps14
    go_wp2_with fail
    refine (big_yes _ hn (by omega)).mono ?_
    rintro e w1 ⟨rfl, rfl⟩
    go_wp2
    go_ret
    exact ⟨rfl, Below.refl _ _⟩
  go_enter Try.func14, Try.ntmps14
  go_wp2_with fail
  refine (big_no _ hn).mono ?_
  rintro e w1 ⟨rfl, rfl⟩
  go_wp2_with fail
  refine (DrawMeetsRule_any _ HV.out hn).mono ?_
  rintro e w1 ⟨KV, LV, A, qo, os, q, ls, d, rfl, hos, hol, hll, hrl, hke, hoo, hlo, hb1⟩
  have HB0 := hid (below_step hb1 (below_alloc w1 (.cells #[.slice A os.length qo, .bool q] 33)))
  have HK := hid ((Own.sl (ks := keys10) hke keys10_len).step (below_alloc w1 (.cells #[.slice A os.length qo, .bool q] 33)))
  have HO := hid ((Own.si hoo).step (below_alloc w1 (.cells #[.slice A os.length qo, .bool q] 33)))
  have HL := hid ((Own.sl hlo hrl).step (below_alloc w1 (.cells #[.slice A os.length qo, .bool q] 33)))
  have HX := hid (Blk.new w1 #[.slice A os.length qo, .bool q] 33)
  have HASK := hid (asked keys10 ls os q d hos)
  clear hos hrl hke hoo hlo hb1 HV
  generalize keys10 = ks at HK HASK
  obtain ⟨AK, cK, rfl, -, -, -⟩ := id HK.out
  obtain ⟨AL, cL, rfl, -, -, -⟩ := id HL.out
  go_wp2_with fail
  generalize w1.alloc (.cells #[.slice A os.length qo, .bool q] 33) = Wb at HB0 HK HO HL HX ⊢
  refine (implMissingOwners_any q d Wb HK.out HO.out HL.out (Nat.le_refl _) (by omega)).mono ?_
  rintro e w2 ⟨v2, rfl, ho2, hb2⟩
  generalize missI ks ls os d os.length = ms at HASK ho2
  obtain ⟨AM, cM, rfl⟩ := ownsRow_form ho2.1
  have HM2 := hid (Own.si ho2)
  have HB2 := hid hb2
  have hz2 := hb2.size
  have x0 := (HX.out.below hb2).cell 0 rfl
  have x1 := (HX.out.below hb2).cell 1 rfl
  clear ho2 hb2
  go_wp2_with fail
  refine (implNextOwner_any q d w2 (HK.out.below HB2.out (Nat.le_refl _)) (HO.out.below HB2.out (Nat.le_refl _)) (HL.out.below HB2.out (Nat.le_refl _)) HB2.out.size (by omega)).mono ?_
  rintro e w3 ⟨rfl, hb3⟩
  generalize nextOw ks ls os d = nx at HASK ⊢
  have HB3 := hid (below_step HB2.out hb3)
  have HM3 := hid (HM2.out.below hb3 (Nat.le_refl _))
  have hz3 := hb3.size
  clear hb3 HB2 HM2 x0 x1
  have x0 := (HX.out.below HB3.out).cell 0 rfl
  have x1 := (HX.out.below HB3.out).cell 1 rfl
  go_wp2_with fail
  refine (implMeetsRule_any q d w3 (HK.out.below HB3.out (Nat.le_refl _)) (HO.out.below HB3.out (Nat.le_refl _)) (HL.out.below HB3.out (Nat.le_refl _)) HB3.out.size (by omega)).mono ?_
  rintro e w4 ⟨rfl, hb4⟩
  generalize meetsB ks ls os q d = mt at HASK ⊢
  have HB4 := hid (below_step HB3.out hb4)
  have HM4 := hid (HM3.out.below hb4 hz3)
  have hz4 := hb4.size
  clear hb4 HB3 HM3 x0 x1
  have HSR : Hid (∀ W : World, Below Wb.heap.size Wb W → Calls Try.prog 92 #[.agg #[.slice A os.length qo, .bool q]] W (Ret (.bool (ruleB os)) W)) := hid fun W hx => implIsSignRule_any q W (HO.out.below hx (Nat.le_refl _)) hx.size
  have HBF : Hid (∀ W : World, Below Wb.heap.size Wb W → Calls Try.prog 89 #[.slice AK ks.length cK, .agg #[.slice A os.length qo, .bool q], .slice AL ls.length cL, iv d, iv 3] W (Ret (iv (beforeI ks ls os q d 3)) W)) := hid fun W hx => implBeforeFor_any q d 3 W (HK.out.below hx (Nat.le_refl _)) (HO.out.below hx (Nat.le_refl _)) (HL.out.below hx (Nat.le_refl _)) hx.size (by omega)
  generalize ruleB os = rb at HASK HSR
  generalize beforeI ks ls os q d 3 = bf at HASK HBF
  obtain ⟨p1, p2, p3, p4, p5, p6⟩ := HASK.out
  have P5 := hid p5
  have P6 := hid p6
  have P4 := hid p4
  clear p4 p5 p6 HASK
  have x0 := (HX.out.below HB4.out).cell 0 rfl
  have x1 := (HX.out.below HB4.out).cell 1 rfl
  have hxl := (HX.out.below HB4.out).lt
  have hm0 : (0 : Int) ≤ (ms.length : Int) := Int.natCast_nonneg _
  go_upto_region 7 with fail
  go_cut [65] (fun s65 wx => s65 = .bool false ∧ Below w4.heap.size w4 wx)
  case first =>
    by_cases h0 : ms.length = 0
    · have hnx := p1 h0
      subst hnx
      have hms : ms = [] := List.eq_nil_of_length_eq_zero h0
      subst hms
      clear p1 p2 h0 hm0
      cases mt
      · clear p3
        go_wp2_with fail
        go_meet
        exact ⟨rfl, Below.refl _ _⟩
      · have hrb := p3 rfl
        subst hrb
        clear p3
        go_wp2_with fail
        refine (HSR.out w4 HB4.out).mono ?_
        rintro e w5 ⟨rfl, hb5⟩
        have HB5 := hid hb5
        clear hb5
        go_wp2_with fail
        go_meet
        exact ⟨rfl, HB5.out⟩
    · obtain ⟨hn0, hn1, hmt⟩ := p2 (by omega)
      subst hmt
      obtain ⟨AM', cM', h9, -, -, -, hcm⟩ := HM4.out
      simp only [Value.slice.injEq] at h9
      obtain ⟨rfl, -, rfl⟩ := h9
      obtain ⟨bm, om, rfl, -, hcc⟩ := hcm (by omega)
      have m0 := hcc 0 (by omega)
      rw [hn1, Nat.add_zero] at m0
      have hmp : (0 : Int) < (ms.length : Int) := by omega
      have hmz : ((ms.length : Int) == 0) = false := by rw [beq_eq_false_iff_ne]; omega
      have hnn : decide (nx < 0) = false := by simpa using hn0
      have hng : decide (nx ≥ 0) = true := by simpa using hn0
      clear p1 p2 p3 h0 hcm hcc hn1
      go_wp2_with fail
      go_meet
      exact ⟨rfl, Below.refl _ _⟩
  case rest =>
    obtain ⟨rfl, hbc⟩ := hcut
    have HBc := hid (below_step HB4.out hbc)
    have HMc := hid (HM4.out.below hbc (by omega))
    have hzc := hbc.size
    clear hbc x0 x1 hxl HB4 HM4
    have x0 := (HX.out.below HBc.out).cell 0 rfl
    have x1 := (HX.out.below HBc.out).cell 1 rfl
    have hxl := (HX.out.below HBc.out).lt
    go_upto_region 9 with fail
    go_cut [79] (fun s79 wx => s79 = .bool false ∧ Below wc.heap.size wc wx)
    case first =>
      cases q
      · go_wp2_with fail
        refine (HSR.out wc HBc.out).mono ?_
        rintro e w5 ⟨rfl, hb5⟩
        have HB5 := hid hb5
        clear hb5 x0 x1 hxl
        by_cases h0 : ms.length = 0
        · have hmt := P4.out h0 (by first | rfl | trivial)
          subst hmt
          have hms : ms = [] := List.eq_nil_of_length_eq_zero h0
          subst hms
          clear p1 p2 p3 h0 hm0
          cases mt
          · go_wp2_with fail
            go_meet
            exact ⟨rfl, HB5.out⟩
          · go_wp2_with fail
            go_meet
            exact ⟨rfl, HB5.out⟩
        · obtain ⟨-, -, hmt⟩ := p2 (by omega)
          subst hmt
          have hmz : ((ms.length : Int) == 0) = false := by rw [beq_eq_false_iff_ne]; omega
          clear p1 p2 p3 h0
          cases rb
          · go_wp2_with fail
            go_meet
            exact ⟨rfl, HB5.out⟩
          · go_wp2_with fail
            go_meet
            exact ⟨rfl, HB5.out⟩
      · clear p1 p2 p3
        go_wp2_with fail
        go_meet
        exact ⟨rfl, Below.refl _ _⟩
    case rest =>
      obtain ⟨rfl, hbd⟩ := hcut
      have HBd := hid (below_step HBc.out hbd)
      have HMd := hid (HMc.out.below hbd (by omega))
      have hzd := hbd.size
      clear hbd x0 x1 hxl HBc HMc p1 p2 p3
      have x0 := (HX.out.below HBd.out).cell 0 rfl
      have x1 := (HX.out.below HBd.out).cell 1 rfl
      have hxl := (HX.out.below HBd.out).lt
      go_wp2
      clear x0 x1 hxl
      go_loopw [10] (fun i wr => ∃ k : Nat, k ≤ os.length ∧ i = .int .i64 k ∧ Below wc.heap.size wc wr) (fun i _ => os.length - (intOf i).toNat)
      case atStart => exact ⟨0, Nat.zero_le _, rfl, Below.refl _ _⟩
      case round =>
        obtain ⟨k, hk, rfl, hb⟩ := hrel
        have HBr := hid (below_step HBd.out hb)
        have HMr := hid (HMd.out.below hb (by omega))
        have HC := hid hb
        have hzr := hb.size
        clear hb HBd HMd
        have x0 := (HX.out.below HBr.out).cell 0 rfl
        have x1 := (HX.out.below HBr.out).cell 1 rfl
        have hxl := (HX.out.below HBr.out).lt
        by_cases hlt : k < os.length
        · obtain ⟨A', c', h9, -, -, -, hco⟩ := HO.out
          simp only [Value.slice.injEq] at h9
          obtain ⟨rfl, -, rfl⟩ := h9
          obtain ⟨bo, oo, rfl, hboB, hcc⟩ := hco (by omega)
          have HOC := hid (hcc k hlt)
          have HB9 := hid (P5.out k hlt)
          have HSI := hid (sigOf_range ks ls (nth os k) d)
          have HSG : Hid (∀ W : World, Below Wb.heap.size Wb W → Calls Try.prog 63 #[.slice AK ks.length cK, .slice AL ls.length cL, iv (nth os k), iv d] W (Ret (iv (sigOf ks ls (nth os k) d)) W)) := hid fun W hx => implSignatureOf_any (nth os k) d W (HK.out.below hx (Nat.le_refl _)) (HL.out.below hx (Nat.le_refl _)) hx.size
          have hi0 : (0 : Int) ≤ (k : Int) := Int.natCast_nonneg _
          have hi1 : (k : Int) < (os.length : Int) := by omega
          generalize nth os k = ow at HOC HB9 HSI HSG
          generalize sigOf ks ls ow d = sg at HB9 HSI HSG
          have o0 := cell_at HBr.out hboB (Nat.le_refl _) HOC.out
          clear hco hcc HSR HBF
          go_wp2_with fail
          refine (HSG.out wr HBr.out).mono ?_
          rintro e w5 ⟨rfl, hb5⟩
          have HB5 := hid (below_step HBr.out hb5)
          have HC5 := hid (below_step HC.out hb5)
          have HM5 := hid (HMr.out.below hb5 (by omega))
          have hz5 := hb5.size
          clear hb5 HBr HMr x0 x1 hxl o0 HSG
          have x0 := (HX.out.below HB5.out).cell 0 rfl
          have x1 := (HX.out.below HB5.out).cell 1 rfl
          have hxl := (HX.out.below HB5.out).lt
          have o0 := cell_at HB5.out hboB (Nat.le_refl _) HOC.out
          rcases HSI.out with rfl | ⟨j, hj, rfl, hsig⟩
          · go_wp2_with fail
            refine (contains_any ow w5 HM5.out).mono ?_
            rintro e w6 ⟨rfl, rfl⟩
            rw [HB9.out]
            go_wp2
            go_roundw
            case rel => exact ⟨k + 1, by omega, by go_num, HC5.out⟩
            case measure => simp [intOf]; omega
          · obtain ⟨hck, hd3⟩ := sig_held hsig
            have HCS : Hid (∀ W : World, Below Wb.heap.size Wb W → Calls Try.prog 73 #[.slice AK ks.length cK, .agg #[iv (fld ls j 0), iv (fld ls j 1), iv (fld ls j 2), iv (fld ls j 3), iv (fld ls j 4), iv (fld ls j 5), iv (fld ls j 6), iv (fld ls j 7), iv (fld ls j 8)]] W (Ret (.bool true) W)) := hid fun W hx => by rw [← hck]; exact implCheckSignature_any _ _ _ _ _ _ _ _ _ W (HK.out.below hx (Nat.le_refl _)) hx.size
            obtain ⟨A', c', h9, -, -, -, hcl⟩ := HL.out
            simp only [Value.slice.injEq] at h9
            obtain ⟨rfl, -, rfl⟩ := h9
            obtain ⟨bl, ol, rfl, hblB, hcc⟩ := hcl (by omega)
            have HF : Hid (∀ i, i < 9 → Wb.cell? ⟨bl, ol + j * 9 + i, none⟩ = some (iv (fld ls j i))) := hid fun i hi => hcc j i hj hi
            rw [hd3] at HCS
            clear hcl hcc hsig hck
            have f0 := cell_at HB5.out hblB (Nat.le_refl _) (HF.out 0 (by omega))
            have f1 := cell_at HB5.out hblB (Nat.le_refl _) (HF.out 1 (by omega))
            have f2 := cell_at HB5.out hblB (Nat.le_refl _) (HF.out 2 (by omega))
            have f3 := cell_at HB5.out hblB (Nat.le_refl _) (HF.out 3 (by omega))
            have f4 := cell_at HB5.out hblB (Nat.le_refl _) (HF.out 4 (by omega))
            have f5 := cell_at HB5.out hblB (Nat.le_refl _) (HF.out 5 (by omega))
            have f6 := cell_at HB5.out hblB (Nat.le_refl _) (HF.out 6 (by omega))
            have f7 := cell_at HB5.out hblB (Nat.le_refl _) (HF.out 7 (by omega))
            have f8 := cell_at HB5.out hblB (Nat.le_refl _) (HF.out 8 (by omega))
            rw [Nat.add_zero] at f0
            rw [hd3] at f3
            generalize fld ls j 0 = g0 at HCS f0
            generalize fld ls j 1 = g1 at HCS f1
            generalize fld ls j 2 = g2 at HCS f2
            generalize fld ls j 4 = g4 at HCS f4
            generalize fld ls j 5 = g5 at HCS f5
            generalize fld ls j 6 = g6 at HCS f6
            generalize fld ls j 7 = g7 at HCS f7
            generalize fld ls j 8 = g8 at HCS f8
            have hj0 : (0 : Int) ≤ (j : Int) := Int.natCast_nonneg _
            have hj1 : (j : Int) < (ls.length : Int) := by omega
            have hjn : decide ((j : Int) < 0) = false := by simp
            have hjg : decide ((j : Int) ≥ 0) = true := by simp
            clear hd3 HF
            go_wp2_with fail
            refine (contains_any ow w5 HM5.out).mono ?_
            rintro e w6 ⟨rfl, rfl⟩
            rw [HB9.out]
            go_wp2_with fail
            refine (HCS.out w6 HB5.out).mono ?_
            rintro e w7 ⟨rfl, hb7⟩
            have HC7 := hid (below_step HC5.out hb7)
            have f3 := (hb7.cell (p := ⟨bl, ol + j * 9 + 3, none⟩) (by show bl < _; have := HB5.out.size; omega)).trans f3
            have hbl7 : bl < w7.heap.size := by have := HB5.out.size; have := hb7.size; omega
            clear hb7 f0 f1 f2 f4 f5 f6 f7 f8
            go_wp2
            go_roundw
            case rel => exact ⟨k + 1, by omega, by go_num, HC7.out⟩
            case measure => simp [intOf]; omega
        · obtain rfl : k = os.length := by omega
          by_cases h0 : nx < 0
          · have hbf := P6.out h0
            subst hbf
            have hnn : decide (nx ≥ 0) = false := by simpa using h0
            go_wp2_with fail
            refine (HBF.out wr HBr.out).mono ?_
            rintro e w5 ⟨rfl, hb5⟩
            have HE := hid (below_step HB0.out (below_step HBr.out hb5))
            clear hb5
            go_wp2
            go_ret
            exact ⟨rfl, HE.out⟩
          · have hnn : decide (nx ≥ 0) = true := by simpa using h0
            have HE := hid (below_step HB0.out HBr.out)
            go_wp2
            go_ret
            exact ⟨rfl, HE.out⟩

set_option maxRecDepth 100000 in
theorem lawTogether_lifted (os : Os) (started : os.Started) (H : Type) (enc : TypeId × Value → H) :
    ReturnsInHanded {} Try.checked os 14 .any (Rows.fnTogetherSpec.pre6 enc Try.prog Try.f14 Rows.fnTogetherRow.domain false) (Rows.fnTogetherSpec.post enc Try.prog Try.f14 false true false false) := by
  refine returnsInHanded_of_change (C := Try.checked) Try.own started (by kernel_rfl) Try.func14
    (ChangeSpec.witness6 (enc := enc) (C := Try.checked) false ⟨#[], #[.slice none 0 0], []⟩ 8 (by kernel_rfl) (by kernel_rfl) (by kernel_rfl) (by kernel_rfl)) ?_
  intro W base args ds gs before hval0 hW hcnd _
  have hval : ∀ (j : Nat) t v, Try.f14.params[j]? = some t → args[j]? = some v → Value.okWide Try.prog W .any base t v := hval0
  have hW' := hW
  obtain ⟨p, q, hA0, hV, rfl, hfz, hnd⟩ := hW
  have hA : DataW.TrodAll enc Try.prog W 0 (fun _ => true) true Try.f14.params.toList args.toList ds p := hA0
  rw [Try.params14] at hA hval
  obtain ⟨v0, d0, rfl, rfl, h0⟩ := trodAll_one hA
  obtain ⟨rfl, rfl⟩ := trodVars_none hV
  obtain ⟨n, hB0⟩ := open_bytes Try.underlying41 Try.underlying5 (by kernel_rfl) (hval 0 41 v0 rfl rfl) h0
  refine (lawTogether_any W hB0).mono fun e W' ⟨he, hb⟩ => ?_
  subst he
  exact ⟨_, rfl, post_true hW' rfl Try.laidOut (by kernel_rfl) rfl Try.underlying4 rfl hb⟩

theorem lawTogether_holds : Rows.FnTogetherSaid :=
  OpenClaim.holds_of_wide 14 Try.f14 rfl rfl rfl rfl rfl rfl rfl ⟨rfl, rfl, rfl, rfl, rfl⟩ rfl rfl rfl rfl rfl (by kernel_rfl) Try.func14 (by kernel_rfl)
    (of_decide_eq_true (by kernel_rfl)) (by unfold Func.isWrapper; first | (rw [if_pos (by decide +kernel)]; kernel_rfl) | (rw [if_neg (by decide +kernel)]; exact ⟨rfl, rfl⟩))
    (fun os started H enc _ => lawTogether_lifted os started H enc)
end Go.Proofs.Ytkdpfbodmfjkkaa
