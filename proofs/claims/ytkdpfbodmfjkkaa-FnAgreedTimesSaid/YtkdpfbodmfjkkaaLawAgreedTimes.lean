/- The law FnAgreedTimes is true of every input: whatever spans and liars the bytes draw, a time that enough spans have lies in the agreed span, and the spans that disagree are those that do not meet. No condition. -/
import Derived.Test.YtkdpfbodmfjkkaaRows
import Derived.Test.YtkdpfbodmfjkkaaBase
import Derived.Test.YtkdpfbodmfjkkaaOpen
import Derived.Test.YtkdpfbodmfjkkaaPlain
import Derived.Test.YtkdpfbodmfjkkaaPlainAgreed
import Derived.Test.YtkdpfbodmfjkkaaAgreed
import Derived.Test.YtkdpfbodmfjkkaaCount
import Derived.Test.YtkdpfbodmfjkkaaMeet
import Derived.Test.YtkdpfbodmfjkkaaDisagree
import Derived.Test.YtkdpfbodmfjkkaaDrawAgreed
import Derived.Test.YtkdpfbodmfjkkaaBig
import Derived.Test.YtkdpfbodmfjkkaaBox
import Derived.Deep.DeepCutAuto
namespace Go.Proofs.Ytkdpfbodmfjkkaa
open Go.ChangeShapes Go.WideShapes Go.ChangeAt Go.RowKit Go.Deep

theorem cur_none {ks : List (List Int)} {l : Int} {K : Nat} (h : curB ks l K = false) (k : Nat) (hk : k < K) : supB ks (k : Int) l = false := by
  have h1 : firT ks l K < 0 := by simpa [curB] using h
  rcases firT_spec ks l K with ⟨_, _, h3⟩ | ⟨a, b, h2, _⟩
  · exact h3 k hk
  · omega
theorem cur_some {ks : List (List Int)} {l : Int} {K : Nat} (h : curB ks l K = true) : 0 ≤ curL ks l K ∧ curL ks l K ≤ curR ks l K ∧ curR ks l K < K ∧ supB ks (curL ks l K) l = true ∧ supB ks (curR ks l K) l = true ∧ ∀ k : Nat, k < K → supB ks (k : Int) l = true → curL ks l K ≤ k ∧ (k : Int) ≤ curR ks l K := by
  have h1 : ¬ firT ks l K < 0 := by simpa [curB] using h
  rcases firT_spec ks l K with ⟨h2, _, h3⟩ | ⟨a, b, h2, h3, h4, h5, h6, h7, h8, h9⟩
  · omega
  · have e1 : curL ks l K = a := by unfold curL; rw [if_neg h1]; exact h2
    have e2 : curR ks l K = b := by unfold curR; rw [if_neg h1]; exact h3
    rw [e1, e2]
    refine ⟨by omega, by omega, by omega, h6, h7, fun k hk hs => ?_⟩
    constructor
    · by_cases hka : k < a
      · rw [h8 k hka] at hs; cases hs
      · omega
    · by_cases hkb : b < k
      · rw [h9 k hkb hk] at hs; cases hs
      · omega
theorem ag_none {ks : List (List Int)} {l : Int} (h : agB ks l = false) (k : Nat) (hk : k ≤ 60) : supB ks (k : Int) l = false := cur_none h k (by omega)
theorem ag_some {ks : List (List Int)} {l : Int} (h : agB ks l = true) : 0 ≤ agL ks l ∧ agL ks l ≤ agR ks l ∧ agR ks l ≤ 10000 ∧ supB ks (agL ks l) l = true ∧ supB ks (agR ks l) l = true ∧ ∀ k : Nat, k ≤ 60 → supB ks (k : Int) l = true → agL ks l ≤ k ∧ (k : Int) ≤ agR ks l := by
  obtain ⟨h1, h2, h3, h4, h5, h6⟩ := cur_some h
  exact ⟨h1, h2, by unfold agR; omega, h4, h5, fun k hk => h6 k (by omega)⟩
theorem dis_has {ks : List (List Int)} {x y : Int} {k : Nat} (hk : k < ks.length) : hasB (k : Int) (disI ks x y ks.length) = !meetB (fld ks k 0) (fld ks k 1) x y := by
  have hm : (k : Int) ∈ disI ks x y ks.length ↔ meetB (fld ks k 0) (fld ks k 1) x y = false := by
    unfold disI
    rw [List.mem_map]
    constructor
    · rintro ⟨i, hi, he⟩
      obtain rfl : i = k := by omega
      simpa using (List.mem_filter.1 hi).2
    · intro h
      exact ⟨k, List.mem_filter.2 ⟨List.mem_range.2 hk, by simp [h]⟩, rfl⟩
  rcases idxI_range (k : Int) (disI ks x y ks.length) with h | ⟨i, hi, h, he⟩
  · have : ¬ (k : Int) ∈ disI ks x y ks.length := fun hmem => by
      obtain ⟨i, hi, he⟩ := List.getElem_of_mem hmem
      have hnone : (disI ks x y ks.length).findIdx? (fun r => r == (k : Int)) = none := by
        cases hf : (disI ks x y ks.length).findIdx? (fun r => r == (k : Int)) with
        | none => rfl
        | some j => unfold idxI at h; rw [hf] at h; simp at h
      rw [List.findIdx?_eq_none_iff] at hnone
      have := hnone _ hmem
      simp at this
    rw [hm] at this
    rw [hasB, h]
    simpa using this
  · have : (k : Int) ∈ disI ks x y ks.length := by
      rw [← he, nth, List.getD, List.getElem?_eq_getElem hi]
      exact List.getElem_mem hi
    rw [hm] at this
    rw [hasB, h, this]
    simp

set_option maxRecDepth 16000 in
set_option maxHeartbeats 40000000 in
theorem lawAgreedTimes_any {n : Nat} {v : Value} (w : World) (hv : Bytes w.heap.size w v n) :
    Calls Try.prog 4 #[v] w (Ret (.bool true) w) := by
  have HV := hid hv
  obtain ⟨A, c, rfl, hc1, hc2, -⟩ := hv
  by_cases hn : n ≤ 1048576
  rotate_left
  · go_enter Try.func4, Try.ntmps4
    go_wp2_with fail
    refine (big_yes _ hn (by omega)).mono ?_
    rintro e w1 ⟨rfl, rfl⟩
    go_wp2
    go_ret
    exact ⟨rfl, Below.refl _ _⟩
  go_enter Try.func4, Try.ntmps4
  go_wp2_with fail
  refine (big_no _ hn).mono ?_
  rintro e w1 ⟨rfl, rfl⟩
  go_wp2_with fail
  refine (DrawAgreedSpan_any _ HV.out hn).mono ?_
  rintro e w1 ⟨u, ks, l, rfl, h2, hl6, ho1, hb1⟩
  have HSl := hid (ho1.sl h2)
  have HB1 := hid hb1
  have H2 := hid h2
  clear ho1 hb1 h2
  obtain ⟨A1, c1, rfl, hd1, hd2, -⟩ := id HSl.out
  cases hok : agB ks l
  · skip
    have HA : Hid (∀ W : World, Sl w1.heap.size W 2 (.slice A1 ks.length c1) ks → w1.heap.size ≤ W.heap.size → Calls Try.prog 28 #[.slice A1 ks.length c1, iv l] W (Ret (spanV (agL ks l) (agR ks l) false) W)) := hid fun W g1 g2 => by rw [← hok]; exact implAgreedSpan_any l W g1 g2
    have HF0 := ag_none hok
    clear hok
    generalize agL ks l = aL at HA
    generalize agR ks l = aR at HA
    have HF := hid HF0
    clear HF0
    go_wp2_with fail
    refine (HA.out _ HSl.out (Nat.le_refl _)).mono ?_
    rintro e w2 ⟨rfl, hb2⟩
    have HSb := hid ((HSl.out.below hb2 (Nat.le_refl _)).below (below_alloc w2 (.cells #[iv aL, iv aR] 47)) hb2.size)
    have HBb := hid (below_step (below_step HB1.out hb2) (below_alloc w2 (.cells #[iv aL, iv aR] 47)))
    have HXb := hid (Box2.new w2 aL aR 47)
    have hzb := hid (Nat.le_trans hb2.size (below_alloc w2 (.cells #[iv aL, iv aR] 47)).size)
    clear hb2 HSl HB1
    go_wp2
    go_loopw [7, 8] (fun sm t wr => ∃ (k : Nat) (b : Bool), k ≤ 61 ∧ t = .int .i64 k ∧ sm = .bool b ∧ Hid (b = false) ∧ Below (w2.alloc (.cells #[iv aL, iv aR] 47)).heap.size (w2.alloc (.cells #[iv aL, iv aR] 47)) wr) (fun _ t _ => 61 - (intOf t).toNat)
    case atStart => exact ⟨0, false, by omega, rfl, rfl, hid rfl, Below.refl _ _⟩
    case round =>
      obtain ⟨k, b, hk, rfl, rfl, hbf, hb⟩ := hrel
      have HB := hid hb
      have HX := hid (HXb.out.below hb)
      have HS := hid (HSb.out.below hb (Nat.le_trans hzb.out (Nat.le_refl _)))
      have hzw : Hid (w1.heap.size ≤ wr.heap.size) := hid (Nat.le_trans hzb.out hb.size)
      clear hb
      obtain rfl := hbf.out
      clear hbf
      have hk0 : (0 : Int) ≤ (k : Int) := Int.natCast_nonneg _
      by_cases hlt : k ≤ 60
      rotate_left
      · obtain rfl : k = 61 := by omega
        clear hlt hk hk0
        have HT := hid (below_step HBb.out HB.out)
        go_wp2_with fail
        refine (DrawDisagreeingWith_any _ ((HV.out.below HT.out (Nat.le_refl _)).mono HT.out.size) hn).mono ?_
        rintro e w10 ⟨u2, ms, x, y, rfl, hm2, hml, hom, hb10⟩
        have HT10 := hid (below_step (below_step HT.out hb10) (below_alloc w10 (.cells #[iv x, iv y] 47)))
        have HM10 := hid ((hom.sl hm2).below (below_alloc w10 (.cells #[iv x, iv y] 47)) (Nat.le_refl _))
        have HX10 := hid (Box2.new w10 x y 47)
        clear hb10 hom hm2
        go_wp2_with fail
        refine (implDisagreeingWith_any _ _ _ HM10.out (below_alloc _ _).size (by omega)).mono ?_
        rintro e w11 ⟨d, rfl, hod, hb11⟩
        have HT11 := hid (below_step HT10.out hb11)
        have HM11 := hid ((HM10.out.below hb11 (below_alloc _ _).size).mono (B' := w11.heap.size) (Nat.le_trans (below_alloc w10 (.cells #[iv x, iv y] 47)).size hb11.size))
        have HX11 := hid (HX10.out.below hb11)
        have HD11 := hid (Own.si (zs := disI ms x y ms.length) hod)
        clear hb11 hod
        obtain ⟨A5, c5, rfl, hq1, hq2, -, hcell⟩ := id HM11.out
        have HCM := hid hcell
        clear hcell
        go_wp2
        go_loopw [13] (fun t wr => ∃ k : Nat, k ≤ ms.length ∧ t = .int .i64 k ∧ Below w11.heap.size w11 wr) (fun t _ => ms.length - (intOf t).toNat)
        case atStart => exact ⟨0, Nat.zero_le _, rfl, Below.refl _ _⟩
        case round =>
          obtain ⟨k, hk, rfl, hb⟩ := hrel
          have HBR := hid hb
          by_cases hlt : k < ms.length
          rotate_left
          · clear hb HCM
            go_wp2
            go_ret
            exact ⟨rfl, below_step HT11.out HBR.out⟩
          obtain ⟨b, off, rfl, hbB, hcc⟩ := HCM.out (by omega)
          have c0 := cell_at hb hbB (Nat.le_refl _) (hcc k 0 hlt (by omega))
          have c1 := cell_at hb hbB (Nat.le_refl _) (hcc k 1 hlt (by omega))
          rw [Nat.add_zero] at c0
          obtain ⟨q9, q0, q1, -, -⟩ := HX11.out.below hb
          have hzw : w11.heap.size ≤ wr.heap.size := hb.size
          have hbw : b < wr.heap.size := by omega
          have hi0 : (0 : Int) ≤ (k : Int) := Int.natCast_nonneg _
          have hi1 : (k : Int) < (ms.length : Int) := by omega
          clear hb hcc HCM
          have hr := Below.refl wr.heap.size wr
          have hrA := (hr.alloc (Nat.le_refl _) (.cells #[iv 0, iv 0] 47)).drew
          have HS : Hid (∀ w' : World, Below wr.heap.size wr w' → (w'.cell? ⟨b, off + k * 2, none⟩ = some (iv (fld ms k 0)) ∧ w'.cell? ⟨b, off + k * 2 + 1, none⟩ = some (iv (fld ms k 1)) ∧ w'.cell? ⟨w10.heap.size, 0, none⟩ = some (iv x) ∧ w'.cell? ⟨w10.heap.size, 1, none⟩ = some (iv y))) := hid fun w' hx => ⟨(hx.cell (p := ⟨b, off + k * 2, none⟩) hbw).trans c0, (hx.cell (p := ⟨b, off + k * 2 + 1, none⟩) hbw).trans c1, (hx.cell (p := ⟨w10.heap.size, 0, none⟩) q9).trans q0, (hx.cell (p := ⟨w10.heap.size, 1, none⟩) q9).trans q1⟩
          go_upto_region 20 with fail
          go_cut [15] (fun s15 wx => s15 = .bool (meetB (fld ms k 0) (fld ms k 1) x y) ∧ Below wr.heap.size wr wx)
          case first =>
            go_region_held3 (fun w' => w'.cell? ⟨b, off + k * 2, none⟩ = some (iv (fld ms k 0)) ∧ w'.cell? ⟨b, off + k * 2 + 1, none⟩ = some (iv (fld ms k 1)) ∧ w'.cell? ⟨w10.heap.size, 0, none⟩ = some (iv x) ∧ w'.cell? ⟨w10.heap.size, 1, none⟩ = some (iv y)) (first | with_reducible exact HS.out _ hr.drew | with_reducible exact HS.out _ hrA | with_reducible exact HS.out _ HZ1.out | with_reducible exact HS.out _ (HZ1.out.alloc HZ1.out.size _) | (exact HS.out _ ((HZ1.out.setCell (by simp) _).setCell (by simp) _)) | (exact HS.out _ (((HZ1.out.alloc HZ1.out.size _).setCell HZ1.out.size _).setCell HZ1.out.size _)) | go_keep)
              (first | (go_at_call 34; refine (implMeetSpans_any _ _ _ _ _).mono ?_; rintro e w12 ⟨rfl, hb12⟩; (first | have HZ1 := hid (below_step hr.drew hb12) | have HZ1 := hid (below_step hrA hb12)); (first | (have Q1 := box_step_drew (b := wr.heap.size) rfl hb12; obtain ⟨hzA, hcA, hfA⟩ := Q1) | skip)))
            all_goals (go_wp2_with fail; go_meet; refine ⟨rfl, ?_⟩)
            all_goals (first | exact ((HZ1.out.setCell (by simp) _).setCell (by simp) _) | exact (HZ1.out.alloc HZ1.out.size _) | exact (((HZ1.out.alloc HZ1.out.size _).setCell HZ1.out.size _).setCell HZ1.out.size _))
          case rest =>
            obtain ⟨rfl, hb13⟩ := hcut
            have HB13 := hid (below_step HBR.out hb13)
            have HIN := hid (contains_any (k : Int) wc (HD11.out.below HB13.out (Nat.le_refl _)))
            rw [dis_has hlt] at HIN
            clear hb13 hr hrA HS c0 c1 q0 q1
            cases hmt : meetB (fld ms k 0) (fld ms k 1) x y
            · rw [hmt] at HIN
              clear hmt
              go_wp2_with (go_at_call 35; refine HIN.out.mono ?_; rintro e w14 ⟨rfl, rfl⟩)
              go_roundw
              case rel => exact ⟨k + 1, by omega, by go_num, HB13.out⟩
              case measure => simp [intOf]; omega
            · rw [hmt] at HIN
              clear hmt
              go_wp2_with (go_at_call 35; refine HIN.out.mono ?_; rintro e w14 ⟨rfl, rfl⟩)
              go_roundw
              case rel => exact ⟨k + 1, by omega, by go_num, HB13.out⟩
              case measure => simp [intOf]; omega
      have hkd : (k : Int) ≤ 60 := by omega
      have hcl := cntTo_le ks (k : Int) ks.length
      by_cases hl0 : 0 ≤ l
      rotate_left
      · have hs : supB ks (k : Int) l = false := supB_out (fun h => hl0 h.1)
        have HU : Hid (∀ W : World, Below wr.heap.size wr W → Calls Try.prog 29 #[.slice A1 ks.length c1, iv (k : Int), iv l] W (Ret (.bool false) W)) := hid fun W g2 => by rw [← hs]; exact implIsSupported_any _ l W (HS.out.below g2 hzw.out) (Nat.le_trans hzw.out g2.size)
        clear hs
        go_wp2_with fail
        refine (HU.out _ (Below.refl _ _)).mono ?_
        rintro e w3 ⟨rfl, hb3⟩
        have HB3 := hid hb3
        clear hb3
        go_wp2
        go_roundw
        case rel => exact ⟨k + 1, _, by omega, by go_num, rfl, hid rfl, below_step HB.out HB3.out⟩
        case measure => simp [intOf]; omega
      by_cases hl1 : l < (ks.length : Int)
      rotate_left
      · have hs : supB ks (k : Int) l = false := supB_out (fun h => by omega)
        have HU : Hid (∀ W : World, Below wr.heap.size wr W → Calls Try.prog 29 #[.slice A1 ks.length c1, iv (k : Int), iv l] W (Ret (.bool false) W)) := hid fun W g2 => by rw [← hs]; exact implIsSupported_any _ l W (HS.out.below g2 hzw.out) (Nat.le_trans hzw.out g2.size)
        clear hs
        go_wp2_with fail
        refine (HU.out _ (Below.refl _ _)).mono ?_
        rintro e w3 ⟨rfl, hb3⟩
        have HB3 := hid hb3
        clear hb3
        go_wp2
        go_roundw
        case rel => exact ⟨k + 1, _, by omega, by go_num, rfl, hid rfl, below_step HB.out HB3.out⟩
        case measure => simp [intOf]; omega
      have hin := supB_in (ks := ks) (t := (k : Int)) (liars := l) ⟨hl0, by omega⟩
      cases hs : supB ks (k : Int) l
      · rw [hs] at hin
        have hcm : decide ((ks.length : Int) - l ≤ (cntTo ks (k : Int) ks.length : Nat)) = false := hin.symm
        clear hin
        have HU : Hid (∀ W : World, Below wr.heap.size wr W → Calls Try.prog 29 #[.slice A1 ks.length c1, iv (k : Int), iv l] W (Ret (.bool false) W)) := hid fun W g2 => by rw [← hs]; exact implIsSupported_any _ l W (HS.out.below g2 hzw.out) (Nat.le_trans hzw.out g2.size)
        clear hs
        go_wp2_with fail
        refine (HU.out _ (Below.refl _ _)).mono ?_
        rintro e w3 ⟨rfl, hb3⟩
        have HB3 := hid hb3
        clear hb3
        go_wp2_with fail
        refine (implCountAt_any _ _ (HS.out.below HB3.out hzw.out) (Nat.le_trans hzw.out HB3.out.size)).mono ?_
        rintro e w4 ⟨rfl, hb4⟩
        have HB4 := hid (below_step HB3.out hb4)
        obtain ⟨-, z1, z2, -, -⟩ := HX.out.below (below_step HB3.out hb4)
        clear hb4
        go_wp2
        go_roundw
        case rel => exact ⟨k + 1, _, by omega, by go_num, rfl, hid rfl, below_step HB.out HB4.out⟩
        case measure => simp [intOf]; omega
      · rw [HF.out k hlt] at hs
        cases hs
  · skip
    have HA : Hid (∀ W : World, Sl w1.heap.size W 2 (.slice A1 ks.length c1) ks → w1.heap.size ≤ W.heap.size → Calls Try.prog 28 #[.slice A1 ks.length c1, iv l] W (Ret (spanV (agL ks l) (agR ks l) true) W)) := hid fun W g1 g2 => by rw [← hok]; exact implAgreedSpan_any l W g1 g2
    have HF0 := ag_some hok
    clear hok
    generalize agL ks l = aL at HA HF0
    generalize agR ks l = aR at HA HF0
    have HF := hid HF0
    clear HF0
    go_wp2_with fail
    refine (HA.out _ HSl.out (Nat.le_refl _)).mono ?_
    rintro e w2 ⟨rfl, hb2⟩
    have HSb := hid ((HSl.out.below hb2 (Nat.le_refl _)).below (below_alloc w2 (.cells #[iv aL, iv aR] 47)) hb2.size)
    have HBb := hid (below_step (below_step HB1.out hb2) (below_alloc w2 (.cells #[iv aL, iv aR] 47)))
    have HXb := hid (Box2.new w2 aL aR 47)
    have hzb := hid (Nat.le_trans hb2.size (below_alloc w2 (.cells #[iv aL, iv aR] 47)).size)
    clear hb2 HSl HB1
    go_wp2
    go_loopw [7, 8] (fun sm t wr => ∃ (k : Nat) (b : Bool), k ≤ 61 ∧ t = .int .i64 k ∧ sm = .bool b ∧ Below (w2.alloc (.cells #[iv aL, iv aR] 47)).heap.size (w2.alloc (.cells #[iv aL, iv aR] 47)) wr) (fun _ t _ => 61 - (intOf t).toNat)
    case atStart => exact ⟨0, false, by omega, rfl, rfl, Below.refl _ _⟩
    case round =>
      obtain ⟨k, b, hk, rfl, rfl, hb⟩ := hrel
      have HB := hid hb
      have HX := hid (HXb.out.below hb)
      have HS := hid (HSb.out.below hb (Nat.le_trans hzb.out (Nat.le_refl _)))
      have hzw : Hid (w1.heap.size ≤ wr.heap.size) := hid (Nat.le_trans hzb.out hb.size)
      clear hb
      have hk0 : (0 : Int) ≤ (k : Int) := Int.natCast_nonneg _
      by_cases hlt : k ≤ 60
      rotate_left
      · obtain rfl : k = 61 := by omega
        clear hlt hk hk0
        cases b
        · skip
          obtain ⟨f1, f2, f3, f4, f5, -⟩ := HF.out
          have HSP : spanB aL aR = true := spanB_iff.2 ⟨f1, f2, f3⟩
          have HU : Hid (∀ (t : Int) (W : World), supB ks t l = true → Below wr.heap.size wr W → Calls Try.prog 29 #[.slice A1 ks.length c1, iv t, iv l] W (Ret (.bool true) W)) := hid fun t W g1 g2 => by rw [← g1]; exact implIsSupported_any t l W (HS.out.below g2 hzw.out) (Nat.le_trans hzw.out g2.size)
          have HI : Hid (∀ W : World, Calls Try.prog 31 #[.agg #[iv aL, iv aR]] W (Ret (.bool true) W)) := hid fun W => by rw [← HSP]; exact implIsSpan_any _ _ W
          have f4h := hid f4
          have f5h := hid f5
          clear HSP f1 f2 f3 f4 f5
          obtain ⟨-, x1, x2, -, -⟩ := HX.out
          go_wp2_with fail
          refine (HU.out _ _ f4h.out (Below.refl _ _)).mono ?_
          rintro e w3 ⟨rfl, hb3⟩
          have HB3 := hid hb3
          obtain ⟨-, y1, y2, -, -⟩ := HX.out.below hb3
          clear hb3 x1 x2
          go_wp2_with fail
          refine (HU.out _ _ f5h.out HB3.out).mono ?_
          rintro e w4 ⟨rfl, hb4⟩
          have HB4 := hid (below_step HB3.out hb4)
          obtain ⟨-, z1, z2, -, -⟩ := HX.out.below (below_step HB3.out hb4)
          clear hb4 y1 y2
          go_wp2_with fail
          refine (HI.out _).mono ?_
          rintro e w5 ⟨rfl, hb5⟩
          have HT := hid (below_step (below_step HBb.out HB.out) (below_step HB4.out hb5))
          clear hb5 z1 z2
          go_wp2_with fail
          refine (DrawDisagreeingWith_any _ ((HV.out.below HT.out (Nat.le_refl _)).mono HT.out.size) hn).mono ?_
          rintro e w10 ⟨u2, ms, x, y, rfl, hm2, hml, hom, hb10⟩
          have HT10 := hid (below_step (below_step HT.out hb10) (below_alloc w10 (.cells #[iv x, iv y] 47)))
          have HM10 := hid ((hom.sl hm2).below (below_alloc w10 (.cells #[iv x, iv y] 47)) (Nat.le_refl _))
          have HX10 := hid (Box2.new w10 x y 47)
          clear hb10 hom hm2
          go_wp2_with fail
          refine (implDisagreeingWith_any _ _ _ HM10.out (below_alloc _ _).size (by omega)).mono ?_
          rintro e w11 ⟨d, rfl, hod, hb11⟩
          have HT11 := hid (below_step HT10.out hb11)
          have HM11 := hid ((HM10.out.below hb11 (below_alloc _ _).size).mono (B' := w11.heap.size) (Nat.le_trans (below_alloc w10 (.cells #[iv x, iv y] 47)).size hb11.size))
          have HX11 := hid (HX10.out.below hb11)
          have HD11 := hid (Own.si (zs := disI ms x y ms.length) hod)
          clear hb11 hod
          obtain ⟨A5, c5, rfl, hq1, hq2, -, hcell⟩ := id HM11.out
          have HCM := hid hcell
          clear hcell
          go_wp2
          go_loopw [13] (fun t wr => ∃ k : Nat, k ≤ ms.length ∧ t = .int .i64 k ∧ Below w11.heap.size w11 wr) (fun t _ => ms.length - (intOf t).toNat)
          case atStart => exact ⟨0, Nat.zero_le _, rfl, Below.refl _ _⟩
          case round =>
            obtain ⟨k, hk, rfl, hb⟩ := hrel
            have HBR := hid hb
            by_cases hlt : k < ms.length
            rotate_left
            · clear hb HCM
              go_wp2
              go_ret
              exact ⟨rfl, below_step HT11.out HBR.out⟩
            obtain ⟨b, off, rfl, hbB, hcc⟩ := HCM.out (by omega)
            have c0 := cell_at hb hbB (Nat.le_refl _) (hcc k 0 hlt (by omega))
            have c1 := cell_at hb hbB (Nat.le_refl _) (hcc k 1 hlt (by omega))
            rw [Nat.add_zero] at c0
            obtain ⟨q9, q0, q1, -, -⟩ := HX11.out.below hb
            have hzw : w11.heap.size ≤ wr.heap.size := hb.size
            have hbw : b < wr.heap.size := by omega
            have hi0 : (0 : Int) ≤ (k : Int) := Int.natCast_nonneg _
            have hi1 : (k : Int) < (ms.length : Int) := by omega
            clear hb hcc HCM
            have hr := Below.refl wr.heap.size wr
            have hrA := (hr.alloc (Nat.le_refl _) (.cells #[iv 0, iv 0] 47)).drew
            have HS : Hid (∀ w' : World, Below wr.heap.size wr w' → (w'.cell? ⟨b, off + k * 2, none⟩ = some (iv (fld ms k 0)) ∧ w'.cell? ⟨b, off + k * 2 + 1, none⟩ = some (iv (fld ms k 1)) ∧ w'.cell? ⟨w10.heap.size, 0, none⟩ = some (iv x) ∧ w'.cell? ⟨w10.heap.size, 1, none⟩ = some (iv y))) := hid fun w' hx => ⟨(hx.cell (p := ⟨b, off + k * 2, none⟩) hbw).trans c0, (hx.cell (p := ⟨b, off + k * 2 + 1, none⟩) hbw).trans c1, (hx.cell (p := ⟨w10.heap.size, 0, none⟩) q9).trans q0, (hx.cell (p := ⟨w10.heap.size, 1, none⟩) q9).trans q1⟩
            go_upto_region 20 with fail
            go_cut [15] (fun s15 wx => s15 = .bool (meetB (fld ms k 0) (fld ms k 1) x y) ∧ Below wr.heap.size wr wx)
            case first =>
              go_region_held3 (fun w' => w'.cell? ⟨b, off + k * 2, none⟩ = some (iv (fld ms k 0)) ∧ w'.cell? ⟨b, off + k * 2 + 1, none⟩ = some (iv (fld ms k 1)) ∧ w'.cell? ⟨w10.heap.size, 0, none⟩ = some (iv x) ∧ w'.cell? ⟨w10.heap.size, 1, none⟩ = some (iv y)) (first | with_reducible exact HS.out _ hr.drew | with_reducible exact HS.out _ hrA | with_reducible exact HS.out _ HZ1.out | with_reducible exact HS.out _ (HZ1.out.alloc HZ1.out.size _) | (exact HS.out _ ((HZ1.out.setCell (by simp) _).setCell (by simp) _)) | (exact HS.out _ (((HZ1.out.alloc HZ1.out.size _).setCell HZ1.out.size _).setCell HZ1.out.size _)) | go_keep)
                (first | (go_at_call 34; refine (implMeetSpans_any _ _ _ _ _).mono ?_; rintro e w12 ⟨rfl, hb12⟩; (first | have HZ1 := hid (below_step hr.drew hb12) | have HZ1 := hid (below_step hrA hb12)); (first | (have Q1 := box_step_drew (b := wr.heap.size) rfl hb12; obtain ⟨hzA, hcA, hfA⟩ := Q1) | skip)))
              all_goals (go_wp2_with fail; go_meet; refine ⟨rfl, ?_⟩)
              all_goals (first | exact ((HZ1.out.setCell (by simp) _).setCell (by simp) _) | exact (HZ1.out.alloc HZ1.out.size _) | exact (((HZ1.out.alloc HZ1.out.size _).setCell HZ1.out.size _).setCell HZ1.out.size _))
            case rest =>
              obtain ⟨rfl, hb13⟩ := hcut
              have HB13 := hid (below_step HBR.out hb13)
              have HIN := hid (contains_any (k : Int) wc (HD11.out.below HB13.out (Nat.le_refl _)))
              rw [dis_has hlt] at HIN
              clear hb13 hr hrA HS c0 c1 q0 q1
              cases hmt : meetB (fld ms k 0) (fld ms k 1) x y
              · rw [hmt] at HIN
                clear hmt
                go_wp2_with (go_at_call 35; refine HIN.out.mono ?_; rintro e w14 ⟨rfl, rfl⟩)
                go_roundw
                case rel => exact ⟨k + 1, by omega, by go_num, HB13.out⟩
                case measure => simp [intOf]; omega
              · rw [hmt] at HIN
                clear hmt
                go_wp2_with (go_at_call 35; refine HIN.out.mono ?_; rintro e w14 ⟨rfl, rfl⟩)
                go_roundw
                case rel => exact ⟨k + 1, by omega, by go_num, HB13.out⟩
                case measure => simp [intOf]; omega
        · skip
          obtain ⟨f1, f2, f3, f4, f5, -⟩ := HF.out
          have HSP : spanB aL aR = true := spanB_iff.2 ⟨f1, f2, f3⟩
          have HU : Hid (∀ (t : Int) (W : World), supB ks t l = true → Below wr.heap.size wr W → Calls Try.prog 29 #[.slice A1 ks.length c1, iv t, iv l] W (Ret (.bool true) W)) := hid fun t W g1 g2 => by rw [← g1]; exact implIsSupported_any t l W (HS.out.below g2 hzw.out) (Nat.le_trans hzw.out g2.size)
          have HI : Hid (∀ W : World, Calls Try.prog 31 #[.agg #[iv aL, iv aR]] W (Ret (.bool true) W)) := hid fun W => by rw [← HSP]; exact implIsSpan_any _ _ W
          have f4h := hid f4
          have f5h := hid f5
          clear HSP f1 f2 f3 f4 f5
          obtain ⟨-, x1, x2, -, -⟩ := HX.out
          go_wp2_with fail
          refine (HU.out _ _ f4h.out (Below.refl _ _)).mono ?_
          rintro e w3 ⟨rfl, hb3⟩
          have HB3 := hid hb3
          obtain ⟨-, y1, y2, -, -⟩ := HX.out.below hb3
          clear hb3 x1 x2
          go_wp2_with fail
          refine (HU.out _ _ f5h.out HB3.out).mono ?_
          rintro e w4 ⟨rfl, hb4⟩
          have HB4 := hid (below_step HB3.out hb4)
          obtain ⟨-, z1, z2, -, -⟩ := HX.out.below (below_step HB3.out hb4)
          clear hb4 y1 y2
          go_wp2_with fail
          refine (HI.out _).mono ?_
          rintro e w5 ⟨rfl, hb5⟩
          have HT := hid (below_step (below_step HBb.out HB.out) (below_step HB4.out hb5))
          clear hb5 z1 z2
          go_wp2_with fail
          refine (DrawDisagreeingWith_any _ ((HV.out.below HT.out (Nat.le_refl _)).mono HT.out.size) hn).mono ?_
          rintro e w10 ⟨u2, ms, x, y, rfl, hm2, hml, hom, hb10⟩
          have HT10 := hid (below_step (below_step HT.out hb10) (below_alloc w10 (.cells #[iv x, iv y] 47)))
          have HM10 := hid ((hom.sl hm2).below (below_alloc w10 (.cells #[iv x, iv y] 47)) (Nat.le_refl _))
          have HX10 := hid (Box2.new w10 x y 47)
          clear hb10 hom hm2
          go_wp2_with fail
          refine (implDisagreeingWith_any _ _ _ HM10.out (below_alloc _ _).size (by omega)).mono ?_
          rintro e w11 ⟨d, rfl, hod, hb11⟩
          have HT11 := hid (below_step HT10.out hb11)
          have HM11 := hid ((HM10.out.below hb11 (below_alloc _ _).size).mono (B' := w11.heap.size) (Nat.le_trans (below_alloc w10 (.cells #[iv x, iv y] 47)).size hb11.size))
          have HX11 := hid (HX10.out.below hb11)
          have HD11 := hid (Own.si (zs := disI ms x y ms.length) hod)
          clear hb11 hod
          obtain ⟨A5, c5, rfl, hq1, hq2, -, hcell⟩ := id HM11.out
          have HCM := hid hcell
          clear hcell
          go_wp2
          go_loopw [13] (fun t wr => ∃ k : Nat, k ≤ ms.length ∧ t = .int .i64 k ∧ Below w11.heap.size w11 wr) (fun t _ => ms.length - (intOf t).toNat)
          case atStart => exact ⟨0, Nat.zero_le _, rfl, Below.refl _ _⟩
          case round =>
            obtain ⟨k, hk, rfl, hb⟩ := hrel
            have HBR := hid hb
            by_cases hlt : k < ms.length
            rotate_left
            · clear hb HCM
              go_wp2
              go_ret
              exact ⟨rfl, below_step HT11.out HBR.out⟩
            obtain ⟨b, off, rfl, hbB, hcc⟩ := HCM.out (by omega)
            have c0 := cell_at hb hbB (Nat.le_refl _) (hcc k 0 hlt (by omega))
            have c1 := cell_at hb hbB (Nat.le_refl _) (hcc k 1 hlt (by omega))
            rw [Nat.add_zero] at c0
            obtain ⟨q9, q0, q1, -, -⟩ := HX11.out.below hb
            have hzw : w11.heap.size ≤ wr.heap.size := hb.size
            have hbw : b < wr.heap.size := by omega
            have hi0 : (0 : Int) ≤ (k : Int) := Int.natCast_nonneg _
            have hi1 : (k : Int) < (ms.length : Int) := by omega
            clear hb hcc HCM
            have hr := Below.refl wr.heap.size wr
            have hrA := (hr.alloc (Nat.le_refl _) (.cells #[iv 0, iv 0] 47)).drew
            have HS : Hid (∀ w' : World, Below wr.heap.size wr w' → (w'.cell? ⟨b, off + k * 2, none⟩ = some (iv (fld ms k 0)) ∧ w'.cell? ⟨b, off + k * 2 + 1, none⟩ = some (iv (fld ms k 1)) ∧ w'.cell? ⟨w10.heap.size, 0, none⟩ = some (iv x) ∧ w'.cell? ⟨w10.heap.size, 1, none⟩ = some (iv y))) := hid fun w' hx => ⟨(hx.cell (p := ⟨b, off + k * 2, none⟩) hbw).trans c0, (hx.cell (p := ⟨b, off + k * 2 + 1, none⟩) hbw).trans c1, (hx.cell (p := ⟨w10.heap.size, 0, none⟩) q9).trans q0, (hx.cell (p := ⟨w10.heap.size, 1, none⟩) q9).trans q1⟩
            go_upto_region 20 with fail
            go_cut [15] (fun s15 wx => s15 = .bool (meetB (fld ms k 0) (fld ms k 1) x y) ∧ Below wr.heap.size wr wx)
            case first =>
              go_region_held3 (fun w' => w'.cell? ⟨b, off + k * 2, none⟩ = some (iv (fld ms k 0)) ∧ w'.cell? ⟨b, off + k * 2 + 1, none⟩ = some (iv (fld ms k 1)) ∧ w'.cell? ⟨w10.heap.size, 0, none⟩ = some (iv x) ∧ w'.cell? ⟨w10.heap.size, 1, none⟩ = some (iv y)) (first | with_reducible exact HS.out _ hr.drew | with_reducible exact HS.out _ hrA | with_reducible exact HS.out _ HZ1.out | with_reducible exact HS.out _ (HZ1.out.alloc HZ1.out.size _) | (exact HS.out _ ((HZ1.out.setCell (by simp) _).setCell (by simp) _)) | (exact HS.out _ (((HZ1.out.alloc HZ1.out.size _).setCell HZ1.out.size _).setCell HZ1.out.size _)) | go_keep)
                (first | (go_at_call 34; refine (implMeetSpans_any _ _ _ _ _).mono ?_; rintro e w12 ⟨rfl, hb12⟩; (first | have HZ1 := hid (below_step hr.drew hb12) | have HZ1 := hid (below_step hrA hb12)); (first | (have Q1 := box_step_drew (b := wr.heap.size) rfl hb12; obtain ⟨hzA, hcA, hfA⟩ := Q1) | skip)))
              all_goals (go_wp2_with fail; go_meet; refine ⟨rfl, ?_⟩)
              all_goals (first | exact ((HZ1.out.setCell (by simp) _).setCell (by simp) _) | exact (HZ1.out.alloc HZ1.out.size _) | exact (((HZ1.out.alloc HZ1.out.size _).setCell HZ1.out.size _).setCell HZ1.out.size _))
            case rest =>
              obtain ⟨rfl, hb13⟩ := hcut
              have HB13 := hid (below_step HBR.out hb13)
              have HIN := hid (contains_any (k : Int) wc (HD11.out.below HB13.out (Nat.le_refl _)))
              rw [dis_has hlt] at HIN
              clear hb13 hr hrA HS c0 c1 q0 q1
              cases hmt : meetB (fld ms k 0) (fld ms k 1) x y
              · rw [hmt] at HIN
                clear hmt
                go_wp2_with (go_at_call 35; refine HIN.out.mono ?_; rintro e w14 ⟨rfl, rfl⟩)
                go_roundw
                case rel => exact ⟨k + 1, by omega, by go_num, HB13.out⟩
                case measure => simp [intOf]; omega
              · rw [hmt] at HIN
                clear hmt
                go_wp2_with (go_at_call 35; refine HIN.out.mono ?_; rintro e w14 ⟨rfl, rfl⟩)
                go_roundw
                case rel => exact ⟨k + 1, by omega, by go_num, HB13.out⟩
                case measure => simp [intOf]; omega
      have hkd : (k : Int) ≤ 60 := by omega
      cases b
      · skip
        have hcl := cntTo_le ks (k : Int) ks.length
        by_cases hl0 : 0 ≤ l
        rotate_left
        · have hs : supB ks (k : Int) l = false := supB_out (fun h => hl0 h.1)
          have HU : Hid (∀ W : World, Below wr.heap.size wr W → Calls Try.prog 29 #[.slice A1 ks.length c1, iv (k : Int), iv l] W (Ret (.bool false) W)) := hid fun W g2 => by rw [← hs]; exact implIsSupported_any _ l W (HS.out.below g2 hzw.out) (Nat.le_trans hzw.out g2.size)
          clear hs
          go_wp2_with fail
          refine (HU.out _ (Below.refl _ _)).mono ?_
          rintro e w3 ⟨rfl, hb3⟩
          have HB3 := hid hb3
          clear hb3
          go_wp2
          go_roundw
          case rel => exact ⟨k + 1, _, by omega, by go_num, rfl, below_step HB.out HB3.out⟩
          case measure => simp [intOf]; omega
        by_cases hl1 : l < (ks.length : Int)
        rotate_left
        · have hs : supB ks (k : Int) l = false := supB_out (fun h => by omega)
          have HU : Hid (∀ W : World, Below wr.heap.size wr W → Calls Try.prog 29 #[.slice A1 ks.length c1, iv (k : Int), iv l] W (Ret (.bool false) W)) := hid fun W g2 => by rw [← hs]; exact implIsSupported_any _ l W (HS.out.below g2 hzw.out) (Nat.le_trans hzw.out g2.size)
          clear hs
          go_wp2_with fail
          refine (HU.out _ (Below.refl _ _)).mono ?_
          rintro e w3 ⟨rfl, hb3⟩
          have HB3 := hid hb3
          clear hb3
          go_wp2
          go_roundw
          case rel => exact ⟨k + 1, _, by omega, by go_num, rfl, below_step HB.out HB3.out⟩
          case measure => simp [intOf]; omega
        have hin := supB_in (ks := ks) (t := (k : Int)) (liars := l) ⟨hl0, by omega⟩
        cases hs : supB ks (k : Int) l
        · rw [hs] at hin
          have hcm : decide ((ks.length : Int) - l ≤ (cntTo ks (k : Int) ks.length : Nat)) = false := hin.symm
          clear hin
          have HU : Hid (∀ W : World, Below wr.heap.size wr W → Calls Try.prog 29 #[.slice A1 ks.length c1, iv (k : Int), iv l] W (Ret (.bool false) W)) := hid fun W g2 => by rw [← hs]; exact implIsSupported_any _ l W (HS.out.below g2 hzw.out) (Nat.le_trans hzw.out g2.size)
          clear hs
          go_wp2_with fail
          refine (HU.out _ (Below.refl _ _)).mono ?_
          rintro e w3 ⟨rfl, hb3⟩
          have HB3 := hid hb3
          clear hb3
          go_wp2_with fail
          refine (implCountAt_any _ _ (HS.out.below HB3.out hzw.out) (Nat.le_trans hzw.out HB3.out.size)).mono ?_
          rintro e w4 ⟨rfl, hb4⟩
          have HB4 := hid (below_step HB3.out hb4)
          obtain ⟨-, z1, z2, -, -⟩ := HX.out.below (below_step HB3.out hb4)
          clear hb4
          go_wp2
          go_roundw
          case rel => exact ⟨k + 1, _, by omega, by go_num, rfl, below_step HB.out HB4.out⟩
          case measure => simp [intOf]; omega
        · rw [hs] at hin
          have hcm : decide ((ks.length : Int) - l ≤ (cntTo ks (k : Int) ks.length : Nat)) = true := hin.symm
          obtain ⟨hL, hR⟩ := HF.out.2.2.2.2.2 k hlt hs
          clear hin
          have HU : Hid (∀ W : World, Below wr.heap.size wr W → Calls Try.prog 29 #[.slice A1 ks.length c1, iv (k : Int), iv l] W (Ret (.bool true) W)) := hid fun W g2 => by rw [← hs]; exact implIsSupported_any _ l W (HS.out.below g2 hzw.out) (Nat.le_trans hzw.out g2.size)
          clear hs
          go_wp2_with fail
          refine (HU.out _ (Below.refl _ _)).mono ?_
          rintro e w3 ⟨rfl, hb3⟩
          have HB3 := hid hb3
          clear hb3
          go_wp2_with fail
          refine (implCountAt_any _ _ (HS.out.below HB3.out hzw.out) (Nat.le_trans hzw.out HB3.out.size)).mono ?_
          rintro e w4 ⟨rfl, hb4⟩
          have HB4 := hid (below_step HB3.out hb4)
          obtain ⟨-, z1, z2, -, -⟩ := HX.out.below (below_step HB3.out hb4)
          clear hb4
          go_wp2
          go_roundw
          case rel => exact ⟨k + 1, _, by omega, by go_num, rfl, below_step HB.out HB4.out⟩
          case measure => simp [intOf]; omega
      · skip
        have hcl := cntTo_le ks (k : Int) ks.length
        by_cases hl0 : 0 ≤ l
        rotate_left
        · have hs : supB ks (k : Int) l = false := supB_out (fun h => hl0 h.1)
          have HU : Hid (∀ W : World, Below wr.heap.size wr W → Calls Try.prog 29 #[.slice A1 ks.length c1, iv (k : Int), iv l] W (Ret (.bool false) W)) := hid fun W g2 => by rw [← hs]; exact implIsSupported_any _ l W (HS.out.below g2 hzw.out) (Nat.le_trans hzw.out g2.size)
          clear hs
          go_wp2_with fail
          refine (HU.out _ (Below.refl _ _)).mono ?_
          rintro e w3 ⟨rfl, hb3⟩
          have HB3 := hid hb3
          clear hb3
          go_wp2
          go_roundw
          case rel => exact ⟨k + 1, _, by omega, by go_num, rfl, below_step HB.out HB3.out⟩
          case measure => simp [intOf]; omega
        by_cases hl1 : l < (ks.length : Int)
        rotate_left
        · have hs : supB ks (k : Int) l = false := supB_out (fun h => by omega)
          have HU : Hid (∀ W : World, Below wr.heap.size wr W → Calls Try.prog 29 #[.slice A1 ks.length c1, iv (k : Int), iv l] W (Ret (.bool false) W)) := hid fun W g2 => by rw [← hs]; exact implIsSupported_any _ l W (HS.out.below g2 hzw.out) (Nat.le_trans hzw.out g2.size)
          clear hs
          go_wp2_with fail
          refine (HU.out _ (Below.refl _ _)).mono ?_
          rintro e w3 ⟨rfl, hb3⟩
          have HB3 := hid hb3
          clear hb3
          go_wp2
          go_roundw
          case rel => exact ⟨k + 1, _, by omega, by go_num, rfl, below_step HB.out HB3.out⟩
          case measure => simp [intOf]; omega
        have hin := supB_in (ks := ks) (t := (k : Int)) (liars := l) ⟨hl0, by omega⟩
        cases hs : supB ks (k : Int) l
        · rw [hs] at hin
          have hcm : decide ((ks.length : Int) - l ≤ (cntTo ks (k : Int) ks.length : Nat)) = false := hin.symm
          clear hin
          have HU : Hid (∀ W : World, Below wr.heap.size wr W → Calls Try.prog 29 #[.slice A1 ks.length c1, iv (k : Int), iv l] W (Ret (.bool false) W)) := hid fun W g2 => by rw [← hs]; exact implIsSupported_any _ l W (HS.out.below g2 hzw.out) (Nat.le_trans hzw.out g2.size)
          clear hs
          go_wp2_with fail
          refine (HU.out _ (Below.refl _ _)).mono ?_
          rintro e w3 ⟨rfl, hb3⟩
          have HB3 := hid hb3
          clear hb3
          go_wp2_with fail
          refine (implCountAt_any _ _ (HS.out.below HB3.out hzw.out) (Nat.le_trans hzw.out HB3.out.size)).mono ?_
          rintro e w4 ⟨rfl, hb4⟩
          have HB4 := hid (below_step HB3.out hb4)
          obtain ⟨-, z1, z2, -, -⟩ := HX.out.below (below_step HB3.out hb4)
          clear hb4
          go_wp2
          go_roundw
          case rel => exact ⟨k + 1, _, by omega, by go_num, rfl, below_step HB.out HB4.out⟩
          case measure => simp [intOf]; omega
        · rw [hs] at hin
          have hcm : decide ((ks.length : Int) - l ≤ (cntTo ks (k : Int) ks.length : Nat)) = true := hin.symm
          obtain ⟨hL, hR⟩ := HF.out.2.2.2.2.2 k hlt hs
          clear hin
          have HU : Hid (∀ W : World, Below wr.heap.size wr W → Calls Try.prog 29 #[.slice A1 ks.length c1, iv (k : Int), iv l] W (Ret (.bool true) W)) := hid fun W g2 => by rw [← hs]; exact implIsSupported_any _ l W (HS.out.below g2 hzw.out) (Nat.le_trans hzw.out g2.size)
          clear hs
          go_wp2_with fail
          refine (HU.out _ (Below.refl _ _)).mono ?_
          rintro e w3 ⟨rfl, hb3⟩
          have HB3 := hid hb3
          clear hb3
          go_wp2_with fail
          refine (implCountAt_any _ _ (HS.out.below HB3.out hzw.out) (Nat.le_trans hzw.out HB3.out.size)).mono ?_
          rintro e w4 ⟨rfl, hb4⟩
          have HB4 := hid (below_step HB3.out hb4)
          obtain ⟨-, z1, z2, -, -⟩ := HX.out.below (below_step HB3.out hb4)
          clear hb4
          go_wp2
          go_roundw
          case rel => exact ⟨k + 1, _, by omega, by go_num, rfl, below_step HB.out HB4.out⟩
          case measure => simp [intOf]; omega

set_option maxRecDepth 100000 in
theorem lawAgreedTimes_lifted (os : Os) (started : os.Started) (H : Type) (enc : TypeId × Value → H) :
    ReturnsInHanded {} Try.checked os 4 .any (Rows.fnAgreedTimesSpec.pre6 enc Try.prog Try.f4 Rows.fnAgreedTimesRow.domain false) (Rows.fnAgreedTimesSpec.post enc Try.prog Try.f4 false true false false) := by
  refine returnsInHanded_of_change (C := Try.checked) Try.own started (by kernel_rfl) Try.func4
    (ChangeSpec.witness6 (enc := enc) (C := Try.checked) false ⟨#[], #[.slice none 0 0], []⟩ 8 (by kernel_rfl) (by kernel_rfl) (by kernel_rfl) (by kernel_rfl)) ?_
  intro W base args ds gs before hval0 hW hcnd _
  have hval : ∀ (j : Nat) t v, Try.f4.params[j]? = some t → args[j]? = some v → Value.okWide Try.prog W .any base t v := hval0
  have hW' := hW
  obtain ⟨p, q, hA0, hV, rfl, hfz, hnd⟩ := hW
  have hA : DataW.TrodAll enc Try.prog W 0 (fun _ => true) true Try.f4.params.toList args.toList ds p := hA0
  rw [Try.params4] at hA hval
  obtain ⟨v0, d0, rfl, rfl, h0⟩ := trodAll_one hA
  obtain ⟨rfl, rfl⟩ := trodVars_none hV
  obtain ⟨n, hB0⟩ := open_bytes Try.underlying41 Try.underlying5 (by kernel_rfl) (hval 0 41 v0 rfl rfl) h0
  refine (lawAgreedTimes_any W hB0).mono fun e W' ⟨he, hb⟩ => ?_
  subst he
  exact ⟨_, rfl, post_true hW' rfl Try.laidOut (by kernel_rfl) rfl Try.underlying4 rfl hb⟩

theorem lawAgreedTimes_holds : Rows.FnAgreedTimesSaid :=
  OpenClaim.holds_of_wide 4 Try.f4 rfl rfl rfl rfl rfl rfl rfl ⟨rfl, rfl, rfl, rfl, rfl⟩ rfl rfl rfl rfl rfl (by kernel_rfl) Try.func4 (by kernel_rfl)
    (of_decide_eq_true (by kernel_rfl)) (by unfold Func.isWrapper; first | (rw [if_pos (by decide +kernel)]; kernel_rfl) | (rw [if_neg (by decide +kernel)]; exact ⟨rfl, rfl⟩))
    (fun os started H enc _ => lawAgreedTimes_lifted os started H enc)end Go.Proofs.Ytkdpfbodmfjkkaa
